/-
  The reference's sxReadDef: small facts. Own work.
-/
import Derived.Test.YtikgblkfmpecfaaGreatDoorWFF
import Derived.Test.YtikgblkfmpecfaaGreatDoorWCC
import Derived.Test.YtikgblkfmpecfaaGreatDoorWL
set_option linter.all false
set_option maxRecDepth 100000
set_option maxHeartbeats 8000000
namespace Go.Proofs.YtikgblkfmpecfaaGreatDoor
open Go.RowKit
theorem ado (s:ByteArray):∀(n k:Nat),s.size-k=n->∀p,dD s k=.error p->p.2≠0:=by
 intro n;induction n using Nat.strongRecOn with
 | _ n ih =>
  intro k hn p h
  rw[dD]at h
  split at h
  ·rename_i hk
   split at h
   ·exact ih (s.size-(k+1)) (by omega) (k+1) rfl p h
   ·split at h
    ·have he:=(oH (p:=bV) (s:=s) (i:=k+1) hk).1
     cases hr:dD s (endOf bV s (k+1))with
     | ok r=>rw[hr]at h;cases h
     | error e=>rw[hr]at h;cases h;exact ih (s.size-endOf bV s (k+1)) (by omega) _ rfl p hr
    ·split at h
     ·split at h
      ·cases h;simp
      ·have he:=(oH (p:=aP) (s:=s) (i:=k+1) hk).1
       cases hr:dD s (endOf aP s (k+1))with
       | ok r=>rw[hr]at h;cases h
       | error e=>rw[hr]at h;cases h;exact ih (s.size-endOf aP s (k+1)) (by omega) _ rfl p hr
     ·split at h
      ·cases hr:dD s (k+1)with
       | ok r=>rw[hr]at h;cases h
       | error e=>rw[hr]at h;cases h;exact ih (s.size-(k+1)) (by omega) _ rfl p hr
      ·cases h;simp
  ·cases h
theorem adp {s:ByteArray} {p:Int×Int} (h:iU s=.error p):p.2≠0:=by
 unfold iU at h;split at h
 ·cases h;simp
 ·exact ado s _ 0 rfl p h
theorem PU {leaf:Nd->Option W2}:∀(r:Rd) (i:Nat) (st:List W2) (p:Int×Int),dG leaf r i st=some p->p.2≠0
 | [],_,_,p,h=>by cases h
 | x::r,i,st,p,h=>by
  unfold dG at h;split at h
  ·cases h;simp
  ·split at h
   ·split at h
    ·split at h
     ·exact PU r _ _ p h
     ·cases h;simp
    ·cases h;simp
   ·split at h
    ·exact PU r _ _ p h
    ·cases h;simp only;split<;>simp
theorem Gn {L:List Df} {s:ByteArray} (h:jJ L s=none):dX L s=none:=by unfold dX;rw[h]
theorem Bh {w:World} {B:Nat} {v:Value} {ts:List Tk} (h:vg w B v ts) (hok:fA ts) (hl:1<=ts.length) (hm:ts.length<=40000) :
  fC (w.heap.size+1) w.heap.size ts (w.alloc (.cells #[v,.int .i64 1,.slice none 0 0,.slice none 0 0,.bool false] 169)) 1 [] [] false:=by
 refine⟨v,.slice none 0 0,.slice none 0 0,by omega,by simp,by simp,by simp,by simp,by simp,by simp,λi=>by simp,(vK h hok).keep (aj _ _),?_,hl,hm,⟨by simp,.inl ⟨rfl,rfl⟩⟩,⟨by simp,.inl ⟨rfl,rfl⟩⟩⟩;rintro b o n c rfl;rcases h.2 with⟨e,_⟩|⟨g,cap,cur,e,_,hg,_⟩
 ·cases e
 ·cases e;have:=(Array.getElem?_eq_some_iff.1 hg).1;omega
theorem J5 {w w':World} (hb:Below w.heap.size w w') {v:Value} {xs:List Int} (h:xF w v xs):xF w' v xs:=iT.mono h λ_ _ _ ⟨hi,r⟩=>⟨hi,ak hb r⟩
theorem adq (a:Option Addr) (cap:Nat) (L:List Df) (s:ByteArray) (w:World) (hv:aG w (.slice a L.length cap) L) (hn:L.length<=1048576) (hsm:∀d∈L,Sm (d.inn,d.out)) (p:Int×Int) (t t2:Tk) (r:List Tk) (o:Rd) (hok:fA (t::t2::r)) (htl:(t::t2::r).length<=40000) (gk:(t.kind != 1)=false)
  (hy2:bJ ((t::t2::r).drop 1) ⟨#[61]⟩=true) (htk:Calls Tryz.prog 97 #[.string s] (w.alloc (.cells #[.string ⟨#[]⟩,.int .i64 0,.int .i64 0,.slice none 0 0] 101)) (EY (.ok (t::t2::r)) (w.alloc (.cells #[.string ⟨#[]⟩,.int .i64 0,.int .i64 0,.slice none 0 0] 101))))
  (mG:∀(bx:Nat) (w2:World),fC (bx+1) bx (t::t2::r) w2 2 [] [] false->Calls Tryz.prog 98 #[.pointer (some ⟨bx,0,none⟩)] w2 (qg (bx+1) bx (t::t2::r) w2 r [] ⟨false,[],o⟩))
  (qw:∀(w5:World) (vn va:Value),aG w5 (.slice a L.length cap) L->aZ w5 vn (o.map Prod.fst)->xF w5 va (o.map Prod.snd)->o.length<=40000->Calls Tryz.prog 99 #[.slice a L.length cap,vn,va] w5 λe w'=>e=.returned (.tuple #[.int .i64 p.1,.int .i64 p.2])/\Below w5.heap.size w5 w')
  (HE:Hid (dX L s=none)) (gc:(p.2 != 0)=true):Calls Tryz.prog 179 #[.slice a L.length cap,.string s] w (DC (dX L s) w):=by
 have hrl:r.length<=40000:=by simp at htl;omega
 go_enter Tryz.func179,Tryz.ntmps179;go_wp2_with (first|(go_at_call 97;refine htk.mono ?_;rintro e w1⟨v1,rfl,ho1,hb1⟩;obtain⟨b1,o1,c1,he1,hc1,j0,j1,j2⟩:=(vK ho1 hok).head;subst he1;have hB1:Below (w.heap.size+1) (w.alloc (.cells #[.string ⟨#[]⟩,.int .i64 0,.int .i64 0,.slice none 0 0] 101)) w1:=hb1.mono (by simp);have jg:w.heap.size+1<=w1.heap.size:=(by have:=hB1.size;simpa using this))|(go_at_call 200;refine(Ar _ _ _ 1 _ _ _ _ _ (Bh ho1 hok (by simp) htl) hy2).mono ?_;rintro e w2⟨rfl,h2,hx2⟩;have hB2:Below (w.heap.size+1) (w.alloc (.cells #[.string ⟨#[]⟩,.int .i64 0,.int .i64 0,.slice none 0 0] 101)) w2:=hB1.trans (((Below.refl _ _).alloc jg _).trans (rZ hx2 jg (by simp;omega)));obtain⟨bx,hbx⟩:∃bx,bx=w1.heap.size:=⟨_,rfl⟩;have jj:w2.cell? ⟨b1,o1+1,none⟩=some (.string t.text):=(hx2.cell.1 b1 (o1+1) (by have:=cell_lt j1;simp;omega) (by have:=cell_lt j1;omega)).trans (jy j1 _);have Gp:b1<bx:=(by have:=cell_lt j1;omega);rw[<-hbx]at h2 jg ⊢;clear hbx;obtain⟨_,k4,_,_,s4⟩:=h2.cells)|(go_at_call 98;refine(mG bx _ h2).mono ?_;rintro e w3⟨⟨lT,uq,uw,h3,vZ,xJ,_,Bj⟩,hF3,_,rfl⟩;obtain⟨k1,xK,_,_,xM⟩:=h3.cells;have hB3:=hB2.trans (yU hF3 (B:=w.heap.size+1) (by omega) (by omega));obtain⟨r0,r1,r2,r3,rf,hz1,aF⟩:=aY hB3;obtain⟨rfl,rfl⟩:=xJ (by first|rfl|trivial);have PV:¬((lT:Int)<(r.length:Int)+1+1):=(by have h9:=congrArg List.length vZ;simp at h9;omega);obtain⟨E_,PW,Gq,hv3⟩:=id h3;obtain⟨jZ,cn3,rfl⟩:=hv3.on.slice;obtain⟨PX,ca3,rfl⟩:=jc hv3.oa;have k2:=hv3.c2;have k3:=hv3.c3;have hol:o.length<=40000:=(by have:=Bj;simp at this;omega);have Bl:=(hF3.cell (b:=b1) (o:=o1+1) (by omega) (by omega)).trans jj))
 have AU:=cell_lt Bl;have PY:w.heap.size+1<=w3.heap.size:=by omega
 refine bC (C:=ah (aQ) _) 3 [0,1,2,3,4,5,6,7,8,9,10,11] (by kernel_rfl) (by kernel_rfl) (ah.grows _ _) (ah.refl _ _) ?_;iterate 10 (apply ay rfl rfl rfl;(focus intro u hc' hf';go_simp<;>rfl);intro K hK;go_simp;apply hK;clear hK K)
 refine fG rfl rfl rfl (ah.grows _ _) (ah.refl _ _) (λb=>.pointer (some ⟨b,0,none⟩)) (λK hK=>?_);apply Exists.intro;refine⟨λw' hw'=>?_,λbb w5 hw5 hb5 aI hNb hnb=>?_⟩
 ·obtain⟨hc',hf'⟩:=hw'.cell;try simp only[World.size_drew]at hc' hf'
  go_simp;rfl
 go_simp;refine hK _ _ _ ?_;clear hK K;refine eH rfl rfl rfl (ah.grows _ _) hw5 (λK hK=>?_);intro w6 hw6 hb6;obtain⟨m0,m1,m2⟩:=made_cell ((hb6.block bb (made_cell aI).2.2).trans aI);refine⟨(((w6.setCell ⟨bb,0,none⟩ (.string t.text)).setCell ⟨bb,1,none⟩ (.int .i64 0)).setCell ⟨bb,2,none⟩ (.int .i64 0)).setCell ⟨bb,3,none⟩ (.slice jZ (o.map Prod.fst).length cn3),?_,⟨aB (aB (aB (aB hw6 (.inl hNb) _) (.inl hNb) _) (.inl hNb) _) (.inl hNb) _,by simp,λj _ hj _=>by rw[Below.heap_setCell _ _ _ _ (λh=>hj (by simp[h])),Below.heap_setCell _ _ _ _ (λh=>hj (by simp[h])),Below.heap_setCell _ _ _ _ (λh=>hj (by simp[h])),Below.heap_setCell _ _ _ _ (λh=>hj (by simp[h]))]⟩,?_⟩
 ·go_simp
 go_simp;refine hK _ _ _ ?_;clear hK K;refine aK ?_;have hbb:w3.heap.size<=bb:=by simpa using hNb
 obtain⟨W4,eX⟩:∃W4,W4=(((w6.setCell ⟨bb,0,none⟩ (.string t.text)).setCell ⟨bb,1,none⟩ (.int .i64 0)).setCell ⟨bb,2,none⟩ (.int .i64 0)).setCell ⟨bb,3,none⟩ (.slice jZ (o.map Prod.fst).length cn3):=⟨_,rfl⟩
 try simp only[List.length_map]at eX
 rw[<-eX];have hbW:Below w3.heap.size w3 W4:=by rw[eX];exact(((((Below.refl _ w3).drew.trans (hw6.toBelow.mono (by simp))).setCell hbb _).setCell hbb _).setCell hbb _).setCell hbb _
 have e0:W4.cell? ⟨bb,0,none⟩=some (.string t.text):=by rw[eX];go_simp
 have e1:W4.cell? ⟨bb,1,none⟩=some (.int .i64 0):=by rw[eX];go_simp
 have e2:W4.cell? ⟨bb,2,none⟩=some (.int .i64 0):=by rw[eX];go_simp
 have e3:W4.cell? ⟨bb,3,none⟩=some (.slice jZ (o.map Prod.fst).length cn3):=by rw[eX];go_simp
 have ef:∀j,W4.frozen? ⟨bb,j,none⟩=false:=λj=>by rw[eX];simpa using m1 j
 have hv4:=jP hv3 hbW;replace k2:=hv4.c2;replace k3:=hv4.c3;have hon:=hv4.on;have uM:=hv4.on.at
 simp only[List.length_map]at uM;have uN:=JR hv4.oa;simp only[List.length_map]at uN;have Bo:aG W4 (.slice a L.length cap) L:=(hv.keep (aj _ _)).keep ((hB3.trans (hbW.mono (by omega))).mono (by simp));have PZ:bx<W4.heap.size:=cell_lt k2;have kR:bb<W4.heap.size:=cell_lt e0;have J6:∀j,(Value.slice jZ (o.map Prod.fst).length cn3).ownBlock=some j->¬j=bb:=λj hj e=>by have:=(World.ownsRow.lt hv3.on j hj).2;omega
 clear eX hw6 hb6 m0 m1 m2 hw5 hb5 aI hNb hnb r0 r1 r2 r3 rf hz1 aF;go_wp2_with fail
 have jF:∀{w':World},ah aQ W4.drew w'->Below W4.heap.size W4 w':=λh=>(Below.refl W4.heap.size W4).drew.trans (h.toBelow.mono (by simp));refine bC (C:=ah (aQ) _) 2 [0,1,2,3,4,5,6,7,8,9,10,11,12,13,14] (by kernel_rfl) (by kernel_rfl) (ah.grows _ _) (ah.refl _ _) ?_;iterate 9 (apply ay rfl rfl rfl;(focus intro u hc' hf';go_simp<;>rfl);intro K hK;go_simp;apply hK;clear hK K)
 refine aX rfl rfl rfl (ah.grows _ _) (ah.refl _ _) 99 (λK hK=>?_);apply Exists.intro;refine⟨λw' hw'=>?_,λw' hw' hbw=>?_⟩;(focus go_simp;rfl);refine(qw _ _ _ (Bo.keep (jF hw')) (uM.keep (jF hw')) (J5 (jF hw') uN) hol).mono ?_;rintro e w6⟨rfl,hb6⟩;refine⟨_,rfl,hb6,λhx=>?_⟩;go_simp;apply hK;clear hK K;iterate 5 (apply ay rfl rfl rfl;(focus intro u hc' hf';go_simp<;>rfl);intro K hK;go_simp;apply hK;clear hK K)
 refine aK ?_;have fM:=jF hx;have dH:=(hB3.trans (hbW.mono (by omega))).trans (fM.mono (by have:=hbW.size;omega));replace e0:=ak fM e0;replace e1:=ak fM e1;replace e2:=ak fM e2;replace e3:=ak fM e3;replace ef:=(λj=>(fM.frozen (p:=⟨bb,j,none⟩) (by simpa using kR)).trans (ef j))
 replace kR:bb<w6.heap.size:=cell_lt e0;replace hon:=hon.keep fM;obtain⟨r0,r1,r2,r3,rf,hz1,aF⟩:=aY dH;clear hx fM hb6 hw' hbw k1 k2 k3 k4 xK xM;go_wp2;refine bodyPost_ret (v:=.tuple #[.agg #[.string ⟨#[]⟩,.int .i64 0,.int .i64 0,.slice none 0 0],.bool false]) (by simp[results,Tryz.results179,go_sem,r0,r1,r2,r3,rf,hz1]) rfl ?_;rw[HE.out];refine⟨.slice none 0 0,rfl,jY _ _,?_⟩;(repeat(first|(with_reducible refine Below.alloc ?_ ?_ _;rotate_left;(first|omega|(simp;done)|(simp;omega)))|(with_reducible refine Below.setCell ?_ ?_ _;rotate_left;(first|exact Nat.le_refl _|(simp;done)|(simp;omega)))|(with_reducible refine Below.drew ?_)));exact aF
theorem adr (a:Option Addr) (cap:Nat) (L:List Df) (s:ByteArray) (w:World) (hv:aG w (.slice a L.length cap) L) (hn:L.length<=1048576) (hsm:∀d∈L,Sm (d.inn,d.out)) (t t2:Tk) (r:List Tk) (o:Rd) (hok:fA (t::t2::r)) (htl:(t::t2::r).length<=40000) (gk:(t.kind != 1)=false)
  (hy2:bJ ((t::t2::r).drop 1) ⟨#[61]⟩=true) (htk:Calls Tryz.prog 97 #[.string s] (w.alloc (.cells #[.string ⟨#[]⟩,.int .i64 0,.int .i64 0,.slice none 0 0] 101)) (EY (.ok (t::t2::r)) (w.alloc (.cells #[.string ⟨#[]⟩,.int .i64 0,.int .i64 0,.slice none 0 0] 101))))
  (mG:∀(bx:Nat) (w2:World),fC (bx+1) bx (t::t2::r) w2 2 [] [] false->Calls Tryz.prog 98 #[.pointer (some ⟨bx,0,none⟩)] w2 (qg (bx+1) bx (t::t2::r) w2 r [] ⟨false,[],o⟩))
  (qw:∀(w5:World) (vn va:Value),aG w5 (.slice a L.length cap) L->aZ w5 vn (o.map Prod.fst)->xF w5 va (o.map Prod.snd)->o.length<=40000->Calls Tryz.prog 99 #[.slice a L.length cap,vn,va] w5 λe w'=>e=.returned (.tuple #[.int .i64 0,.int .i64 0])/\Below w5.heap.size w5 w')
  (hts:t.text.size<=40000) (HN:Hid (nameB t.text=false)) (HE:Hid (dX L s=none)):Calls Tryz.prog 179 #[.slice a L.length cap,.string s] w (DC (dX L s) w):=by
 have hrl:r.length<=40000:=by simp at htl;omega
 go_enter Tryz.func179,Tryz.ntmps179;go_wp2_with (first|(go_at_call 97;refine htk.mono ?_;rintro e w1⟨v1,rfl,ho1,hb1⟩;obtain⟨b1,o1,c1,he1,hc1,j0,j1,j2⟩:=(vK ho1 hok).head;subst he1;have hB1:Below (w.heap.size+1) (w.alloc (.cells #[.string ⟨#[]⟩,.int .i64 0,.int .i64 0,.slice none 0 0] 101)) w1:=hb1.mono (by simp);have jg:w.heap.size+1<=w1.heap.size:=(by have:=hB1.size;simpa using this))|(go_at_call 200;refine(Ar _ _ _ 1 _ _ _ _ _ (Bh ho1 hok (by simp) htl) hy2).mono ?_;rintro e w2⟨rfl,h2,hx2⟩;have hB2:Below (w.heap.size+1) (w.alloc (.cells #[.string ⟨#[]⟩,.int .i64 0,.int .i64 0,.slice none 0 0] 101)) w2:=hB1.trans (((Below.refl _ _).alloc jg _).trans (rZ hx2 jg (by simp;omega)));obtain⟨bx,hbx⟩:∃bx,bx=w1.heap.size:=⟨_,rfl⟩;have jj:w2.cell? ⟨b1,o1+1,none⟩=some (.string t.text):=(hx2.cell.1 b1 (o1+1) (by have:=cell_lt j1;simp;omega) (by have:=cell_lt j1;omega)).trans (jy j1 _);have Gp:b1<bx:=(by have:=cell_lt j1;omega);rw[<-hbx]at h2 jg ⊢;clear hbx;obtain⟨_,k4,_,_,s4⟩:=h2.cells)|(go_at_call 98;refine(mG bx _ h2).mono ?_;rintro e w3⟨⟨lT,uq,uw,h3,vZ,xJ,_,Bj⟩,hF3,_,rfl⟩;obtain⟨k1,xK,_,_,xM⟩:=h3.cells;have hB3:=hB2.trans (yU hF3 (B:=w.heap.size+1) (by omega) (by omega));obtain⟨r0,r1,r2,r3,rf,hz1,aF⟩:=aY hB3;obtain⟨rfl,rfl⟩:=xJ (by first|rfl|trivial);have PV:¬((lT:Int)<(r.length:Int)+1+1):=(by have h9:=congrArg List.length vZ;simp at h9;omega);obtain⟨E_,PW,Gq,hv3⟩:=id h3;obtain⟨jZ,cn3,rfl⟩:=hv3.on.slice;obtain⟨PX,ca3,rfl⟩:=jc hv3.oa;have k2:=hv3.c2;have k3:=hv3.c3;have hol:o.length<=40000:=(by have:=Bj;simp at this;omega);have Bl:=(hF3.cell (b:=b1) (o:=o1+1) (by omega) (by omega)).trans jj))
 have AU:=cell_lt Bl;have PY:w.heap.size+1<=w3.heap.size:=by omega
 refine bC (C:=ah (aQ) _) 3 [0,1,2,3,4,5,6,7,8,9,10,11] (by kernel_rfl) (by kernel_rfl) (ah.grows _ _) (ah.refl _ _) ?_;iterate 10 (apply ay rfl rfl rfl;(focus intro u hc' hf';go_simp<;>rfl);intro K hK;go_simp;apply hK;clear hK K)
 refine fG rfl rfl rfl (ah.grows _ _) (ah.refl _ _) (λb=>.pointer (some ⟨b,0,none⟩)) (λK hK=>?_);apply Exists.intro;refine⟨λw' hw'=>?_,λbb w5 hw5 hb5 aI hNb hnb=>?_⟩
 ·obtain⟨hc',hf'⟩:=hw'.cell;try simp only[World.size_drew]at hc' hf'
  go_simp;rfl
 go_simp;refine hK _ _ _ ?_;clear hK K;refine eH rfl rfl rfl (ah.grows _ _) hw5 (λK hK=>?_);intro w6 hw6 hb6;obtain⟨m0,m1,m2⟩:=made_cell ((hb6.block bb (made_cell aI).2.2).trans aI);refine⟨(((w6.setCell ⟨bb,0,none⟩ (.string t.text)).setCell ⟨bb,1,none⟩ (.int .i64 0)).setCell ⟨bb,2,none⟩ (.int .i64 0)).setCell ⟨bb,3,none⟩ (.slice jZ (o.map Prod.fst).length cn3),?_,⟨aB (aB (aB (aB hw6 (.inl hNb) _) (.inl hNb) _) (.inl hNb) _) (.inl hNb) _,by simp,λj _ hj _=>by rw[Below.heap_setCell _ _ _ _ (λh=>hj (by simp[h])),Below.heap_setCell _ _ _ _ (λh=>hj (by simp[h])),Below.heap_setCell _ _ _ _ (λh=>hj (by simp[h])),Below.heap_setCell _ _ _ _ (λh=>hj (by simp[h]))]⟩,?_⟩
 ·go_simp
 go_simp;refine hK _ _ _ ?_;clear hK K;refine aK ?_;have hbb:w3.heap.size<=bb:=by simpa using hNb
 obtain⟨W4,eX⟩:∃W4,W4=(((w6.setCell ⟨bb,0,none⟩ (.string t.text)).setCell ⟨bb,1,none⟩ (.int .i64 0)).setCell ⟨bb,2,none⟩ (.int .i64 0)).setCell ⟨bb,3,none⟩ (.slice jZ (o.map Prod.fst).length cn3):=⟨_,rfl⟩
 try simp only[List.length_map]at eX
 rw[<-eX];have hbW:Below w3.heap.size w3 W4:=by rw[eX];exact(((((Below.refl _ w3).drew.trans (hw6.toBelow.mono (by simp))).setCell hbb _).setCell hbb _).setCell hbb _).setCell hbb _
 have e0:W4.cell? ⟨bb,0,none⟩=some (.string t.text):=by rw[eX];go_simp
 have e1:W4.cell? ⟨bb,1,none⟩=some (.int .i64 0):=by rw[eX];go_simp
 have e2:W4.cell? ⟨bb,2,none⟩=some (.int .i64 0):=by rw[eX];go_simp
 have e3:W4.cell? ⟨bb,3,none⟩=some (.slice jZ (o.map Prod.fst).length cn3):=by rw[eX];go_simp
 have ef:∀j,W4.frozen? ⟨bb,j,none⟩=false:=λj=>by rw[eX];simpa using m1 j
 have hv4:=jP hv3 hbW;replace k2:=hv4.c2;replace k3:=hv4.c3;have hon:=hv4.on;have uM:=hv4.on.at
 simp only[List.length_map]at uM;have uN:=JR hv4.oa;simp only[List.length_map]at uN;have Bo:aG W4 (.slice a L.length cap) L:=(hv.keep (aj _ _)).keep ((hB3.trans (hbW.mono (by omega))).mono (by simp));have PZ:bx<W4.heap.size:=cell_lt k2;have kR:bb<W4.heap.size:=cell_lt e0;have J6:∀j,(Value.slice jZ (o.map Prod.fst).length cn3).ownBlock=some j->¬j=bb:=λj hj e=>by have:=(World.ownsRow.lt hv3.on j hj).2;omega
 clear eX hw6 hb6 m0 m1 m2 hw5 hb5 aI hNb hnb r0 r1 r2 r3 rf hz1 aF;go_wp2_with fail
 have jF:∀{w':World},ah aQ W4.drew w'->Below W4.heap.size W4 w':=λh=>(Below.refl W4.heap.size W4).drew.trans (h.toBelow.mono (by simp));refine bC (C:=ah (aQ) _) 2 [0,1,2,3,4,5,6,7,8,9,10,11,12,13,14] (by kernel_rfl) (by kernel_rfl) (ah.grows _ _) (ah.refl _ _) ?_;iterate 9 (apply ay rfl rfl rfl;(focus intro u hc' hf';go_simp<;>rfl);intro K hK;go_simp;apply hK;clear hK K)
 refine aX rfl rfl rfl (ah.grows _ _) (ah.refl _ _) 99 (λK hK=>?_);apply Exists.intro;refine⟨λw' hw'=>?_,λw' hw' hbw=>?_⟩;(focus go_simp;rfl);refine(qw _ _ _ (Bo.keep (jF hw')) (uM.keep (jF hw')) (J5 (jF hw') uN) hol).mono ?_;rintro e w6⟨rfl,hb6⟩;refine⟨_,rfl,hb6,λhx=>?_⟩;go_simp;apply hK;clear hK K;iterate 5 (apply ay rfl rfl rfl;(focus intro u hc' hf';go_simp<;>rfl);intro K hK;go_simp;apply hK;clear hK K)
 refine aK ?_;have fM:=jF hx;have dH:=(hB3.trans (hbW.mono (by omega))).trans (fM.mono (by have:=hbW.size;omega));replace e0:=ak fM e0;replace e1:=ak fM e1;replace e2:=ak fM e2;replace e3:=ak fM e3;replace ef:=(λj=>(fM.frozen (p:=⟨bb,j,none⟩) (by simpa using kR)).trans (ef j))
 replace kR:bb<w6.heap.size:=cell_lt e0;replace hon:=hon.keep fM;obtain⟨r0,r1,r2,r3,rf,hz1,aF⟩:=aY dH;clear hx fM hb6 hw' hbw k1 k2 k3 k4 xK xM;go_wp2_with (go_at_call 95;refine(yZ _ _ (by omega)).mono ?_;rintro e w7⟨rfl,hb7⟩;rw[HN.out];obtain⟨r0,r1,r2,r3,rf,hz1,aF⟩:=aY (dH.trans (hb7.mono (by have:=dH.size;simpa using this))))
 refine bodyPost_ret (v:=.tuple #[.agg #[.string ⟨#[]⟩,.int .i64 0,.int .i64 0,.slice none 0 0],.bool false]) (by simp[results,Tryz.results179,go_sem,r0,r1,r2,r3,rf,hz1]) rfl ?_;rw[HE.out];refine⟨.slice none 0 0,rfl,jY _ _,?_⟩;(repeat(first|(with_reducible refine Below.alloc ?_ ?_ _;rotate_left;(first|omega|(simp;done)|(simp;omega)))|(with_reducible refine Below.setCell ?_ ?_ _;rotate_left;(first|exact Nat.le_refl _|(simp;done)|(simp;omega)))|(with_reducible refine Below.drew ?_)));exact aF
theorem ads (a:Option Addr) (cap:Nat) (L:List Df) (s:ByteArray) (w:World) (hv:aG w (.slice a L.length cap) L) (hn:L.length<=1048576) (hsm:∀d∈L,Sm (d.inn,d.out)) (t t2:Tk) (r:List Tk) (o:Rd) (hok:fA (t::t2::r)) (htl:(t::t2::r).length<=40000) (gk:(t.kind != 1)=false)
  (hy2:bJ ((t::t2::r).drop 1) ⟨#[61]⟩=true) (htk:Calls Tryz.prog 97 #[.string s] (w.alloc (.cells #[.string ⟨#[]⟩,.int .i64 0,.int .i64 0,.slice none 0 0] 101)) (EY (.ok (t::t2::r)) (w.alloc (.cells #[.string ⟨#[]⟩,.int .i64 0,.int .i64 0,.slice none 0 0] 101))))
  (mG:∀(bx:Nat) (w2:World),fC (bx+1) bx (t::t2::r) w2 2 [] [] false->Calls Tryz.prog 98 #[.pointer (some ⟨bx,0,none⟩)] w2 (qg (bx+1) bx (t::t2::r) w2 r [] ⟨false,[],o⟩))
  (qw:∀(w5:World) (vn va:Value),aG w5 (.slice a L.length cap) L->aZ w5 vn (o.map Prod.fst)->xF w5 va (o.map Prod.snd)->o.length<=40000->Calls Tryz.prog 99 #[.slice a L.length cap,vn,va] w5 λe w'=>e=.returned (.tuple #[.int .i64 0,.int .i64 0])/\Below w5.heap.size w5 w')
  (hts:t.text.size<=40000) (HN:Hid (nameB t.text=true)) (x:W2) (P5:kL (o.map Prod.fst)) (HX:Hid (aS (aO L) (o.map Prod.fst)=some x)) (HF:Hid (eY t.text L 0=-1)) (HE:Hid (dX L s=some ⟨t.text,x.1,x.2,o.map Prod.fst⟩)):Calls Tryz.prog 179 #[.slice a L.length cap,.string s] w (DC (dX L s) w):=by
 have hrl:r.length<=40000:=by simp at htl;omega
 go_enter Tryz.func179,Tryz.ntmps179;go_wp2_with (first|(go_at_call 97;refine htk.mono ?_;rintro e w1⟨v1,rfl,ho1,hb1⟩;obtain⟨b1,o1,c1,he1,hc1,j0,j1,j2⟩:=(vK ho1 hok).head;subst he1;have hB1:Below (w.heap.size+1) (w.alloc (.cells #[.string ⟨#[]⟩,.int .i64 0,.int .i64 0,.slice none 0 0] 101)) w1:=hb1.mono (by simp);have jg:w.heap.size+1<=w1.heap.size:=(by have:=hB1.size;simpa using this))|(go_at_call 200;refine(Ar _ _ _ 1 _ _ _ _ _ (Bh ho1 hok (by simp) htl) hy2).mono ?_;rintro e w2⟨rfl,h2,hx2⟩;have hB2:Below (w.heap.size+1) (w.alloc (.cells #[.string ⟨#[]⟩,.int .i64 0,.int .i64 0,.slice none 0 0] 101)) w2:=hB1.trans (((Below.refl _ _).alloc jg _).trans (rZ hx2 jg (by simp;omega)));obtain⟨bx,hbx⟩:∃bx,bx=w1.heap.size:=⟨_,rfl⟩;have jj:w2.cell? ⟨b1,o1+1,none⟩=some (.string t.text):=(hx2.cell.1 b1 (o1+1) (by have:=cell_lt j1;simp;omega) (by have:=cell_lt j1;omega)).trans (jy j1 _);have Gp:b1<bx:=(by have:=cell_lt j1;omega);rw[<-hbx]at h2 jg ⊢;clear hbx;obtain⟨_,k4,_,_,s4⟩:=h2.cells)|(go_at_call 98;refine(mG bx _ h2).mono ?_;rintro e w3⟨⟨lT,uq,uw,h3,vZ,xJ,_,Bj⟩,hF3,_,rfl⟩;obtain⟨k1,xK,_,_,xM⟩:=h3.cells;have hB3:=hB2.trans (yU hF3 (B:=w.heap.size+1) (by omega) (by omega));obtain⟨r0,r1,r2,r3,rf,hz1,aF⟩:=aY hB3;obtain⟨rfl,rfl⟩:=xJ (by first|rfl|trivial);have PV:¬((lT:Int)<(r.length:Int)+1+1):=(by have h9:=congrArg List.length vZ;simp at h9;omega);obtain⟨E_,PW,Gq,hv3⟩:=id h3;obtain⟨jZ,cn3,rfl⟩:=hv3.on.slice;obtain⟨PX,ca3,rfl⟩:=jc hv3.oa;have k2:=hv3.c2;have k3:=hv3.c3;have hol:o.length<=40000:=(by have:=Bj;simp at this;omega);have Bl:=(hF3.cell (b:=b1) (o:=o1+1) (by omega) (by omega)).trans jj))
 have AU:=cell_lt Bl;have PY:w.heap.size+1<=w3.heap.size:=by omega
 refine bC (C:=ah (aQ) _) 3 [0,1,2,3,4,5,6,7,8,9,10,11] (by kernel_rfl) (by kernel_rfl) (ah.grows _ _) (ah.refl _ _) ?_;iterate 10 (apply ay rfl rfl rfl;(focus intro u hc' hf';go_simp<;>rfl);intro K hK;go_simp;apply hK;clear hK K)
 refine fG rfl rfl rfl (ah.grows _ _) (ah.refl _ _) (λb=>.pointer (some ⟨b,0,none⟩)) (λK hK=>?_);apply Exists.intro;refine⟨λw' hw'=>?_,λbb w5 hw5 hb5 aI hNb hnb=>?_⟩
 ·obtain⟨hc',hf'⟩:=hw'.cell;try simp only[World.size_drew]at hc' hf'
  go_simp;rfl
 go_simp;refine hK _ _ _ ?_;clear hK K;refine eH rfl rfl rfl (ah.grows _ _) hw5 (λK hK=>?_);intro w6 hw6 hb6;obtain⟨m0,m1,m2⟩:=made_cell ((hb6.block bb (made_cell aI).2.2).trans aI);refine⟨(((w6.setCell ⟨bb,0,none⟩ (.string t.text)).setCell ⟨bb,1,none⟩ (.int .i64 0)).setCell ⟨bb,2,none⟩ (.int .i64 0)).setCell ⟨bb,3,none⟩ (.slice jZ (o.map Prod.fst).length cn3),?_,⟨aB (aB (aB (aB hw6 (.inl hNb) _) (.inl hNb) _) (.inl hNb) _) (.inl hNb) _,by simp,λj _ hj _=>by rw[Below.heap_setCell _ _ _ _ (λh=>hj (by simp[h])),Below.heap_setCell _ _ _ _ (λh=>hj (by simp[h])),Below.heap_setCell _ _ _ _ (λh=>hj (by simp[h])),Below.heap_setCell _ _ _ _ (λh=>hj (by simp[h]))]⟩,?_⟩
 ·go_simp
 go_simp;refine hK _ _ _ ?_;clear hK K;refine aK ?_;have hbb:w3.heap.size<=bb:=by simpa using hNb
 obtain⟨W4,eX⟩:∃W4,W4=(((w6.setCell ⟨bb,0,none⟩ (.string t.text)).setCell ⟨bb,1,none⟩ (.int .i64 0)).setCell ⟨bb,2,none⟩ (.int .i64 0)).setCell ⟨bb,3,none⟩ (.slice jZ (o.map Prod.fst).length cn3):=⟨_,rfl⟩
 try simp only[List.length_map]at eX
 rw[<-eX];have hbW:Below w3.heap.size w3 W4:=by rw[eX];exact(((((Below.refl _ w3).drew.trans (hw6.toBelow.mono (by simp))).setCell hbb _).setCell hbb _).setCell hbb _).setCell hbb _
 have e0:W4.cell? ⟨bb,0,none⟩=some (.string t.text):=by rw[eX];go_simp
 have e1:W4.cell? ⟨bb,1,none⟩=some (.int .i64 0):=by rw[eX];go_simp
 have e2:W4.cell? ⟨bb,2,none⟩=some (.int .i64 0):=by rw[eX];go_simp
 have e3:W4.cell? ⟨bb,3,none⟩=some (.slice jZ (o.map Prod.fst).length cn3):=by rw[eX];go_simp
 have ef:∀j,W4.frozen? ⟨bb,j,none⟩=false:=λj=>by rw[eX];simpa using m1 j
 have hv4:=jP hv3 hbW;replace k2:=hv4.c2;replace k3:=hv4.c3;have hon:=hv4.on;have uM:=hv4.on.at
 simp only[List.length_map]at uM;have uN:=JR hv4.oa;simp only[List.length_map]at uN;have Bo:aG W4 (.slice a L.length cap) L:=(hv.keep (aj _ _)).keep ((hB3.trans (hbW.mono (by omega))).mono (by simp));have PZ:bx<W4.heap.size:=cell_lt k2;have kR:bb<W4.heap.size:=cell_lt e0;have J6:∀j,(Value.slice jZ (o.map Prod.fst).length cn3).ownBlock=some j->¬j=bb:=λj hj e=>by have:=(World.ownsRow.lt hv3.on j hj).2;omega
 clear eX hw6 hb6 m0 m1 m2 hw5 hb5 aI hNb hnb r0 r1 r2 r3 rf hz1 aF;go_wp2_with fail
 have jF:∀{w':World},ah aQ W4.drew w'->Below W4.heap.size W4 w':=λh=>(Below.refl W4.heap.size W4).drew.trans (h.toBelow.mono (by simp));refine bC (C:=ah (aQ) _) 2 [0,1,2,3,4,5,6,7,8,9,10,11,12,13,14] (by kernel_rfl) (by kernel_rfl) (ah.grows _ _) (ah.refl _ _) ?_;iterate 9 (apply ay rfl rfl rfl;(focus intro u hc' hf';go_simp<;>rfl);intro K hK;go_simp;apply hK;clear hK K)
 refine aX rfl rfl rfl (ah.grows _ _) (ah.refl _ _) 99 (λK hK=>?_);apply Exists.intro;refine⟨λw' hw'=>?_,λw' hw' hbw=>?_⟩;(focus go_simp;rfl);refine(qw _ _ _ (Bo.keep (jF hw')) (uM.keep (jF hw')) (J5 (jF hw') uN) hol).mono ?_;rintro e w6⟨rfl,hb6⟩;refine⟨_,rfl,hb6,λhx=>?_⟩;go_simp;apply hK;clear hK K;iterate 5 (apply ay rfl rfl rfl;(focus intro u hc' hf';go_simp<;>rfl);intro K hK;go_simp;apply hK;clear hK K)
 refine aK ?_;have fM:=jF hx;have dH:=(hB3.trans (hbW.mono (by omega))).trans (fM.mono (by have:=hbW.size;omega));replace e0:=ak fM e0;replace e1:=ak fM e1;replace e2:=ak fM e2;replace e3:=ak fM e3;replace ef:=(λj=>(fM.frozen (p:=⟨bb,j,none⟩) (by simpa using kR)).trans (ef j))
 replace kR:bb<w6.heap.size:=cell_lt e0;replace hon:=hon.keep fM;obtain⟨r0,r1,r2,r3,rf,hz1,aF⟩:=aY dH;clear hx fM hb6 hw' hbw k1 k2 k3 k4 xK xM;go_wp2_with (first|(go_at_call 95;refine(yZ _ _ (by omega)).mono ?_;rintro e w7⟨rfl,hb7⟩;rw[HN.out];have qx:=dH.trans (hb7.mono (by have:=dH.size;simpa using this));replace e0:=ak hb7 e0;replace e1:=ak hb7 e1;replace e2:=ak hb7 e2;replace e3:=ak hb7 e3;replace ef:=(λj=>(hb7.frozen (p:=⟨bb,j,none⟩) (by simpa using kR)).trans (ef j));replace kR:bb<w7.heap.size:=cell_lt e0;replace hon:=hon.keep hb7)|(go_at_call 96;refine(nN _ L _ _ ((hv.keep (aj _ _)).keep (qx.mono (by simp))) hn).mono ?_;rintro e w8⟨rfl,hb8⟩;rw[HF.out];have P6:=qx.trans (hb8.mono (by have:=qx.size;simpa using this));replace e0:=ak hb8 e0;replace e1:=ak hb8 e1;replace e2:=ak hb8 e2;replace e3:=ak hb8 e3;replace ef:=(λj=>(hb8.frozen (p:=⟨bb,j,none⟩) (by simpa using kR)).trans (ef j));replace kR:bb<w8.heap.size:=cell_lt e0;replace hon:=hon.keep hb8)|(go_at_call 75;have Xq:=hon.at;simp only[List.length_map]at Xq;refine(P7 _ _ L _ x _ ((hv.keep (aj _ _)).keep (P6.mono (by simp))) hn hsm Xq P5 HX.out).mono ?_;rintro e w9⟨rfl,bG⟩;have J7:=P6.trans (bG.mono (by have:=P6.size;simpa using this));replace e0:=ak bG e0;replace e1:=ak bG e1;replace e2:=ak bG e2;replace e3:=ak bG e3;replace ef:=(λj=>(bG.frozen (p:=⟨bb,j,none⟩) (by simpa using kR)).trans (ef j));replace kR:bb<w9.heap.size:=cell_lt e0;replace hon:=hon.keep bG;have ef1:=ef 1;have ef2:=ef 2;obtain⟨r0,r1,r2,r3,rf,hz1,aF⟩:=aY J7;have nrd:¬bb=w.heap.size:=(by omega)))
 refine bodyPost_ret (v:=.tuple #[.agg #[.string t.text,.int .i64 x.1,.int .i64 x.2,.slice jZ (o.map Prod.fst).length cn3],.bool true]) (by simp[results,Tryz.results179,go_sem,r0,r1,r2,r3,rf,hz1]) rfl ?_;rw[HE.out];refine⟨_,rfl,?_,?_⟩
 ·have h1:(Value.slice jZ (o.map Prod.fst).length cn3).ownBlock≠some bb:=λe=>J6 bb e rfl;have h2:(Value.slice jZ (o.map Prod.fst).length cn3).ownBlock≠some w.heap.size:=λe=>by have:=(World.ownsRow.lt hon _ e).1;omega
  exact au.mono (B:=bx+1) (by omega) (nG (nG (nG (nG (nG (nG hon _ _ h1) _ _ h1) _ _ h2) _ _ h2) _ _ h2) _ _ h2)
 ·(repeat(first|(with_reducible refine Below.alloc ?_ ?_ _;rotate_left;(first|omega|(simp;done)|(simp;omega)))|(with_reducible refine Below.setCell ?_ ?_ _;rotate_left;(first|exact Nat.le_refl _|(simp;done)|(simp;omega)))|(with_reducible refine Below.drew ?_)));exact aF
theorem adt (a:Option Addr) (cap:Nat) (L:List Df) (s:ByteArray) (w:World) (hv:aG w (.slice a L.length cap) L) (hn:L.length<=1048576) (hsm:∀d∈L,Sm (d.inn,d.out)) (t t2:Tk) (r:List Tk) (o:Rd) (hok:fA (t::t2::r)) (htl:(t::t2::r).length<=40000) (gk:(t.kind != 1)=false)
  (hy2:bJ ((t::t2::r).drop 1) ⟨#[61]⟩=true) (htk:Calls Tryz.prog 97 #[.string s] (w.alloc (.cells #[.string ⟨#[]⟩,.int .i64 0,.int .i64 0,.slice none 0 0] 101)) (EY (.ok (t::t2::r)) (w.alloc (.cells #[.string ⟨#[]⟩,.int .i64 0,.int .i64 0,.slice none 0 0] 101))))
  (mG:∀(bx:Nat) (w2:World),fC (bx+1) bx (t::t2::r) w2 2 [] [] false->Calls Tryz.prog 98 #[.pointer (some ⟨bx,0,none⟩)] w2 (qg (bx+1) bx (t::t2::r) w2 r [] ⟨false,[],o⟩))
  (qw:∀(w5:World) (vn va:Value),aG w5 (.slice a L.length cap) L->aZ w5 vn (o.map Prod.fst)->xF w5 va (o.map Prod.snd)->o.length<=40000->Calls Tryz.prog 99 #[.slice a L.length cap,vn,va] w5 λe w'=>e=.returned (.tuple #[.int .i64 0,.int .i64 0])/\Below w5.heap.size w5 w')
  (hts:t.text.size<=40000) (HN:Hid (nameB t.text=true)) (i:Nat) (hi0:(0:Int)<=(i:Int)) (HF:Hid (eY t.text L 0=(i:Int))) (HE:Hid (dX L s=none)):Calls Tryz.prog 179 #[.slice a L.length cap,.string s] w (DC (dX L s) w):=by
 have hrl:r.length<=40000:=by simp at htl;omega
 go_enter Tryz.func179,Tryz.ntmps179;go_wp2_with (first|(go_at_call 97;refine htk.mono ?_;rintro e w1⟨v1,rfl,ho1,hb1⟩;obtain⟨b1,o1,c1,he1,hc1,j0,j1,j2⟩:=(vK ho1 hok).head;subst he1;have hB1:Below (w.heap.size+1) (w.alloc (.cells #[.string ⟨#[]⟩,.int .i64 0,.int .i64 0,.slice none 0 0] 101)) w1:=hb1.mono (by simp);have jg:w.heap.size+1<=w1.heap.size:=(by have:=hB1.size;simpa using this))|(go_at_call 200;refine(Ar _ _ _ 1 _ _ _ _ _ (Bh ho1 hok (by simp) htl) hy2).mono ?_;rintro e w2⟨rfl,h2,hx2⟩;have hB2:Below (w.heap.size+1) (w.alloc (.cells #[.string ⟨#[]⟩,.int .i64 0,.int .i64 0,.slice none 0 0] 101)) w2:=hB1.trans (((Below.refl _ _).alloc jg _).trans (rZ hx2 jg (by simp;omega)));obtain⟨bx,hbx⟩:∃bx,bx=w1.heap.size:=⟨_,rfl⟩;have jj:w2.cell? ⟨b1,o1+1,none⟩=some (.string t.text):=(hx2.cell.1 b1 (o1+1) (by have:=cell_lt j1;simp;omega) (by have:=cell_lt j1;omega)).trans (jy j1 _);have Gp:b1<bx:=(by have:=cell_lt j1;omega);rw[<-hbx]at h2 jg ⊢;clear hbx;obtain⟨_,k4,_,_,s4⟩:=h2.cells)|(go_at_call 98;refine(mG bx _ h2).mono ?_;rintro e w3⟨⟨lT,uq,uw,h3,vZ,xJ,_,Bj⟩,hF3,_,rfl⟩;obtain⟨k1,xK,_,_,xM⟩:=h3.cells;have hB3:=hB2.trans (yU hF3 (B:=w.heap.size+1) (by omega) (by omega));obtain⟨r0,r1,r2,r3,rf,hz1,aF⟩:=aY hB3;obtain⟨rfl,rfl⟩:=xJ (by first|rfl|trivial);have PV:¬((lT:Int)<(r.length:Int)+1+1):=(by have h9:=congrArg List.length vZ;simp at h9;omega);obtain⟨E_,PW,Gq,hv3⟩:=id h3;obtain⟨jZ,cn3,rfl⟩:=hv3.on.slice;obtain⟨PX,ca3,rfl⟩:=jc hv3.oa;have k2:=hv3.c2;have k3:=hv3.c3;have hol:o.length<=40000:=(by have:=Bj;simp at this;omega);have Bl:=(hF3.cell (b:=b1) (o:=o1+1) (by omega) (by omega)).trans jj))
 have AU:=cell_lt Bl;have PY:w.heap.size+1<=w3.heap.size:=by omega
 refine bC (C:=ah (aQ) _) 3 [0,1,2,3,4,5,6,7,8,9,10,11] (by kernel_rfl) (by kernel_rfl) (ah.grows _ _) (ah.refl _ _) ?_;iterate 10 (apply ay rfl rfl rfl;(focus intro u hc' hf';go_simp<;>rfl);intro K hK;go_simp;apply hK;clear hK K)
 refine fG rfl rfl rfl (ah.grows _ _) (ah.refl _ _) (λb=>.pointer (some ⟨b,0,none⟩)) (λK hK=>?_);apply Exists.intro;refine⟨λw' hw'=>?_,λbb w5 hw5 hb5 aI hNb hnb=>?_⟩
 ·obtain⟨hc',hf'⟩:=hw'.cell;try simp only[World.size_drew]at hc' hf'
  go_simp;rfl
 go_simp;refine hK _ _ _ ?_;clear hK K;refine eH rfl rfl rfl (ah.grows _ _) hw5 (λK hK=>?_);intro w6 hw6 hb6;obtain⟨m0,m1,m2⟩:=made_cell ((hb6.block bb (made_cell aI).2.2).trans aI);refine⟨(((w6.setCell ⟨bb,0,none⟩ (.string t.text)).setCell ⟨bb,1,none⟩ (.int .i64 0)).setCell ⟨bb,2,none⟩ (.int .i64 0)).setCell ⟨bb,3,none⟩ (.slice jZ (o.map Prod.fst).length cn3),?_,⟨aB (aB (aB (aB hw6 (.inl hNb) _) (.inl hNb) _) (.inl hNb) _) (.inl hNb) _,by simp,λj _ hj _=>by rw[Below.heap_setCell _ _ _ _ (λh=>hj (by simp[h])),Below.heap_setCell _ _ _ _ (λh=>hj (by simp[h])),Below.heap_setCell _ _ _ _ (λh=>hj (by simp[h])),Below.heap_setCell _ _ _ _ (λh=>hj (by simp[h]))]⟩,?_⟩
 ·go_simp
 go_simp;refine hK _ _ _ ?_;clear hK K;refine aK ?_;have hbb:w3.heap.size<=bb:=by simpa using hNb
 obtain⟨W4,eX⟩:∃W4,W4=(((w6.setCell ⟨bb,0,none⟩ (.string t.text)).setCell ⟨bb,1,none⟩ (.int .i64 0)).setCell ⟨bb,2,none⟩ (.int .i64 0)).setCell ⟨bb,3,none⟩ (.slice jZ (o.map Prod.fst).length cn3):=⟨_,rfl⟩
 try simp only[List.length_map]at eX
 rw[<-eX];have hbW:Below w3.heap.size w3 W4:=by rw[eX];exact(((((Below.refl _ w3).drew.trans (hw6.toBelow.mono (by simp))).setCell hbb _).setCell hbb _).setCell hbb _).setCell hbb _
 have e0:W4.cell? ⟨bb,0,none⟩=some (.string t.text):=by rw[eX];go_simp
 have e1:W4.cell? ⟨bb,1,none⟩=some (.int .i64 0):=by rw[eX];go_simp
 have e2:W4.cell? ⟨bb,2,none⟩=some (.int .i64 0):=by rw[eX];go_simp
 have e3:W4.cell? ⟨bb,3,none⟩=some (.slice jZ (o.map Prod.fst).length cn3):=by rw[eX];go_simp
 have ef:∀j,W4.frozen? ⟨bb,j,none⟩=false:=λj=>by rw[eX];simpa using m1 j
 have hv4:=jP hv3 hbW;replace k2:=hv4.c2;replace k3:=hv4.c3;have hon:=hv4.on;have uM:=hv4.on.at
 simp only[List.length_map]at uM;have uN:=JR hv4.oa;simp only[List.length_map]at uN;have Bo:aG W4 (.slice a L.length cap) L:=(hv.keep (aj _ _)).keep ((hB3.trans (hbW.mono (by omega))).mono (by simp));have PZ:bx<W4.heap.size:=cell_lt k2;have kR:bb<W4.heap.size:=cell_lt e0;have J6:∀j,(Value.slice jZ (o.map Prod.fst).length cn3).ownBlock=some j->¬j=bb:=λj hj e=>by have:=(World.ownsRow.lt hv3.on j hj).2;omega
 clear eX hw6 hb6 m0 m1 m2 hw5 hb5 aI hNb hnb r0 r1 r2 r3 rf hz1 aF;go_wp2_with fail
 have jF:∀{w':World},ah aQ W4.drew w'->Below W4.heap.size W4 w':=λh=>(Below.refl W4.heap.size W4).drew.trans (h.toBelow.mono (by simp));refine bC (C:=ah (aQ) _) 2 [0,1,2,3,4,5,6,7,8,9,10,11,12,13,14] (by kernel_rfl) (by kernel_rfl) (ah.grows _ _) (ah.refl _ _) ?_;iterate 9 (apply ay rfl rfl rfl;(focus intro u hc' hf';go_simp<;>rfl);intro K hK;go_simp;apply hK;clear hK K)
 refine aX rfl rfl rfl (ah.grows _ _) (ah.refl _ _) 99 (λK hK=>?_);apply Exists.intro;refine⟨λw' hw'=>?_,λw' hw' hbw=>?_⟩;(focus go_simp;rfl);refine(qw _ _ _ (Bo.keep (jF hw')) (uM.keep (jF hw')) (J5 (jF hw') uN) hol).mono ?_;rintro e w6⟨rfl,hb6⟩;refine⟨_,rfl,hb6,λhx=>?_⟩;go_simp;apply hK;clear hK K;iterate 5 (apply ay rfl rfl rfl;(focus intro u hc' hf';go_simp<;>rfl);intro K hK;go_simp;apply hK;clear hK K)
 refine aK ?_;have fM:=jF hx;have dH:=(hB3.trans (hbW.mono (by omega))).trans (fM.mono (by have:=hbW.size;omega));replace e0:=ak fM e0;replace e1:=ak fM e1;replace e2:=ak fM e2;replace e3:=ak fM e3;replace ef:=(λj=>(fM.frozen (p:=⟨bb,j,none⟩) (by simpa using kR)).trans (ef j))
 replace kR:bb<w6.heap.size:=cell_lt e0;replace hon:=hon.keep fM;obtain⟨r0,r1,r2,r3,rf,hz1,aF⟩:=aY dH;clear hx fM hb6 hw' hbw k1 k2 k3 k4 xK xM;go_wp2_with (first|(go_at_call 95;refine(yZ _ _ (by omega)).mono ?_;rintro e w7⟨rfl,hb7⟩;rw[HN.out];have qx:=dH.trans (hb7.mono (by have:=dH.size;simpa using this));replace e0:=ak hb7 e0;replace kR:bb<w7.heap.size:=cell_lt e0)|(go_at_call 96;refine(nN _ L _ _ ((hv.keep (aj _ _)).keep (qx.mono (by simp))) hn).mono ?_;rintro e w8⟨rfl,hb8⟩;rw[HF.out];obtain⟨r0,r1,r2,r3,rf,hz1,aF⟩:=aY (qx.trans (hb8.mono (by have:=qx.size;simpa using this)))))
 refine bodyPost_ret (v:=.tuple #[.agg #[.string ⟨#[]⟩,.int .i64 0,.int .i64 0,.slice none 0 0],.bool false]) (by simp[results,Tryz.results179,go_sem,r0,r1,r2,r3,rf,hz1]) rfl ?_;rw[HE.out];refine⟨.slice none 0 0,rfl,jY _ _,?_⟩;(repeat(first|(with_reducible refine Below.alloc ?_ ?_ _;rotate_left;(first|omega|(simp;done)|(simp;omega)))|(with_reducible refine Below.setCell ?_ ?_ _;rotate_left;(first|exact Nat.le_refl _|(simp;done)|(simp;omega)))|(with_reducible refine Below.drew ?_)));exact aF
theorem Xr (v:Value) (L:List Df) (s:ByteArray) (w:World) (hv:aG w v L) (hg:good L=true) (hs:s.size<=4194304) :
  Calls Tryz.prog 179 #[v,.string s] w (DC (dX L s) w):=by
 obtain⟨pW,hn⟩:=Og hg;have hgg:dJ [] L=true:=by simp only[good,Bool.and_eq_true]at hg;exact hg.2
 have hsm:=vJ hgg;obtain⟨a,cap,rfl⟩:∃a cap,v=.slice a L.length cap:=by obtain⟨a,cap,rfl,_⟩:=hv;exact⟨a,cap,rfl⟩
 have htk:=aaL s (w.alloc (.cells #[.string ⟨#[]⟩,.int .i64 0,.int .i64 0,.slice none 0 0] 101)) hs;cases ht:iU s with
 | error p =>
  rw[ht]at htk
  have HE:Hid (dX L s=none):=Gn (Vm ht)
  have gc:(p.2 != 0)=true:=by simpa using adp ht
  clear ht
  go_enter Tryz.func179,Tryz.ntmps179
  go_wp2_with (go_at_call 97;refine htk.mono ?_;rintro e w1⟨rfl,hb1⟩;obtain⟨r0,r1,r2,r3,rf,hz1,aF⟩:=aY (hb1.mono (by simp)))
  refine bodyPost_ret (v:=.tuple #[.agg #[.string ⟨#[]⟩,.int .i64 0,.int .i64 0,.slice none 0 0],.bool false]) (by simp[results,Tryz.results179,go_sem,r0,r1,r2,r3,rf,hz1]) rfl ?_
  rw[HE.out]
  refine⟨.slice none 0 0,rfl,jY _ _,?_⟩
  (repeat(first|(with_reducible refine Below.alloc ?_ ?_ _;rotate_left;(first|omega|(simp;done)|(simp;omega)))|(with_reducible refine Below.setCell ?_ ?_ _;rotate_left;(first|exact Nat.le_refl _|(simp;done)|(simp;omega)))|(with_reducible refine Below.drew ?_)));exact aF
 | ok ts =>
  rw[ht]at htk
  obtain⟨hok,htl,_⟩:=IL ht
  by_cases hw:∃t r,ts=t::r/\t.kind=1
  ·obtain⟨t,r,rfl,hk⟩:=hw
   have gk:(t.kind != 1)=false:=by simp[hk]
   by_cases hy:bJ r ⟨#[61]⟩=true
   ·cases r with
    | nil=>simp[bJ]at hy
    | cons t2 r =>
    have nM:=Vp (L:=L) ht hk (by rw[<-xu];exact hy)
    have hy2:bJ ((t::t2::r).drop 1) ⟨#[61]⟩=true:=hy
    have hrl:r.length<=40000:=by simp at htl;omega
    obtain⟨⟨bad,rest,o⟩,hq⟩:∃q,fQ r.length r []=q:=⟨_,rfl⟩
    have P8:=(CW r.length).2.2.2.1 r [] hok.tail.tail
    have mG:=λ(bx:Nat) (w2:World) (h2:fC (bx+1) bx (t::t2::r) w2 2 [] [] false)=>ac4 (bx+1) bx (t::t2::r) r.length 2 r [] w2 rfl (Nat.le_refl _) (by simpa using hrl) (by simpa using h2)
    rw[hq]at P8 mG
    by_cases hgd:bad=false/\rest=[]
    ·obtain⟨rfl,rfl⟩:=hgd
     obtain⟨nw,e1,e2,e3⟩:=P8.new rfl
     simp only[List.nil_append]at e1
     subst e1
     have HP:=Lib.hid (And.intro e3 (e2 0))
     have hWh:kW L s.size r=match dG (aO L) o 0 []with
      | some p=>.error p
      | none=>.ok (o.map Prod.fst):=by unfold kW;rw[hq];simp;rfl
     rw[hWh]at nM
     have qw:=λ(w5:World) (vn va:Value) (hv5:aG w5 (.slice a L.length cap) L) (hvn:aZ w5 vn (o.map Prod.fst)) (hva:xF w5 va (o.map Prod.snd)) (hol:o.length<=40000)=>ac7 _ vn va L o w5 hv5 hn hsm hvn hva hol HP.out.1 HP.out.2
     cases hCH:dG (aO L) o 0 []with
     | some p =>
      rw[hCH]at nM qw
      exact adq a cap L s w hv hn hsm p t t2 r o hok htl gk hy2 htk mG qw (Gn nM) (by simpa using PU _ _ _ _ hCH)
     | none =>
      rw[hCH]at nM qw
      obtain⟨x,hx0⟩:=Ul hCH HP.out.2 HP.out.1
      simp only[hx0,Option.getD_some]at nM
      have hns:=Am hx0
      have hnm:∀d∈o.map Prod.fst,d.name.size<=1048576:=λd hd=>by
       have:=Ol (λx hx=>(yE hg x hx).1) hx0 d hd;omega
      have P5:kL (o.map Prod.fst):=⟨hnm,by omega⟩
      have hts:=hok.head.size
      cases D9:nameB t.text
      ·exact adr a cap L s w hv hn hsm t t2 r o hok htl gk hy2 htk mG qw hts D9 (show _=_ by unfold dX;rw[nM];simp[D9])
      ·rcases oO t.text L 0 with⟨f1,f2⟩|⟨i,hi,f1,f2⟩
       ·exact ads a cap L s w hv hn hsm t t2 r o hok htl gk hy2 htk mG qw hts D9 x P5 hx0 f1 (show _=_ by unfold dX;rw[nM];simp[D9,f2])
       ·rw[Nat.zero_add]at f1
        exact adt a cap L s w hv hn hsm t t2 r o hok htl gk hy2 htk mG qw hts D9 i (by omega) f1 (show _=_ by unfold dX;rw[nM];simp[D9,f2])
    ·have HE:Hid (dX L s=none):=(show _=_ by
      refine Gn ?_;rw[nM];unfold kW;rw[hq];cases bad with
      | true=>rfl
      | false =>
       have:rest≠[]:=λe=>hgd ⟨rfl,e⟩
       simp[this])
     have hgd2:bad=true\/(bad=false/\rest≠[]):=by
      cases bad
      ·exact .inr ⟨rfl,λe=>hgd ⟨rfl,e⟩⟩
      ·exact .inl rfl
     clear nM ht hq P8 hgd hy
     rcases hgd2 with rfl|⟨rfl,hrest⟩
     ·go_enter Tryz.func179,Tryz.ntmps179
      go_wp2_with (first|(go_at_call 97;refine htk.mono ?_;rintro e w1⟨v1,rfl,ho1,hb1⟩;obtain⟨b1,o1,c1,he1,hc1,j0,j1,j2⟩:=(vK ho1 hok).head;subst he1;have hB1:Below (w.heap.size+1) (w.alloc (.cells #[.string ⟨#[]⟩,.int .i64 0,.int .i64 0,.slice none 0 0] 101)) w1:=hb1.mono (by simp);have jg:w.heap.size+1<=w1.heap.size:=(by have:=hB1.size;simpa using this))|(go_at_call 200;refine(Ar _ _ _ 1 _ _ _ _ _ (Bh ho1 hok (by simp) htl) hy2).mono ?_;rintro e w2⟨rfl,h2,hx2⟩;have hB2:Below (w.heap.size+1) (w.alloc (.cells #[.string ⟨#[]⟩,.int .i64 0,.int .i64 0,.slice none 0 0] 101)) w2:=hB1.trans (((Below.refl _ _).alloc jg _).trans (rZ hx2 jg (by simp;omega)));obtain⟨bx,hbx⟩:∃bx,bx=w1.heap.size:=⟨_,rfl⟩;have jj:w2.cell? ⟨b1,o1+1,none⟩=some (.string t.text):=(hx2.cell.1 b1 (o1+1) (by have:=cell_lt j1;simp;omega) (by have:=cell_lt j1;omega)).trans (jy j1 _);have Gp:b1<bx:=(by have:=cell_lt j1;omega);rw[<-hbx]at h2 jg ⊢;clear hbx;obtain⟨_,k4,_,_,s4⟩:=h2.cells)|(go_at_call 98;refine(mG bx _ h2).mono ?_;rintro e w3⟨⟨lT,uq,uw,h3,vZ,xJ,_,_⟩,hF3,_,rfl⟩;obtain⟨k1,xK,_,_,xM⟩:=h3.cells;have hB3:=hB2.trans (yU hF3 (B:=w.heap.size+1) (by omega) (by omega));obtain⟨r0,r1,r2,r3,rf,hz1,aF⟩:=aY hB3))
      refine bodyPost_ret (v:=.tuple #[.agg #[.string ⟨#[]⟩,.int .i64 0,.int .i64 0,.slice none 0 0],.bool false]) (by simp[results,Tryz.results179,go_sem,r0,r1,r2,r3,rf,hz1]) rfl ?_
      rw[HE.out]
      refine⟨.slice none 0 0,rfl,jY _ _,?_⟩
      (repeat(first|(with_reducible refine Below.alloc ?_ ?_ _;rotate_left;(first|omega|(simp;done)|(simp;omega)))|(with_reducible refine Below.setCell ?_ ?_ _;rotate_left;(first|exact Nat.le_refl _|(simp;done)|(simp;omega)))|(with_reducible refine Below.drew ?_)));exact aF
     ·have ahv:rest.length≠0:=λe=>hrest (List.eq_nil_of_length_eq_zero e)
      clear hrest
      go_enter Tryz.func179,Tryz.ntmps179
      go_wp2_with (first|(go_at_call 97;refine htk.mono ?_;rintro e w1⟨v1,rfl,ho1,hb1⟩;obtain⟨b1,o1,c1,he1,hc1,j0,j1,j2⟩:=(vK ho1 hok).head;subst he1;have hB1:Below (w.heap.size+1) (w.alloc (.cells #[.string ⟨#[]⟩,.int .i64 0,.int .i64 0,.slice none 0 0] 101)) w1:=hb1.mono (by simp);have jg:w.heap.size+1<=w1.heap.size:=(by have:=hB1.size;simpa using this))|(go_at_call 200;refine(Ar _ _ _ 1 _ _ _ _ _ (Bh ho1 hok (by simp) htl) hy2).mono ?_;rintro e w2⟨rfl,h2,hx2⟩;have hB2:Below (w.heap.size+1) (w.alloc (.cells #[.string ⟨#[]⟩,.int .i64 0,.int .i64 0,.slice none 0 0] 101)) w2:=hB1.trans (((Below.refl _ _).alloc jg _).trans (rZ hx2 jg (by simp;omega)));obtain⟨bx,hbx⟩:∃bx,bx=w1.heap.size:=⟨_,rfl⟩;have jj:w2.cell? ⟨b1,o1+1,none⟩=some (.string t.text):=(hx2.cell.1 b1 (o1+1) (by have:=cell_lt j1;simp;omega) (by have:=cell_lt j1;omega)).trans (jy j1 _);have Gp:b1<bx:=(by have:=cell_lt j1;omega);rw[<-hbx]at h2 jg ⊢;clear hbx;obtain⟨_,k4,_,_,s4⟩:=h2.cells)|(go_at_call 98;refine(mG bx _ h2).mono ?_;rintro e w3⟨⟨lT,uq,uw,h3,vZ,xJ,_,_⟩,hF3,_,rfl⟩;obtain⟨k1,xK,_,_,xM⟩:=h3.cells;have hB3:=hB2.trans (yU hF3 (B:=w.heap.size+1) (by omega) (by omega));obtain⟨r0,r1,r2,r3,rf,hz1,aF⟩:=aY hB3;have hlt3:(lT:Int)<(r.length:Int)+1+1:=(by have h9:=congrArg List.length vZ;simp at h9;omega)))
      refine bodyPost_ret (v:=.tuple #[.agg #[.string ⟨#[]⟩,.int .i64 0,.int .i64 0,.slice none 0 0],.bool false]) (by simp[results,Tryz.results179,go_sem,r0,r1,r2,r3,rf,hz1]) rfl ?_
      rw[HE.out]
      refine⟨.slice none 0 0,rfl,jY _ _,?_⟩
      (repeat(first|(with_reducible refine Below.alloc ?_ ?_ _;rotate_left;(first|omega|(simp;done)|(simp;omega)))|(with_reducible refine Below.setCell ?_ ?_ _;rotate_left;(first|exact Nat.le_refl _|(simp;done)|(simp;omega)))|(with_reducible refine Below.drew ?_)));exact aF
   ·have Oq:bJ ((t::r).drop 1) ⟨#[61]⟩=false:=by simpa using hy
    have HE:Hid (dX L s=none):=Gn (Jm ht (λh=>hy (by rw[xu];exact h.2)))
    clear ht hy
    go_enter Tryz.func179,Tryz.ntmps179
    go_wp2_with (first|(go_at_call 97;refine htk.mono ?_;rintro e w1⟨v1,rfl,ho1,hb1⟩;obtain⟨b1,o1,c1,he1,hc1,j0,j1,j2⟩:=(vK ho1 hok).head;subst he1;have hB1:Below (w.heap.size+1) (w.alloc (.cells #[.string ⟨#[]⟩,.int .i64 0,.int .i64 0,.slice none 0 0] 101)) w1:=hb1.mono (by simp);have jg:w.heap.size+1<=w1.heap.size:=(by have:=hB1.size;simpa using this))|(go_at_call 200;refine(VX _ _ _ 1 _ _ _ _ _ (Bh ho1 hok (by simp) htl) Oq).mono ?_;rintro e w2⟨rfl,h2,hx2⟩;have hB2:Below (w.heap.size+1) (w.alloc (.cells #[.string ⟨#[]⟩,.int .i64 0,.int .i64 0,.slice none 0 0] 101)) w2:=hB1.trans (((Below.refl _ _).alloc jg _).trans (rZ hx2 jg (by simp;omega)));obtain⟨_,k4,_,_,s4⟩:=h2.cells;obtain⟨r0,r1,r2,r3,rf,hz1,aF⟩:=aY hB2))
    refine bodyPost_ret (v:=.tuple #[.agg #[.string ⟨#[]⟩,.int .i64 0,.int .i64 0,.slice none 0 0],.bool false]) (by simp[results,Tryz.results179,go_sem,r0,r1,r2,r3,rf,hz1]) rfl ?_
    rw[HE.out]
    refine⟨.slice none 0 0,rfl,jY _ _,?_⟩
    (repeat(first|(with_reducible refine Below.alloc ?_ ?_ _;rotate_left;(first|omega|(simp;done)|(simp;omega)))|(with_reducible refine Below.setCell ?_ ?_ _;rotate_left;(first|exact Nat.le_refl _|(simp;done)|(simp;omega)))|(with_reducible refine Below.drew ?_)));exact aF
  ·have hwn:∀t r,ts=t::r->t.kind≠1:=λt r e h=>hw ⟨t,r,e,h⟩
   have HE:Hid (dX L s=none):=(show _=_ by
    refine Gn ?_;cases ts with
    | nil=>exact Vo ht
    | cons t r=>exact Jm ht (λh=>hwn t r rfl h.1))
   clear ht hw
   cases ts with
   | nil =>
    go_enter Tryz.func179,Tryz.ntmps179
    go_wp2_with (go_at_call 97;refine htk.mono ?_;rintro e w1⟨v1,rfl,ho1,hb1⟩;obtain⟨a1,c1,rfl⟩:=jc ho1;obtain⟨r0,r1,r2,r3,rf,hz1,aF⟩:=aY (hb1.mono (by simp)))
    refine bodyPost_ret (v:=.tuple #[.agg #[.string ⟨#[]⟩,.int .i64 0,.int .i64 0,.slice none 0 0],.bool false]) (by simp[results,Tryz.results179,go_sem,r0,r1,r2,r3,rf,hz1]) rfl ?_
    rw[HE.out]
    refine⟨.slice none 0 0,rfl,jY _ _,?_⟩
    (repeat(first|(with_reducible refine Below.alloc ?_ ?_ _;rotate_left;(first|omega|(simp;done)|(simp;omega)))|(with_reducible refine Below.setCell ?_ ?_ _;rotate_left;(first|exact Nat.le_refl _|(simp;done)|(simp;omega)))|(with_reducible refine Below.drew ?_)));exact aF
   | cons t r =>
    have gk:(t.kind != 1)=true:=by simpa using hwn t r rfl
    clear hwn
    go_enter Tryz.func179,Tryz.ntmps179
    go_wp2_with (go_at_call 97;refine htk.mono ?_;rintro e w1⟨v1,rfl,ho1,hb1⟩;obtain⟨b1,o1,c1,he1,hc1,j0,j1,j2⟩:=(vK ho1 hok).head;subst he1;obtain⟨r0,r1,r2,r3,rf,hz1,aF⟩:=aY (hb1.mono (by simp)))
    refine bodyPost_ret (v:=.tuple #[.agg #[.string ⟨#[]⟩,.int .i64 0,.int .i64 0,.slice none 0 0],.bool false]) (by simp[results,Tryz.results179,go_sem,r0,r1,r2,r3,rf,hz1]) rfl ?_
    rw[HE.out]
    refine⟨.slice none 0 0,rfl,jY _ _,?_⟩
    (repeat(first|(with_reducible refine Below.alloc ?_ ?_ _;rotate_left;(first|omega|(simp;done)|(simp;omega)))|(with_reducible refine Below.setCell ?_ ?_ _;rotate_left;(first|exact Nat.le_refl _|(simp;done)|(simp;omega)))|(with_reducible refine Below.drew ?_)));exact aF
end Go.Proofs.YtikgblkfmpecfaaGreatDoor
