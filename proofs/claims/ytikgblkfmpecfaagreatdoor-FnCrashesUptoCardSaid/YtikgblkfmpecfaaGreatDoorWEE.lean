/-
  The reference's reader: part, at a word. Own work; by a program of my own (parS.py).
-/
import Derived.Test.YtikgblkfmpecfaaGreatDoorWDD
set_option linter.all false
set_option maxRecDepth 100000
set_option maxHeartbeats 8000000
namespace Go.Proofs.YtikgblkfmpecfaaGreatDoor
open Go.RowKit
theorem acK (B bx:Nat) (all:List Tk) (f nx:Nat) (t:Tk) (r:List Tk) (out:Rd) (w:World) (hd:all.drop nx=t::r) (hsum:out.length+(r.length+1)<=40000) (h:fC B bx all w nx (out.map Prod.fst) (out.map Prod.snd) false) (hk:t.kind=1) (h1:¬(bg t.text=1\/bg t.text=7\/bg t.text=13)) :
  Calls Tryz.prog 193 #[.pointer (some ⟨bx,0,none⟩)] w (qg B bx all w (t::r) out (bQ (f+1) (t::r) out)):=by
 have hy:bJ (t::r) ⟨#[40]⟩=false:=by simp[bJ,hk]
 have hy':bI (t::r) 40=false:=by simp[bI,hk]
 have HE:Hid (bQ (f+1) (t::r) out=⟨false,r,out++[(jI t.text,t.pos)]⟩):=(show _=_ by rw[bQ.eq_def];simp[hy',hk,h1])
 have hkn:(jI t.text).kind=bg t.text:=rfl;rw[<-hkn]at h1;clear hkn;obtain⟨nd,uD⟩:∃nd,jI t.text=nd:=⟨_,rfl⟩
 rw[uD]at h1 HE;simp only[not_or]at h1;have v1:(nd.kind==1)=false:=by simpa using h1.1
 have v2:(nd.kind==7)=false:=by simpa using h1.2.1
 have v3:(nd.kind==13)=false:=by simpa using h1.2.2
 clear h1;obtain⟨hl,hget⟩:=yX hd;obtain⟨_,hd1⟩:=drop_cons hd;obtain⟨hb,hsz,hnx,hall,hok⟩:=h.facts;have htok:=hok.drop nx;rw[hd]at htok;have HN:=Lib.hid ((OL t.text (htok.head.word hk)).trans uD);clear uD;have g1:(t.kind != 1)=false:=by simp[hk]
 have hne:((nx:Int)==all.length)=false:=by simp;omega
 have HG:=Lib.hid hget;rw[<-hd]at hy;clear hget hk;go_enter Tryz.func193,Tryz.ntmps193;go_wp2_with (go_at_call 167;refine(pY B bx all _ _ _ _ _ _ h).mono ?_;rintro e w1⟨rfl,hb1⟩;rw[hy];have h1:=lS h hb1;obtain⟨Ak,vP,vS,hv1⟩:=id h1;obtain⟨b1,o1,c1,rfl,hc1,t0,t1,t2⟩:=hv1.tk.get nx hl;rw[HG.out]at t0 t1 t2;have k0:=hv1.c0;have k1:=hv1.c1;have k4:=hv1.c4;have f4:=hv1.fz 4;have s4:=cell_lt k4)
 go_quiet (fail)
 go_wp2_with fail
 obtain⟨W0,hW0⟩:∃W0,W0=w1.drewN nq:=⟨_,rfl⟩
 rw[<-hW0];have hb0:Below w1.heap.size w1 W0:=by rw[hW0];exact below_drewN (Below.refl _ _) _
 have hv0:=jP hv1 hb0;replace t0:=ak hb0 t0;replace t1:=ak hb0 t1;replace t2:=ak hb0 t2;replace k0:=hv0.c0;replace k1:=hv0.c1;replace s4:bx<W0.heap.size:=cell_lt k1;have s5:=cell_lt t0;have AO:(nx:Int)<all.length:=by omega
 clear k4 f4 hW0;refine bC (C:=ah (aQ) _) 9 [0,1,2,3,4,5,6,7,8,9,10,11] (by kernel_rfl) (by kernel_rfl) (ah.grows _ _) (ah.refl _ _) ?_;iterate 10 (apply ay rfl rfl rfl;(focus intro u hc' hf';go_simp<;>rfl);intro K hK;go_simp;apply hK;clear hK K)
 refine fG rfl rfl rfl (ah.grows _ _) (ah.refl _ _) (λb=>.pointer (some ⟨b,0,none⟩)) (λK hK=>?_);apply Exists.intro;refine⟨λw' hw'=>?_,λbb w5 hw5 hb5 aI hNb hnb=>?_⟩
 ·obtain⟨hc',hf'⟩:=hw'.cell;try simp only[World.size_drew]at hc' hf'
  go_simp;rfl
 go_simp;refine hK _ _ _ ?_;clear hK K;refine eH rfl rfl rfl (ah.grows _ _) hw5 (λK hK=>?_);intro w6 hw6 hb6;obtain⟨m0,m1,m2⟩:=made_cell ((hb6.block bb (made_cell aI).2.2).trans aI);refine⟨((w6.setCell ⟨bb,0,none⟩ (.int .i64 t.kind)).setCell ⟨bb,1,none⟩ (.string t.text)).setCell ⟨bb,2,none⟩ (.int .i64 t.pos),?_,⟨aB (aB (aB hw6 (.inl hNb) _) (.inl hNb) _) (.inl hNb) _,by simp,λj _ hj _=>by rw[Below.heap_setCell _ _ _ _ (λh=>hj (by simp[h])),Below.heap_setCell _ _ _ _ (λh=>hj (by simp[h])),Below.heap_setCell _ _ _ _ (λh=>hj (by simp[h]))]⟩,?_⟩
 ·go_simp
 go_simp;refine hK _ _ _ ?_;clear hK K;refine aK ?_;have hbb:W0.heap.size<=bb:=by simpa using hNb
 obtain⟨W1,hW1⟩:∃W1,W1=((w6.setCell ⟨bb,0,none⟩ (.int .i64 t.kind)).setCell ⟨bb,1,none⟩ (.string t.text)).setCell ⟨bb,2,none⟩ (.int .i64 t.pos):=⟨_,rfl⟩
 rw[<-hW1];have hbW:Below W0.heap.size W0 W1:=by rw[hW1];exact((((Below.refl _ W0).drew.trans (hw6.toBelow.mono (by simp))).setCell hbb _).setCell hbb _).setCell hbb _
 have e0:W1.cell? ⟨bb,0,none⟩=some (.int .i64 t.kind):=by rw[hW1];go_simp
 have e1:W1.cell? ⟨bb,1,none⟩=some (.string t.text):=by rw[hW1];go_simp
 have e2:W1.cell? ⟨bb,2,none⟩=some (.int .i64 t.pos):=by rw[hW1];go_simp
 clear hW1 hw6 hb6 m0 m1 m2 hw5 hb5 aI hNb hnb t0 t1 t2 k0 k1;have aU:=jP hv0 hbW;have k1:=aU.c1;have f1:=aU.fz 1;have s1:bx<W1.heap.size:=cell_lt k1;have sb:bb<W1.heap.size:=cell_lt e0;have Wx:¬bb=bx:=by omega
 obtain⟨q1,q2⟩:=Aq (nx':=nx+1) (vO:=false) aU 1 (.int .i64 ((nx+1:Nat):Int)) (.inl ⟨rfl,rfl,rfl,by omega⟩);have ecast:((nx+1:Nat):Int)=(nx:Int)+1:=by omega
 rw[ecast]at q1 q2;clear ecast;have hF1:Fr B bx w (W1.setCell ⟨bx,1,none⟩ (.int .i64 ((nx:Int)+1))):=(Fr.below hsz (hb1.trans ((hb0.trans (hbW.mono hb0.size)).mono hb1.size))).trans (Fr.exc aU.sz q2 (λk hk=>.inl hk));have hv2:=jP q1 (aj _ (.cells #[.int .i64 17,.int .i64 0,.string t.text] 87));have hF2:=hF1.trans (Fr.below q1.sz (aj _ (.cells #[.int .i64 17,.int .i64 0,.string t.text] 87)));have hlo:∀j,vP.ownBlock=some j\/vS.ownBlock=some j->j<W1.heap.size:=λj hj=>by
  rcases hj with hj|hj
  ·have:=(World.ownsRow.lt q1.on j hj).2;simpa using this
  ·have:=(World.ownsRow.lt q1.oa j hj).2;simpa using this
 have hnx1:(nx:Int)+1<=40000:=by omega
 go_wp2_with (go_at_call 145;refine(Fb _).mono ?_;rintro e w4⟨n14,rfl,hn1,hn2,hst,hb4,iY⟩)
 obtain⟨nb,hnb⟩:∃nb,nb=W1.heap.size:=⟨_,rfl⟩
 have n0:w4.cell? ⟨nb,0,none⟩=some (.int .i64 17):=by rw[hnb];exact ak hb4 (by go_simp)
 have n1:w4.cell? ⟨nb,1,none⟩=some (.int .i64 0):=by rw[hnb];exact ak hb4 (by go_simp)
 have n2:w4.cell? ⟨nb,2,none⟩=some (.string t.text):=by rw[hnb];exact ak hb4 (by go_simp)
 have nf:∀j,w4.frozen? ⟨nb,j,none⟩=false:=λj=>by rw[hnb];exact(hb4.frozen (p:=⟨W1.heap.size,j,none⟩) (by simp)).trans (by go_simp)
 have e1':w4.cell? ⟨bb,1,none⟩=some (.string t.text):=ak hb4 (by go_simp);have e2':w4.cell? ⟨bb,2,none⟩=some (.int .i64 t.pos):=ak hb4 (by go_simp);have hv4:=jP hv2 hb4;have su:=hF2.trans (Fr.below hv2.sz hb4);have nK:B<=nb:=by rw[hnb];have:=aU.sz;exact this
 have y8:∀j,vP.ownBlock=some j\/vS.ownBlock=some j->j<nb:=λj hj=>by rw[hnb];exact hlo j hj
 have xC:¬bb=nb:=by omega
 have vT:=Lib.hid y8;have hres:W1.heap.size<W1.heap.size+1:=by omega
 obtain⟨ra,rc,ha,hrc,hat⟩:=hst;simp only[World.size_alloc,World.size_setCell,Value.slice.injEq]at ha;obtain⟨rfl,hn3,rfl⟩:=ha;obtain rfl:n14=14:=by omega
 have Wy:reserved.length=14:=rfl;try simp only[World.size_alloc,World.size_setCell]
 obtain⟨rb,hrb⟩:∃rb,rb=W1.heap.size+1:=⟨_,rfl⟩
 rw[<-hrb,<-hnb];rw[<-hrb]at hat
 have FX:¬rb=nb:=by omega
 clear hn3 hrb hnb hres hv2 hF2 hF1 q1 q2 hb4 iY hlo y8 aU hv0 hv1 hb0 hbW hn1 hn2 hrc e0 e1 e2 k1 f1 s1 sb h1;have HD1:=Lib.hid hd1;have AP:=Lib.hid (And.intro hnx1 (And.intro hsum (And.intro hnx (And.intro hall hsz))));clear hd hy hy' hd1 hok htok hne AO hnx1 hsum hnx hall hsz;go_loopw [73] (λi wr=>∃(k:Nat) (n:Nd),k<=14/\i=.int .i64 k/\wr.cell? ⟨nb,0,none⟩=some (.int .i64 n.kind)/\wr.cell? ⟨nb,1,none⟩=some (.int .i64 n.value)/\wr.cell? ⟨nb,2,none⟩=some (.string n.name)/\(∀j,wr.frozen? ⟨nb,j,none⟩=false)/\Hid (nd=lu t.text (reserved.drop k) k n)/\ah (λj=>j=nb) w4 wr) (λi _=>14-(intOf i).toNat)
 case atStart=>exact⟨0,⟨17,0,t.text⟩,by omega,rfl,n0,n1,n2,nf,HN.out.symm,ah.refl _ _⟩
 case round =>
  obtain⟨k,n,WA,rfl,y0,y1,y2,yf,HC,hE⟩:=hrel
  have z4:=hE.size
  have OZ:wr.cell? ⟨bb,1,none⟩=some (.string t.text):=(hE.cell.1 bb 1 (cell_lt e1') xC).trans e1'
  have AQ:wr.cell? ⟨bb,2,none⟩=some (.int .i64 t.pos):=(hE.cell.1 bb 2 (cell_lt e1') xC).trans e2'
  have O1:=yf 0
  have DT:=yf 1
  have O4:=yf 2
  by_cases hlt:k<14
  ·obtain⟨b,o,aI,_,hnd⟩:=hat k (by omega)
   simp only[Option.some.injEq,Addr.mk.injEq]at aI
   obtain⟨rfl,rfl,_⟩:=aI
   have c0:=(hE.cell.1 _ _ (cell_lt hnd) FX).trans hnd
   simp only[Nat.zero_add,Nat.mul_one]at c0
   clear hat hnd
   have hkl:k<reserved.length:=by omega
   by_cases he:reserved[k]=t.text
   ·have g2:(reserved[k].toList==t.text.toList)=true:=by rw[k_];simp[he]
    have HC2:Hid (nd=lu t.text (reserved.drop (k+1)) (k+1) ⟨(k:Int)+1,0,⟨#[]⟩⟩):=(show _=_ by rw[HC.out,List.drop_eq_getElem_cons hkl,lu,if_pos he])
    have hE2:ah (λj=>j=nb) w4 (((wr.setCell ⟨nb,0,none⟩ (.int .i64 ((k:Int)+1))).setCell ⟨nb,1,none⟩ (.int .i64 0)).setCell ⟨nb,2,none⟩ (.string ⟨#[]⟩)):=aB (aB (aB hE (.inr rfl) _) (.inr rfl) _) (.inr rfl) _
    clear he HC
    go_wp2
    go_roundw
    case rel=>exact⟨k+1,⟨(k:Int)+1,0,⟨#[]⟩⟩,by omega,by go_num,by go_simp,by go_simp,by go_simp,λj=>by simpa using yf j,HC2,hE2⟩
    case measure=>simp[intOf];omega
   ·have g2:(reserved[k].toList==t.text.toList)=false:=by rw[k_];simp[he]
    have HC2:Hid (nd=lu t.text (reserved.drop (k+1)) (k+1) n):=(show _=_ by rw[HC.out,List.drop_eq_getElem_cons hkl,lu,if_neg he])
    clear he HC
    go_wp2
    go_roundw
    case rel=>exact⟨k+1,n,by omega,by go_num,y0,y1,y2,yf,HC2,hE⟩
    case measure=>simp[intOf];omega
  ·obtain rfl:k=14:=by omega
   have hn:nd=n:=by rw[HC.out];rfl
   subst hn
   have hvR:=Jw hv4 hE (λj hj=>by subst hj;exact⟨nK,λe=>by have:=vT.out _ (.inl e);omega,λe=>by have:=vT.out _ (.inr e);omega⟩)
   have y9:=su.trans (Fr.exc hv4.sz hE (λj hj=>.inr (by subst hj;exact nK)))
   have zR:bx<wr.heap.size:=Nat.lt_of_lt_of_le hvR.lt hvR.sz
   have FY:nb<wr.heap.size:=cell_lt y0
   clear hat HC hE hv4 su e1' e2' n0 n1 n2 nf HN
   obtain⟨hnx1,hsum,hnx,hall,hsz⟩:=AP.out
   go_wp2_with (go_at_call 168;refine(Ju B bx all (nx+1) _ _ false nd t.pos _ ⟨_,_,_,hvR⟩ (by simp;omega) (by simp;omega)).mono ?_;rintro e w9⟨rfl,h9,O5⟩)
   exact bodyPost_end (v:=.tuple #[]) (by simp[results,Tryz.results193,go_sem]) rfl (by rw[HE.out];exact⟨⟨nx+1,_,_,h9,HD1.out,(λ_=>⟨by simp,by simp⟩),by simp,by simp<;>omega⟩,y9.trans O5,by simp,rfl⟩)
theorem acL (B bx:Nat) (all:List Tk) (f nx:Nat) (t:Tk) (r:List Tk) (out:Rd) (w:World) (hd:all.drop nx=t::r) (hsum:out.length+(r.length+1)<=40000) (h:fC B bx all w nx (out.map Prod.fst) (out.map Prod.snd) false) (hk:t.kind=1) (h1:bg t.text=1\/bg t.text=7\/bg t.text=13) (hn2:∀n r2,r=n::r2->n.kind≠2) :
  Calls Tryz.prog 193 #[.pointer (some ⟨bx,0,none⟩)] w (qg B bx all w (t::r) out (bQ (f+1) (t::r) out)):=by
 have hy:bJ (t::r) ⟨#[40]⟩=false:=by simp[bJ,hk]
 have hy':bI (t::r) 40=false:=by simp[bI,hk]
 have HE:Hid (bQ (f+1) (t::r) out=⟨true,r,out⟩):=(show _=_ by rw[bQ.eq_def];cases r with|nil=>simp[hy',hk,h1]|cons n r2=>simp[hy',hk,h1,hn2 n r2 rfl])
 have zh:=Lib.hid hn2;clear hn2;have hkn:(jI t.text).kind=bg t.text:=rfl;rw[<-hkn]at h1;clear hkn;obtain⟨nd,uD⟩:∃nd,jI t.text=nd:=⟨_,rfl⟩
 rw[uD]at h1;have hgg:(nd.kind==1)=true\/((nd.kind==1)=false/\(nd.kind==7)=true)\/((nd.kind==1)=false/\(nd.kind==7)=false/\(nd.kind==13)=true):=by rcases h1 with h|h|h<;>simp[h]
 clear h1;obtain⟨hl,hget⟩:=yX hd;obtain⟨_,hd1⟩:=drop_cons hd;obtain⟨hb,hsz,hnx,hall,hok⟩:=h.facts;have htok:=hok.drop nx;rw[hd]at htok;have HN:=Lib.hid ((OL t.text (htok.head.word hk)).trans uD);clear uD;have g1:(t.kind != 1)=false:=by simp[hk]
 have hne:((nx:Int)==all.length)=false:=by simp;omega
 have HG:=Lib.hid hget;rw[<-hd]at hy;clear hget hk;go_enter Tryz.func193,Tryz.ntmps193;go_wp2_with (go_at_call 167;refine(pY B bx all _ _ _ _ _ _ h).mono ?_;rintro e w1⟨rfl,hb1⟩;rw[hy];have h1:=lS h hb1;obtain⟨Ak,vP,vS,hv1⟩:=id h1;obtain⟨b1,o1,c1,rfl,hc1,t0,t1,t2⟩:=hv1.tk.get nx hl;rw[HG.out]at t0 t1 t2;have k0:=hv1.c0;have k1:=hv1.c1;have k4:=hv1.c4;have f4:=hv1.fz 4;have s4:=cell_lt k4)
 go_quiet (fail)
 go_wp2_with fail
 obtain⟨W0,hW0⟩:∃W0,W0=w1.drewN nq:=⟨_,rfl⟩
 rw[<-hW0];have hb0:Below w1.heap.size w1 W0:=by rw[hW0];exact below_drewN (Below.refl _ _) _
 have hv0:=jP hv1 hb0;replace t0:=ak hb0 t0;replace t1:=ak hb0 t1;replace t2:=ak hb0 t2;replace k0:=hv0.c0;replace k1:=hv0.c1;replace s4:bx<W0.heap.size:=cell_lt k1;have s5:=cell_lt t0;have AO:(nx:Int)<all.length:=by omega
 clear k4 f4 hW0;refine bC (C:=ah (aQ) _) 9 [0,1,2,3,4,5,6,7,8,9,10,11] (by kernel_rfl) (by kernel_rfl) (ah.grows _ _) (ah.refl _ _) ?_;iterate 10 (apply ay rfl rfl rfl;(focus intro u hc' hf';go_simp<;>rfl);intro K hK;go_simp;apply hK;clear hK K)
 refine fG rfl rfl rfl (ah.grows _ _) (ah.refl _ _) (λb=>.pointer (some ⟨b,0,none⟩)) (λK hK=>?_);apply Exists.intro;refine⟨λw' hw'=>?_,λbb w5 hw5 hb5 aI hNb hnb=>?_⟩
 ·obtain⟨hc',hf'⟩:=hw'.cell;try simp only[World.size_drew]at hc' hf'
  go_simp;rfl
 go_simp;refine hK _ _ _ ?_;clear hK K;refine eH rfl rfl rfl (ah.grows _ _) hw5 (λK hK=>?_);intro w6 hw6 hb6;obtain⟨m0,m1,m2⟩:=made_cell ((hb6.block bb (made_cell aI).2.2).trans aI);refine⟨((w6.setCell ⟨bb,0,none⟩ (.int .i64 t.kind)).setCell ⟨bb,1,none⟩ (.string t.text)).setCell ⟨bb,2,none⟩ (.int .i64 t.pos),?_,⟨aB (aB (aB hw6 (.inl hNb) _) (.inl hNb) _) (.inl hNb) _,by simp,λj _ hj _=>by rw[Below.heap_setCell _ _ _ _ (λh=>hj (by simp[h])),Below.heap_setCell _ _ _ _ (λh=>hj (by simp[h])),Below.heap_setCell _ _ _ _ (λh=>hj (by simp[h]))]⟩,?_⟩
 ·go_simp
 go_simp;refine hK _ _ _ ?_;clear hK K;refine aK ?_;have hbb:W0.heap.size<=bb:=by simpa using hNb
 obtain⟨W1,hW1⟩:∃W1,W1=((w6.setCell ⟨bb,0,none⟩ (.int .i64 t.kind)).setCell ⟨bb,1,none⟩ (.string t.text)).setCell ⟨bb,2,none⟩ (.int .i64 t.pos):=⟨_,rfl⟩
 rw[<-hW1];have hbW:Below W0.heap.size W0 W1:=by rw[hW1];exact((((Below.refl _ W0).drew.trans (hw6.toBelow.mono (by simp))).setCell hbb _).setCell hbb _).setCell hbb _
 have e0:W1.cell? ⟨bb,0,none⟩=some (.int .i64 t.kind):=by rw[hW1];go_simp
 have e1:W1.cell? ⟨bb,1,none⟩=some (.string t.text):=by rw[hW1];go_simp
 have e2:W1.cell? ⟨bb,2,none⟩=some (.int .i64 t.pos):=by rw[hW1];go_simp
 clear hW1 hw6 hb6 m0 m1 m2 hw5 hb5 aI hNb hnb t0 t1 t2 k0 k1;have aU:=jP hv0 hbW;have k1:=aU.c1;have f1:=aU.fz 1;have s1:bx<W1.heap.size:=cell_lt k1;have sb:bb<W1.heap.size:=cell_lt e0;have Wx:¬bb=bx:=by omega
 obtain⟨q1,q2⟩:=Aq (nx':=nx+1) (vO:=false) aU 1 (.int .i64 ((nx+1:Nat):Int)) (.inl ⟨rfl,rfl,rfl,by omega⟩);have ecast:((nx+1:Nat):Int)=(nx:Int)+1:=by omega
 rw[ecast]at q1 q2;clear ecast;have hF1:Fr B bx w (W1.setCell ⟨bx,1,none⟩ (.int .i64 ((nx:Int)+1))):=(Fr.below hsz (hb1.trans ((hb0.trans (hbW.mono hb0.size)).mono hb1.size))).trans (Fr.exc aU.sz q2 (λk hk=>.inl hk));have hv2:=jP q1 (aj _ (.cells #[.int .i64 17,.int .i64 0,.string t.text] 87));have hF2:=hF1.trans (Fr.below q1.sz (aj _ (.cells #[.int .i64 17,.int .i64 0,.string t.text] 87)));have hlo:∀j,vP.ownBlock=some j\/vS.ownBlock=some j->j<W1.heap.size:=λj hj=>by
  rcases hj with hj|hj
  ·have:=(World.ownsRow.lt q1.on j hj).2;simpa using this
  ·have:=(World.ownsRow.lt q1.oa j hj).2;simpa using this
 have hnx1:(nx:Int)+1<=40000:=by omega
 go_wp2_with (go_at_call 145;refine(Fb _).mono ?_;rintro e w4⟨n14,rfl,hn1,hn2,hst,hb4,iY⟩)
 obtain⟨nb,hnb⟩:∃nb,nb=W1.heap.size:=⟨_,rfl⟩
 have n0:w4.cell? ⟨nb,0,none⟩=some (.int .i64 17):=by rw[hnb];exact ak hb4 (by go_simp)
 have n1:w4.cell? ⟨nb,1,none⟩=some (.int .i64 0):=by rw[hnb];exact ak hb4 (by go_simp)
 have n2:w4.cell? ⟨nb,2,none⟩=some (.string t.text):=by rw[hnb];exact ak hb4 (by go_simp)
 have nf:∀j,w4.frozen? ⟨nb,j,none⟩=false:=λj=>by rw[hnb];exact(hb4.frozen (p:=⟨W1.heap.size,j,none⟩) (by simp)).trans (by go_simp)
 have e1':w4.cell? ⟨bb,1,none⟩=some (.string t.text):=ak hb4 (by go_simp);have e2':w4.cell? ⟨bb,2,none⟩=some (.int .i64 t.pos):=ak hb4 (by go_simp);have hv4:=jP hv2 hb4;have su:=hF2.trans (Fr.below hv2.sz hb4);have nK:B<=nb:=by rw[hnb];have:=aU.sz;exact this
 have y8:∀j,vP.ownBlock=some j\/vS.ownBlock=some j->j<nb:=λj hj=>by rw[hnb];exact hlo j hj
 have xC:¬bb=nb:=by omega
 have vT:=Lib.hid y8;have hres:W1.heap.size<W1.heap.size+1:=by omega
 obtain⟨ra,rc,ha,hrc,hat⟩:=hst;simp only[World.size_alloc,World.size_setCell,Value.slice.injEq]at ha;obtain⟨rfl,hn3,rfl⟩:=ha;obtain rfl:n14=14:=by omega
 have Wy:reserved.length=14:=rfl;try simp only[World.size_alloc,World.size_setCell]
 obtain⟨rb,hrb⟩:∃rb,rb=W1.heap.size+1:=⟨_,rfl⟩
 rw[<-hrb,<-hnb];rw[<-hrb]at hat
 have FX:¬rb=nb:=by omega
 clear hn3 hrb hnb hres hv2 hF2 hF1 q1 q2 hb4 iY hlo y8 aU hv0 hv1 hb0 hbW hn1 hn2 hrc e0 e1 e2 k1 f1 s1 sb h1;have HD1:=Lib.hid hd1;have AP:=Lib.hid (And.intro hnx1 (And.intro hsum (And.intro hnx (And.intro hall hsz))));clear hd hy hy' hd1 hok htok hne AO hnx1 hsum hnx hall hsz;go_loopw [73] (λi wr=>∃(k:Nat) (n:Nd),k<=14/\i=.int .i64 k/\wr.cell? ⟨nb,0,none⟩=some (.int .i64 n.kind)/\wr.cell? ⟨nb,1,none⟩=some (.int .i64 n.value)/\wr.cell? ⟨nb,2,none⟩=some (.string n.name)/\(∀j,wr.frozen? ⟨nb,j,none⟩=false)/\Hid (nd=lu t.text (reserved.drop k) k n)/\ah (λj=>j=nb) w4 wr) (λi _=>14-(intOf i).toNat)
 case atStart=>exact⟨0,⟨17,0,t.text⟩,by omega,rfl,n0,n1,n2,nf,HN.out.symm,ah.refl _ _⟩
 case round =>
  obtain⟨k,n,WA,rfl,y0,y1,y2,yf,HC,hE⟩:=hrel
  have z4:=hE.size
  have OZ:wr.cell? ⟨bb,1,none⟩=some (.string t.text):=(hE.cell.1 bb 1 (cell_lt e1') xC).trans e1'
  have AQ:wr.cell? ⟨bb,2,none⟩=some (.int .i64 t.pos):=(hE.cell.1 bb 2 (cell_lt e1') xC).trans e2'
  have O1:=yf 0
  have DT:=yf 1
  have O4:=yf 2
  by_cases hlt:k<14
  ·obtain⟨b,o,aI,_,hnd⟩:=hat k (by omega)
   simp only[Option.some.injEq,Addr.mk.injEq]at aI
   obtain⟨rfl,rfl,_⟩:=aI
   have c0:=(hE.cell.1 _ _ (cell_lt hnd) FX).trans hnd
   simp only[Nat.zero_add,Nat.mul_one]at c0
   clear hat hnd
   have hkl:k<reserved.length:=by omega
   by_cases he:reserved[k]=t.text
   ·have g2:(reserved[k].toList==t.text.toList)=true:=by rw[k_];simp[he]
    have HC2:Hid (nd=lu t.text (reserved.drop (k+1)) (k+1) ⟨(k:Int)+1,0,⟨#[]⟩⟩):=(show _=_ by rw[HC.out,List.drop_eq_getElem_cons hkl,lu,if_pos he])
    have hE2:ah (λj=>j=nb) w4 (((wr.setCell ⟨nb,0,none⟩ (.int .i64 ((k:Int)+1))).setCell ⟨nb,1,none⟩ (.int .i64 0)).setCell ⟨nb,2,none⟩ (.string ⟨#[]⟩)):=aB (aB (aB hE (.inr rfl) _) (.inr rfl) _) (.inr rfl) _
    clear he HC
    go_wp2
    go_roundw
    case rel=>exact⟨k+1,⟨(k:Int)+1,0,⟨#[]⟩⟩,by omega,by go_num,by go_simp,by go_simp,by go_simp,λj=>by simpa using yf j,HC2,hE2⟩
    case measure=>simp[intOf];omega
   ·have g2:(reserved[k].toList==t.text.toList)=false:=by rw[k_];simp[he]
    have HC2:Hid (nd=lu t.text (reserved.drop (k+1)) (k+1) n):=(show _=_ by rw[HC.out,List.drop_eq_getElem_cons hkl,lu,if_neg he])
    clear he HC
    go_wp2
    go_roundw
    case rel=>exact⟨k+1,n,by omega,by go_num,y0,y1,y2,yf,HC2,hE⟩
    case measure=>simp[intOf];omega
  ·obtain rfl:k=14:=by omega
   have hn:nd=n:=by rw[HC.out];rfl
   subst hn
   have hvR:=Jw hv4 hE (λj hj=>by subst hj;exact⟨nK,λe=>by have:=vT.out _ (.inl e);omega,λe=>by have:=vT.out _ (.inr e);omega⟩)
   have y9:=su.trans (Fr.exc hv4.sz hE (λj hj=>.inr (by subst hj;exact nK)))
   have zR:bx<wr.heap.size:=Nat.lt_of_lt_of_le hvR.lt hvR.sz
   have FY:nb<wr.heap.size:=cell_lt y0
   clear hat HC hE hv4 su e1' e2' n0 n1 n2 nf HN
   obtain⟨hnx1,hsum,hnx,hall,hsz⟩:=AP.out
   have hd1:=HD1.out
   clear hnx1 hnx
   obtain⟨m,hm⟩:∃m,nx+1=m:=⟨_,rfl⟩
   rw[hm]at hvR hd1
   have HM:=Lib.hid hm
   clear hm AP HD1
   have k0:=hvR.c0
   have k1:=hvR.c1
   have k4:=hvR.c4
   have f4:=hvR.fz 4
   have hlen:=hvR.len
   have O6:∀nq,qg B bx all w (t::r) out (bQ (f+1) (t::r) out) (.returned (.tuple #[])) ((wr.drewN nq).setCell ⟨bx,4,none⟩ (.bool true)):=λnq=>by
    have h2:=jP hvR (below_drewN (Below.refl wr.heap.size wr) nq);obtain⟨h3,hF3⟩:=OJ ⟨_,_,_,h2⟩;rw[HE.out];exact⟨⟨m,_,_,h3,hd1,(λhh=>by cases hh),by simp,by simp⟩,(y9.trans (Fr.below hvR.sz (below_drewN (Below.refl wr.heap.size wr) nq))).trans hF3,by simp,rfl⟩
   have hrr:m=all.length\/∃(hl1:m<all.length),(all[m].kind != 2)=true:=by
    cases hr:r with
    | nil=>rw[hr]at hd1;exact .inl (by have h7:=congrArg List.length hd1;have h8:=hvR.nx;simp at h7;omega)
    | cons n r2 =>
     rw[hr]at hd1
     obtain⟨hl1,hg1⟩:=yX hd1
     exact .inr ⟨hl1,by rw[hg1];simpa using zh.out n r2 hr⟩
   have WB:=Lib.hid O6
   rcases hrr with rfl|⟨hl1,g2⟩
   ·rcases hgg with v1|⟨v1,v2⟩|⟨v1,v2,v3⟩
    all_goals
     clear O6 hd1 hsum
     go_wp2_with fail
     go_quiet (fail)
     go_wp2
     exact bodyPost_ret (v:=.tuple #[]) (by simp[results,Tryz.results193,go_sem]) rfl (WB.out _)
   ·obtain⟨b2,o2,c2,he2,hc2,j0,j1,j2⟩:=hvR.tk.get m hl1
    simp only[Value.slice.injEq,Option.some.injEq,Addr.mk.injEq]at he2
    obtain⟨⟨rfl,rfl,_⟩,_,rfl⟩:=he2
    have hne2:((m:Int)==all.length)=false:=by simp;omega
    have acM:(m:Int)<all.length:=by omega
    rcases hgg with v1|⟨v1,v2⟩|⟨v1,v2,v3⟩
    all_goals
     clear O6 hd1 hsum
     go_wp2_with fail
     go_quiet (fail)
     go_wp2
     exact bodyPost_ret (v:=.tuple #[]) (by simp[results,Tryz.results193,go_sem]) rfl (WB.out _)
theorem acN (B bx:Nat) (all:List Tk) (f nx:Nat) (t:Tk) (n:Tk) (r:List Tk) (out:Rd) (w:World) (hd:all.drop nx=t::n::r) (hsum:out.length+(r.length+1+1)<=40000) (h:fC B bx all w nx (out.map Prod.fst) (out.map Prod.snd) false) (hk:t.kind=1) (h1:bg t.text=1\/bg t.text=7\/bg t.text=13) (hn2:n.kind=2) :
  Calls Tryz.prog 193 #[.pointer (some ⟨bx,0,none⟩)] w (qg B bx all w (t::n::r) out (bQ (f+1) (t::n::r) out)):=by
 have hy:bJ (t::n::r) ⟨#[40]⟩=false:=by simp[bJ,hk]
 have hy':bI (t::n::r) 40=false:=by simp[bI,hk]
 have HE:Hid (bQ (f+1) (t::n::r) out=⟨false,r,out++[(⟨bg t.text,jB n.text,⟨#[]⟩⟩,t.pos)]⟩):=(show _=_ by rw[bQ.eq_def];simp[hy',hk,h1,hn2])
 have hnd1:(⟨bg t.text,jB n.text,⟨#[]⟩⟩:Nd)=⟨(jI t.text).kind,jB n.text,(jI t.text).name⟩:=by
  have h17:bg t.text≠17:=by omega
  simp[jI,h17]
 rw[hnd1]at HE;clear hnd1;have hkn:(jI t.text).kind=bg t.text:=rfl;rw[<-hkn]at h1;clear hkn;obtain⟨nd,uD⟩:∃nd,jI t.text=nd:=⟨_,rfl⟩
 rw[uD]at h1 HE;have hgg:(nd.kind==1)=true\/((nd.kind==1)=false/\(nd.kind==7)=true)\/((nd.kind==1)=false/\(nd.kind==7)=false/\(nd.kind==13)=true):=by rcases h1 with h|h|h<;>simp[h]
 clear h1;obtain⟨hl,hget⟩:=yX hd;obtain⟨_,hd1⟩:=drop_cons hd;obtain⟨hb,hsz,hnx,hall,hok⟩:=h.facts;have htok:=hok.drop nx;rw[hd]at htok;have hnum:=htok.tail.head.num hn2;have HN:=Lib.hid ((OL t.text (htok.head.word hk)).trans uD);clear uD;have g1:(t.kind != 1)=false:=by simp[hk]
 have hne:((nx:Int)==all.length)=false:=by simp;omega
 have HG:=Lib.hid hget;rw[<-hd]at hy;clear hget hk;go_enter Tryz.func193,Tryz.ntmps193;go_wp2_with (go_at_call 167;refine(pY B bx all _ _ _ _ _ _ h).mono ?_;rintro e w1⟨rfl,hb1⟩;rw[hy];have h1:=lS h hb1;obtain⟨Ak,vP,vS,hv1⟩:=id h1;obtain⟨b1,o1,c1,rfl,hc1,t0,t1,t2⟩:=hv1.tk.get nx hl;rw[HG.out]at t0 t1 t2;have k0:=hv1.c0;have k1:=hv1.c1;have k4:=hv1.c4;have f4:=hv1.fz 4;have s4:=cell_lt k4)
 go_quiet (fail)
 go_wp2_with fail
 obtain⟨W0,hW0⟩:∃W0,W0=w1.drewN nq:=⟨_,rfl⟩
 rw[<-hW0];have hb0:Below w1.heap.size w1 W0:=by rw[hW0];exact below_drewN (Below.refl _ _) _
 have hv0:=jP hv1 hb0;replace t0:=ak hb0 t0;replace t1:=ak hb0 t1;replace t2:=ak hb0 t2;replace k0:=hv0.c0;replace k1:=hv0.c1;replace s4:bx<W0.heap.size:=cell_lt k1;have s5:=cell_lt t0;have AO:(nx:Int)<all.length:=by omega
 clear k4 f4 hW0;refine bC (C:=ah (aQ) _) 9 [0,1,2,3,4,5,6,7,8,9,10,11] (by kernel_rfl) (by kernel_rfl) (ah.grows _ _) (ah.refl _ _) ?_;iterate 10 (apply ay rfl rfl rfl;(focus intro u hc' hf';go_simp<;>rfl);intro K hK;go_simp;apply hK;clear hK K)
 refine fG rfl rfl rfl (ah.grows _ _) (ah.refl _ _) (λb=>.pointer (some ⟨b,0,none⟩)) (λK hK=>?_);apply Exists.intro;refine⟨λw' hw'=>?_,λbb w5 hw5 hb5 aI hNb hnb=>?_⟩
 ·obtain⟨hc',hf'⟩:=hw'.cell;try simp only[World.size_drew]at hc' hf'
  go_simp;rfl
 go_simp;refine hK _ _ _ ?_;clear hK K;refine eH rfl rfl rfl (ah.grows _ _) hw5 (λK hK=>?_);intro w6 hw6 hb6;obtain⟨m0,m1,m2⟩:=made_cell ((hb6.block bb (made_cell aI).2.2).trans aI);refine⟨((w6.setCell ⟨bb,0,none⟩ (.int .i64 t.kind)).setCell ⟨bb,1,none⟩ (.string t.text)).setCell ⟨bb,2,none⟩ (.int .i64 t.pos),?_,⟨aB (aB (aB hw6 (.inl hNb) _) (.inl hNb) _) (.inl hNb) _,by simp,λj _ hj _=>by rw[Below.heap_setCell _ _ _ _ (λh=>hj (by simp[h])),Below.heap_setCell _ _ _ _ (λh=>hj (by simp[h])),Below.heap_setCell _ _ _ _ (λh=>hj (by simp[h]))]⟩,?_⟩
 ·go_simp
 go_simp;refine hK _ _ _ ?_;clear hK K;refine aK ?_;have hbb:W0.heap.size<=bb:=by simpa using hNb
 obtain⟨W1,hW1⟩:∃W1,W1=((w6.setCell ⟨bb,0,none⟩ (.int .i64 t.kind)).setCell ⟨bb,1,none⟩ (.string t.text)).setCell ⟨bb,2,none⟩ (.int .i64 t.pos):=⟨_,rfl⟩
 rw[<-hW1];have hbW:Below W0.heap.size W0 W1:=by rw[hW1];exact((((Below.refl _ W0).drew.trans (hw6.toBelow.mono (by simp))).setCell hbb _).setCell hbb _).setCell hbb _
 have e0:W1.cell? ⟨bb,0,none⟩=some (.int .i64 t.kind):=by rw[hW1];go_simp
 have e1:W1.cell? ⟨bb,1,none⟩=some (.string t.text):=by rw[hW1];go_simp
 have e2:W1.cell? ⟨bb,2,none⟩=some (.int .i64 t.pos):=by rw[hW1];go_simp
 clear hW1 hw6 hb6 m0 m1 m2 hw5 hb5 aI hNb hnb t0 t1 t2 k0 k1;have aU:=jP hv0 hbW;have k1:=aU.c1;have f1:=aU.fz 1;have s1:bx<W1.heap.size:=cell_lt k1;have sb:bb<W1.heap.size:=cell_lt e0;have Wx:¬bb=bx:=by omega
 obtain⟨q1,q2⟩:=Aq (nx':=nx+1) (vO:=false) aU 1 (.int .i64 ((nx+1:Nat):Int)) (.inl ⟨rfl,rfl,rfl,by omega⟩);have ecast:((nx+1:Nat):Int)=(nx:Int)+1:=by omega
 rw[ecast]at q1 q2;clear ecast;have hF1:Fr B bx w (W1.setCell ⟨bx,1,none⟩ (.int .i64 ((nx:Int)+1))):=(Fr.below hsz (hb1.trans ((hb0.trans (hbW.mono hb0.size)).mono hb1.size))).trans (Fr.exc aU.sz q2 (λk hk=>.inl hk));have hv2:=jP q1 (aj _ (.cells #[.int .i64 17,.int .i64 0,.string t.text] 87));have hF2:=hF1.trans (Fr.below q1.sz (aj _ (.cells #[.int .i64 17,.int .i64 0,.string t.text] 87)));have hlo:∀j,vP.ownBlock=some j\/vS.ownBlock=some j->j<W1.heap.size:=λj hj=>by
  rcases hj with hj|hj
  ·have:=(World.ownsRow.lt q1.on j hj).2;simpa using this
  ·have:=(World.ownsRow.lt q1.oa j hj).2;simpa using this
 have hnx1:(nx:Int)+1<=40000:=by omega
 go_wp2_with (go_at_call 145;refine(Fb _).mono ?_;rintro e w4⟨n14,rfl,hn1,hn2,hst,hb4,iY⟩)
 obtain⟨nb,hnb⟩:∃nb,nb=W1.heap.size:=⟨_,rfl⟩
 have n0:w4.cell? ⟨nb,0,none⟩=some (.int .i64 17):=by rw[hnb];exact ak hb4 (by go_simp)
 have n1:w4.cell? ⟨nb,1,none⟩=some (.int .i64 0):=by rw[hnb];exact ak hb4 (by go_simp)
 have n2:w4.cell? ⟨nb,2,none⟩=some (.string t.text):=by rw[hnb];exact ak hb4 (by go_simp)
 have nf:∀j,w4.frozen? ⟨nb,j,none⟩=false:=λj=>by rw[hnb];exact(hb4.frozen (p:=⟨W1.heap.size,j,none⟩) (by simp)).trans (by go_simp)
 have e1':w4.cell? ⟨bb,1,none⟩=some (.string t.text):=ak hb4 (by go_simp);have e2':w4.cell? ⟨bb,2,none⟩=some (.int .i64 t.pos):=ak hb4 (by go_simp);have hv4:=jP hv2 hb4;have su:=hF2.trans (Fr.below hv2.sz hb4);have nK:B<=nb:=by rw[hnb];have:=aU.sz;exact this
 have y8:∀j,vP.ownBlock=some j\/vS.ownBlock=some j->j<nb:=λj hj=>by rw[hnb];exact hlo j hj
 have xC:¬bb=nb:=by omega
 have vT:=Lib.hid y8;have hres:W1.heap.size<W1.heap.size+1:=by omega
 obtain⟨ra,rc,ha,hrc,hat⟩:=hst;simp only[World.size_alloc,World.size_setCell,Value.slice.injEq]at ha;obtain⟨rfl,hn3,rfl⟩:=ha;obtain rfl:n14=14:=by omega
 have Wy:reserved.length=14:=rfl;try simp only[World.size_alloc,World.size_setCell]
 obtain⟨rb,hrb⟩:∃rb,rb=W1.heap.size+1:=⟨_,rfl⟩
 rw[<-hrb,<-hnb];rw[<-hrb]at hat
 have FX:¬rb=nb:=by omega
 clear hn3 hrb hnb hres hv2 hF2 hF1 q1 q2 hb4 iY hlo y8 aU hv0 hv1 hb0 hbW hn1 hn2 hrc e0 e1 e2 k1 f1 s1 sb h1;have HD1:=Lib.hid hd1;have AP:=Lib.hid (And.intro hnx1 (And.intro hsum (And.intro hnx (And.intro hall hsz))));clear hd hy hy' hd1 hok htok hne AO hnx1 hsum hnx hall hsz;go_loopw [73] (λi wr=>∃(k:Nat) (n:Nd),k<=14/\i=.int .i64 k/\wr.cell? ⟨nb,0,none⟩=some (.int .i64 n.kind)/\wr.cell? ⟨nb,1,none⟩=some (.int .i64 n.value)/\wr.cell? ⟨nb,2,none⟩=some (.string n.name)/\(∀j,wr.frozen? ⟨nb,j,none⟩=false)/\Hid (nd=lu t.text (reserved.drop k) k n)/\ah (λj=>j=nb) w4 wr) (λi _=>14-(intOf i).toNat)
 case atStart=>exact⟨0,⟨17,0,t.text⟩,by omega,rfl,n0,n1,n2,nf,HN.out.symm,ah.refl _ _⟩
 case round =>
  obtain⟨k,n,WA,rfl,y0,y1,y2,yf,HC,hE⟩:=hrel
  have z4:=hE.size
  have OZ:wr.cell? ⟨bb,1,none⟩=some (.string t.text):=(hE.cell.1 bb 1 (cell_lt e1') xC).trans e1'
  have AQ:wr.cell? ⟨bb,2,none⟩=some (.int .i64 t.pos):=(hE.cell.1 bb 2 (cell_lt e1') xC).trans e2'
  have O1:=yf 0
  have DT:=yf 1
  have O4:=yf 2
  by_cases hlt:k<14
  ·obtain⟨b,o,aI,_,hnd⟩:=hat k (by omega)
   simp only[Option.some.injEq,Addr.mk.injEq]at aI
   obtain⟨rfl,rfl,_⟩:=aI
   have c0:=(hE.cell.1 _ _ (cell_lt hnd) FX).trans hnd
   simp only[Nat.zero_add,Nat.mul_one]at c0
   clear hat hnd
   have hkl:k<reserved.length:=by omega
   by_cases he:reserved[k]=t.text
   ·have g2:(reserved[k].toList==t.text.toList)=true:=by rw[k_];simp[he]
    have HC2:Hid (nd=lu t.text (reserved.drop (k+1)) (k+1) ⟨(k:Int)+1,0,⟨#[]⟩⟩):=(show _=_ by rw[HC.out,List.drop_eq_getElem_cons hkl,lu,if_pos he])
    have hE2:ah (λj=>j=nb) w4 (((wr.setCell ⟨nb,0,none⟩ (.int .i64 ((k:Int)+1))).setCell ⟨nb,1,none⟩ (.int .i64 0)).setCell ⟨nb,2,none⟩ (.string ⟨#[]⟩)):=aB (aB (aB hE (.inr rfl) _) (.inr rfl) _) (.inr rfl) _
    clear he HC
    go_wp2
    go_roundw
    case rel=>exact⟨k+1,⟨(k:Int)+1,0,⟨#[]⟩⟩,by omega,by go_num,by go_simp,by go_simp,by go_simp,λj=>by simpa using yf j,HC2,hE2⟩
    case measure=>simp[intOf];omega
   ·have g2:(reserved[k].toList==t.text.toList)=false:=by rw[k_];simp[he]
    have HC2:Hid (nd=lu t.text (reserved.drop (k+1)) (k+1) n):=(show _=_ by rw[HC.out,List.drop_eq_getElem_cons hkl,lu,if_neg he])
    clear he HC
    go_wp2
    go_roundw
    case rel=>exact⟨k+1,n,by omega,by go_num,y0,y1,y2,yf,HC2,hE⟩
    case measure=>simp[intOf];omega
  ·obtain rfl:k=14:=by omega
   have hn:nd=n:=by rw[HC.out];rfl
   subst hn
   have hvR:=Jw hv4 hE (λj hj=>by subst hj;exact⟨nK,λe=>by have:=vT.out _ (.inl e);omega,λe=>by have:=vT.out _ (.inr e);omega⟩)
   have y9:=su.trans (Fr.exc hv4.sz hE (λj hj=>.inr (by subst hj;exact nK)))
   have zR:bx<wr.heap.size:=Nat.lt_of_lt_of_le hvR.lt hvR.sz
   have FY:nb<wr.heap.size:=cell_lt y0
   clear hat HC hE hv4 su e1' e2' n0 n1 n2 nf HN
   obtain⟨hnx1,hsum,hnx,hall,hsz⟩:=AP.out
   have hd1:=HD1.out
   clear hnx1 hnx
   obtain⟨m,hm⟩:∃m,nx+1=m:=⟨_,rfl⟩
   rw[hm]at hvR hd1
   clear hm AP HD1
   obtain⟨hl1,hg1⟩:=yX hd1
   have hd2:=(drop_cons hd1).2
   have k0:=hvR.c0
   have k1:=hvR.c1
   have hlen:=hvR.len
   obtain⟨b2,o2,c2,he2,hc2,j0,j1,j2⟩:=hvR.tk.get m hl1
   simp only[Value.slice.injEq,Option.some.injEq,Addr.mk.injEq]at he2
   obtain⟨⟨rfl,rfl,_⟩,_,rfl⟩:=he2
   rw[hg1]at j0 j1 j2
   have hne2:((m:Int)==all.length)=false:=by simp;omega
   have acM:(m:Int)<all.length:=by omega
   have g2:(n.kind != 2)=false:=by simp[hn2]
   have acO:¬bx=nb:=by have:=hvR.lt;omega
   have ahq:¬b1=nb:=by have:=hvR.low b1 o1 _ _ rfl;omega
   have AU:=cell_lt j0
   have HX:=Lib.hid (And.intro hd2 (And.intro hsum hg1))
   have JB:=Lib.hid hnum
   clear hd1 hd2 hsum hg1 hn2 hnum
   rcases hgg with v1|⟨v1,v2⟩|⟨v1,v2,v3⟩
   all_goals
    go_wp2_with fail
    go_quiet (fail)
    go_wp2_with fail
    obtain⟨W8,qj⟩:∃W8,W8=wr.drewN nq:=⟨_,rfl⟩
    rw[<-qj]
    have hb8:Below wr.heap.size wr W8:=by rw[qj];exact below_drewN (Below.refl _ _) _
    have h_:=jP hvR hb8
    replace j0:=ak hb8 j0
    replace j1:=ak hb8 j1
    replace k0:=h_.c0
    replace k1:=h_.c1
    replace y0:=ak hb8 y0
    replace y1:=ak hb8 y1
    replace y2:=ak hb8 y2
    replace AQ:=ak hb8 AQ
    replace DT:=(hb8.frozen (p:=⟨nb,1,none⟩) (by simpa using FY)).trans DT
    replace zR:bx<W8.heap.size:=cell_lt k1
    replace FY:nb<W8.heap.size:=cell_lt y0
    replace AU:b1<W8.heap.size:=cell_lt j0
    have kR:bb<W8.heap.size:=cell_lt AQ
    have WC:=y9.trans (Fr.below hvR.sz hb8)
    clear qj hb8 hvR y9 j2 OZ O1 O4 yf
    refine bC (C:=ah ((λj=>j=nb)) _) 9 [0,1,2,3,4,5,6,7,8,9,10,11,12,13] (by kernel_rfl) (by kernel_rfl) (ah.grows _ _) (ah.refl _ _) ?_
    iterate 11 (apply fF rfl rfl rfl;(focus intro u hc' hf';(try simp only[World.size_drew]at hc' hf');go_simp<;>rfl);intro K hK;go_simp;apply hK;clear hK K)
    refine aX rfl rfl rfl (ah.grows _ _) (ah.refl _ _) 165 (λK hK=>?_);apply Exists.intro;refine⟨λw' hw'=>?_,λw' hw' hbw=>?_⟩;(focus go_simp;rfl);refine(EX n.text _ JB.out.2.1 (by have:=JB.out.2.2.1;omega) JB.out.1).mono ?_;rintro e w6⟨rfl,rfl⟩;refine⟨_,rfl,Below.refl _ _,λhx=>?_⟩;go_simp;apply hK;clear hK K
    rw[JB.out.2.2.2]
    iterate 1 (apply fF rfl rfl rfl;(focus intro u hc' hf';(try simp only[World.size_drew]at hc' hf');go_simp<;>rfl);intro K hK;go_simp;apply hK;clear hK K)
    refine eH rfl rfl rfl (ah.grows _ _) hx (λK hK=>?_)
    intro w9 eu bG
    have DU:Below W8.heap.size W8 w9:=(Below.refl _ W8).drew.trans ((hbw.trans (bG.mono hbw.size)).mono (by simp))
    have u1:=ak DU y1
    have uf:w9.frozen? ⟨nb,1,none⟩=false:=(DU.frozen (p:=⟨nb,1,none⟩) (by simpa using FY)).trans DT
    have uz:=cell_lt u1
    refine⟨w9.setCell ⟨nb,1,none⟩ (.int .i64 (jB n.text)),?_,⟨aB eu (.inr rfl) _,by simp,λj hj _ _=>by rw[Below.heap_setCell _ _ _ _ (by show ¬_=_;intro hh;simp only[World.size_drew]at hj hh;omega)]⟩,?_⟩
    ·go_simp
    go_simp
    refine hK _ _ _ ?_
    clear hK K
    refine aK ?_
    obtain⟨W9,uF⟩:∃W9,W9=w9.setCell ⟨nb,1,none⟩ (.int .i64 (jB n.text)):=⟨_,rfl⟩
    rw[<-uF]
    have jD:ah (λj=>j=nb) W8 W9:=by rw[uF];exact aB (T:=λj=>j=nb) (Below.exc DU) (.inr rfl) _
    have O7:=Jw h_ jD (λj hj=>by subst hj;exact⟨nK,λe=>by have:=vT.out _ (.inl e);omega,λe=>by have:=vT.out _ (.inr e);omega⟩)
    have O5:=WC.trans (Fr.exc h_.sz jD (λj hj=>.inr (by subst hj;exact nK)))
    have x0:W9.cell? ⟨nb,0,none⟩=some (.int .i64 nd.kind):=by rw[uF];have:=ak DU y0;go_simp
    have x1:W9.cell? ⟨nb,1,none⟩=some (.int .i64 (jB n.text)):=by rw[uF];go_simp
    have x2:W9.cell? ⟨nb,2,none⟩=some (.string nd.name):=by rw[uF];have:=ak DU y2;go_simp
    have xb2:W9.cell? ⟨bb,2,none⟩=some (.int .i64 t.pos):=(jD.cell.1 bb 2 kR xC).trans AQ
    obtain⟨h10,acP⟩:=DI ⟨_,_,_,O7⟩ hl1
    have k9:=O7.c1
    have f9:=O7.fz 1
    have z9:bx<W9.heap.size:=cell_lt k9
    have hm1:(m:Int)+1<=40000:=by omega
    have hnn:¬nb=bx:=λe=>acO e.symm
    clear uF jD eu bG DU u1 uf uz hx hw' hbw y0 y1 y2 AQ DT j0 j1 k0 k1 h_ WC v1
    go_wp2_with (go_at_call 168;refine(Ju B bx all (m+1) _ _ false ⟨nd.kind,jB n.text,nd.name⟩ t.pos _ h10 (by have:=HX.out.2.1;simp;omega) (by have:=HX.out.2.1;simp;omega)).mono ?_;rintro e iE⟨rfl,h11,acQ⟩)
    exact bodyPost_end (v:=.tuple #[]) (by simp[results,Tryz.results193,go_sem]) rfl (by rw[HE.out];exact⟨⟨m+1,_,_,h11,HX.out.1,(λ_=>⟨by simp,by simp⟩),by simp,by simp<;>omega⟩,(O5.trans acP).trans acQ,by simp<;>omega,rfl⟩)
end Go.Proofs.YtikgblkfmpecfaaGreatDoor
