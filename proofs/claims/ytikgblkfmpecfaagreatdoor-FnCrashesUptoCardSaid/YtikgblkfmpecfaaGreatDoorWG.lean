/-
  The walk of isLibrary. Own work.
-/
import Derived.Test.YtikgblkfmpecfaaGreatDoorWF
import Derived.Test.YtikgblkfmpecfaaGreatDoorWA
import Derived.Test.YtikgblkfmpecfaaGreatDoorWB
import Derived.Test.YtikgblkfmpecfaaGreatDoorWC
import Derived.WalkSpells
set_option linter.all false
set_option maxRecDepth 100000
set_option maxHeartbeats 8000000
namespace Go.Proofs.YtikgblkfmpecfaaGreatDoor
open Go.RowKit
theorem Xe {w:World} {a:Option Addr} {n cap:Nat} {L:List Df} (h:aG w (.slice a n cap) L) (k:Nat) (hk:k<=L.length):aG w (.slice a k cap) (L.take k):=by
 obtain⟨a',cap',he,hc,hat⟩:=h;simp only[Value.slice.injEq]at he;obtain⟨rfl,rfl,rfl⟩:=he;have hl:(L.take k).length=k:=by rw[List.length_take];omega
 refine⟨a,cap,by rw[hl],by omega,?_⟩;intro i hi;rw[hl]at hi;obtain⟨b,o,h1,h2,h3⟩:=hat i (by omega);refine⟨b,o,h1,by omega,?_⟩;rw[List.getElem_take];exact h3
theorem fJ (v:Value) (L:List Df) (w:World) (hv:aG w v L) (hn:L.length<=1048576) (hs:∀d∈L,dN d) :
  Calls Tryz.prog 46 #[v] w λe w'=>e=.returned (.bool (good L))/\Below w.heap.size w w':=by
 have hv0:=hv;obtain⟨a,cap,rfl,hc,hat⟩:=hv;by_cases hl:L.length<=12
 ·go_enter Tryz.func46,Tryz.ntmps46;go_wp2;go_loopw [12] (λi wr=>∃k:Nat,k<=L.length/\i=.int .i64 k/\Hid (dJ [] (L.take k)=true)/\Hid (good L=dJ (L.take k) (L.drop k))/\Below w.heap.size w wr) (λi _=>L.length-(intOf i).toNat)
  case atStart=>exact⟨0,by omega,rfl,(by simp[Hid,dJ]:Hid (dJ [] (L.take 0)=true)),(by simp[Hid,good,hl]:Hid (good L=dJ (L.take 0) (L.drop 0))),Below.refl _ _⟩
  case round =>
   obtain⟨k,hk,rfl,HG,HF,hbel⟩:=hrel
   by_cases hlt:k<L.length
   ·have hvk:=Xe (hv0.keep hbel) k hk
    obtain⟨b,o,rfl,_,hnd⟩:=hat k hlt
    obtain⟨c0,c1,c2,vb,c3,hvb⟩:=hnd.keep hbel
    obtain⟨va,vc,rfl⟩:=hvb.slice
    have hsz:=hbel.size
    have hok:=hs L[k] (List.getElem_mem _)
    have hnm:∀d∈L.take k,d.name.size<=1048576:=λd hd=>(hs d (List.mem_of_mem_take hd)).1
    have hsm:=vJ HG.out
    have FH:=FD HG.out
    have htl:(L.take k).length<=1048576:=by rw[List.length_take];omega
    have hkc:k<=cap:=by omega
    clear hat hnd hs
    go_wp2_with fail
    refine bC (C:=ah (aQ) _) 2 [0,1,2,3,4,5,6,7,8,9,10,11,12,13] (by kernel_rfl) (by kernel_rfl) (ah.grows _ _) (ah.refl _ _) ?_
    iterate 6 (apply ay rfl rfl rfl;(focus intro u hc' hf';go_simp<;>rfl);intro K hK;go_simp;apply hK;clear hK K)
    have up:∀{o:Obj} {w':World},ah aQ (wr.alloc o).drew w'->Below wr.heap.size wr w':=λh=>(((Below.refl _ _).alloc (Nat.le_refl _) _).drew).trans (h.toBelow.mono (by simp))
    refine aX rfl rfl rfl (ah.grows _ _) (ah.refl _ _) 82 (λK hK=>?_);apply Exists.intro;refine⟨λw' hw'=>?_,λw' hw' hbw=>?_⟩;(focus go_simp;rfl);refine(Jb _ (L.take k) _ (hvk.keep (up hw')) htl hnm).mono ?_;rintro e w3⟨bc,rfl,ht3,hbc,hb3⟩;refine⟨_,rfl,hb3,λhx=>?_⟩;go_simp;apply hK;clear hK K
    refine aX rfl rfl rfl (ah.grows _ _) (hx) 81 (λK hK=>?_);apply Exists.intro;refine⟨λw' hw'=>?_,λw' hw' hbw=>?_⟩;(focus go_simp;rfl);refine(Om _ L[k].body (L.take k) bc _ (hvb.keep (up hw')) (ht3.keep hbw) hok.2.2 hok.2.1 hsm).mono ?_;rintro e w4⟨x,rfl,hx4,hb4⟩;refine⟨_,rfl,hb4,λhx=>?_⟩;go_simp;apply hK;clear hK K
    rw[Oo FH]at *
    iterate 3 (apply ay rfl rfl rfl;(focus intro u hc' hf';go_simp<;>rfl);intro K hK;go_simp;apply hK;clear hK K)
    refine fG rfl rfl rfl (ah.grows _ _) hx (λb=>.pointer (some ⟨b,0,none⟩)) (λK hK=>?_)
    apply Exists.intro
    refine⟨λw' hw'=>?_,λbb w5 hw5 hb5 aI hNb hnb=>?_⟩
    ·go_simp
     rfl
    go_simp
    refine hK _ _ _ ?_
    clear hK K
    refine eH rfl rfl rfl (ah.grows _ _) hw5 (λK hK=>?_)
    intro w6 hw6 hb6
    obtain⟨m0,m1,m2⟩:=made_cell ((hb6.block bb (made_cell aI).2.2).trans aI)
    refine⟨(w6.setCell ⟨bb,0,none⟩ (.int .i64 x.1)).setCell ⟨bb,1,none⟩ (.int .i64 x.2),?_,⟨aB (aB hw6 (.inl hNb) _) (.inl hNb) _,by simp,λj _ hj _=>by rw[Below.heap_setCell _ _ _ _ (λh=>hj (by simp[h])),Below.heap_setCell _ _ _ _ (λh=>hj (by simp[h]))]⟩,?_⟩
    ·go_simp
    go_simp
    refine hK _ _ _ ?_
    clear hK K
    iterate 1 (apply ay rfl rfl rfl;(focus intro u hc' hf';go_simp<;>rfl);intro K hK;go_simp;apply hK;clear hK K)
    refine aK ?_
    have hbb:wr.heap.size<bb:=by simp at hNb;omega
    obtain⟨xH,hf7,hs7⟩:=bH hw6.toBelow
    simp only[World.size_alloc,World.drew]at hs7
    have hgt:¬bb=wr.heap.size:=by omega
    generalize hW:(w6.setCell ⟨bb,0,none⟩ (.int .i64 x.1)).setCell ⟨bb,1,none⟩ (.int .i64 x.2)=W
    have n0:W.cell? ⟨bb,0,none⟩=some (.int .i64 x.1):=by rw[<-hW];clear hW;go_simp
    have n1:W.cell? ⟨bb,1,none⟩=some (.int .i64 x.2):=by rw[<-hW];clear hW;go_simp
    have e0:W.cell? ⟨wr.heap.size,0,none⟩=some (.string L[k].name):=by rw[<-hW];clear hW;go_simp
    have e1:W.cell? ⟨wr.heap.size,1,none⟩=some (.int .i64 L[k].inn):=by rw[<-hW];clear hW;go_simp
    have e2:W.cell? ⟨wr.heap.size,2,none⟩=some (.int .i64 L[k].out):=by rw[<-hW];clear hW;go_simp
    have hbW:Below wr.heap.size wr W:=by rw[<-hW];exact(((up hw6).setCell (by simp;omega) _).setCell (by simp;omega) _)
    have hsW:bb<W.heap.size:=by rw[<-hW];simpa using m2
    have Py:wr.heap.size<W.heap.size:=by omega
    clear hW xH hf7 hs7 m0 m1 m2 hw6 hb6 hw5 hb5 aI hNb hnb hx hb4 ht3 hb3
    have hag:ql (L.take k) L[k]=(decide (aS (aO (L.take k)) L[k].body=some (L[k].inn,L[k].out))&&nameB L[k].name&&(findD (L.take k) L[k].name).isNone):=rfl
    have hfn:=acT L[k].name (L.take k)
    have hgo:good L=(ql (L.take k) L[k]&&dJ (L.take (k+1)) (L.drop (k+1))):=by
     rw[HF.out,List.drop_eq_getElem_cons hlt,dJ,List.take_succ_eq_append_getElem hlt]
    have hgg:dJ [] (L.take (k+1))=ql (L.take k) L[k]:=by
     rw[List.take_succ_eq_append_getElem hlt,AV,HG.out];simp[dJ]
    cases hR:aS (aO (L.take k)) L[k].body with
    | none =>
     have HT:Hid (good L=false):=(show good L=false by rw[hgo,hag,hR];simp)
     clear hag hfn hgo hgg hR
     go_wp2_with fail
     refine bC (C:=ah (aQ) _) 2 [0,1,2,3,4,5,6,7,8,9,10,11,12,13,14,15,16,17,18,19,20,21,22,23,24,25] (by kernel_rfl) (by kernel_rfl) (ah.grows _ _) (ah.refl _ _) ?_
     iterate 3 (apply ay rfl rfl rfl;(focus intro u hc' hf';go_simp<;>rfl);intro K hK;go_simp;apply hK;clear hK K)
     iterate 7 (refine oJ rfl λK hK=>⟨by first|rfl|(simp[Region.wanted,yielded,go_sem]),?_⟩;go_simp;apply hK;clear hK K)
     iterate 2 (apply ay rfl rfl rfl;(focus intro u hc' hf';go_simp<;>rfl);intro K hK;go_simp;apply hK;clear hK K)
     iterate 4 (refine oJ rfl λK hK=>⟨by first|rfl|(simp[Region.wanted,yielded,go_sem]),?_⟩;go_simp;apply hK;clear hK K)
     iterate 2 (apply ay rfl rfl rfl;(focus intro u hc' hf';go_simp<;>rfl);intro K hK;go_simp;apply hK;clear hK K)
     iterate 7 (refine oJ rfl λK hK=>⟨by first|rfl|(simp[Region.wanted,yielded,go_sem]),?_⟩;go_simp;apply hK;clear hK K)
     iterate 1 (apply ay rfl rfl rfl;(focus intro u hc' hf';go_simp<;>rfl);intro K hK;go_simp;apply hK;clear hK K)
     refine aK ?_
     go_wp2
     go_ret
     exact⟨dI HT.out.symm,hbel.trans (hbW.drew.mono (by omega))⟩
    | some t =>
     obtain rfl:=hx4 t hR
     have hWd:Below wr.heap.size wr W.drew:=hbW.drew
     have xI:=hok.1
     by_cases p1:x.1=L[k].inn/\x.2=L[k].out
     ·obtain⟨p1,p2⟩:=p1
      have hdt:decide (aS (aO (L.take k)) L[k].body=some (L[k].inn,L[k].out))=true:=by rw[hR];simp[<-p1,<-p2]
      rw[hdt]at hag
      clear hdt hR
      cases hnb:nameB L[k].name
      ·have HT:Hid (good L=false):=(show good L=false by rw[hgo,hag,hnb];simp)
       clear hag hfn hgo hgg
       go_wp2_with fail
       refine bC (C:=ah (aQ) _) 2 [0,1,2,3,4,5,6,7,8,9,10,11,12,13,14,15,16,17,18,19,20,21,22,23,24,25] (by kernel_rfl) (by kernel_rfl) (ah.grows _ _) (ah.refl _ _) ?_
       iterate 3 (apply ay rfl rfl rfl;(focus intro u hc' hf';go_simp<;>rfl);intro K hK;go_simp;apply hK;clear hK K)
       iterate 7 (apply dR rfl rfl (by first|rfl|(simp[Region.wanted,yielded,go_sem]));(focus intro u hc' hf';go_simp<;>rfl);intro K hK;go_simp;apply hK;clear hK K)
       iterate 2 (apply ay rfl rfl rfl;(focus intro u hc' hf';go_simp<;>rfl);intro K hK;go_simp;apply hK;clear hK K)
       iterate 2 (apply dR rfl rfl (by first|rfl|(simp[Region.wanted,yielded,go_sem]));(focus intro u hc' hf';go_simp<;>rfl);intro K hK;go_simp;apply hK;clear hK K)
       refine pR rfl rfl (ah.grows _ _) (ah.refl _ _) 89 (λK hK=>?_);refine⟨by first|rfl|(simp[Region.wanted,yielded,go_sem]),?_⟩;apply Exists.intro;refine⟨λw' hw'=>?_,λw' hw' hbw=>?_⟩;(focus go_simp;rfl);refine(Dx L[k].name _ xI).mono ?_;rintro e w8⟨rfl,hb8⟩;refine⟨_,rfl,hb8,λhx=>?_⟩;go_simp;apply hK;clear hK K
       iterate 1 (apply dR rfl rfl (by first|rfl|(simp[Region.wanted,yielded,go_sem]));(focus intro u hc' hf';go_simp<;>rfl);intro K hK;go_simp;apply hK;clear hK K)
       iterate 2 (apply ay rfl rfl rfl;(focus intro u hc' hf';go_simp<;>rfl);intro K hK;go_simp;apply hK;clear hK K)
       iterate 7 (refine oJ rfl λK hK=>⟨by first|rfl|(simp[Region.wanted,yielded,go_sem]),?_⟩;go_simp;apply hK;clear hK K)
       iterate 1 (apply ay rfl rfl rfl;(focus intro u hc' hf';go_simp<;>rfl);intro K hK;go_simp;apply hK;clear hK K)
       refine aK ?_
       go_wp2
       go_ret
       exact⟨dI HT.out.symm,hbel.trans ((hWd.trans (hx.toBelow.mono (by simp;omega))).mono (by omega))⟩
      ·rw[hnb]at hag
       rcases oO L[k].name (L.take k) 0 with⟨f1,f2⟩|⟨i,hi,f1,f2⟩
       ·rw[f2]at hag
        have Pz:Hid (dJ [] (L.take (k+1))=true):=(show _ by rw[hgg,hag];rfl)
        have PD:Hid (good L=dJ (L.take (k+1)) (L.drop (k+1))):=(show good L=_ by rw[hgo,hag];rfl)
        clear hag hfn hgo hgg f2 HF HG
        go_wp2_with fail
        refine bC (C:=ah (aQ) _) 2 [0,1,2,3,4,5,6,7,8,9,10,11,12,13,14,15,16,17,18,19,20,21,22,23,24,25] (by kernel_rfl) (by kernel_rfl) (ah.grows _ _) (ah.refl _ _) ?_
        iterate 3 (apply ay rfl rfl rfl;(focus intro u hc' hf';go_simp<;>rfl);intro K hK;go_simp;apply hK;clear hK K)
        iterate 7 (apply dR rfl rfl (by first|rfl|(simp[Region.wanted,yielded,go_sem]));(focus intro u hc' hf';go_simp<;>rfl);intro K hK;go_simp;apply hK;clear hK K)
        iterate 2 (apply ay rfl rfl rfl;(focus intro u hc' hf';go_simp<;>rfl);intro K hK;go_simp;apply hK;clear hK K)
        iterate 2 (apply dR rfl rfl (by first|rfl|(simp[Region.wanted,yielded,go_sem]));(focus intro u hc' hf';go_simp<;>rfl);intro K hK;go_simp;apply hK;clear hK K)
        refine pR rfl rfl (ah.grows _ _) (ah.refl _ _) 89 (λK hK=>?_);refine⟨by first|rfl|(simp[Region.wanted,yielded,go_sem]),?_⟩;apply Exists.intro;refine⟨λw' hw'=>?_,λw' hw' hbw=>?_⟩;(focus go_simp;rfl);refine(Dx L[k].name _ xI).mono ?_;rintro e w8⟨rfl,hb8⟩;refine⟨_,rfl,hb8,λhx=>?_⟩;go_simp;apply hK;clear hK K
        iterate 1 (apply dR rfl rfl (by first|rfl|(simp[Region.wanted,yielded,go_sem]));(focus intro u hc' hf';go_simp<;>rfl);intro K hK;go_simp;apply hK;clear hK K)
        iterate 2 (apply ay rfl rfl rfl;(focus intro u hc' hf';go_simp<;>rfl);intro K hK;go_simp;apply hK;clear hK K)
        iterate 5 (apply dR rfl rfl (by first|rfl|(simp[Region.wanted,yielded,go_sem]));(focus intro u hc' hf';go_simp<;>rfl);intro K hK;go_simp;apply hK;clear hK K)
        refine pR rfl rfl (ah.grows _ _) (hx) 90 (λK hK=>?_);refine⟨by first|rfl|(simp[Region.wanted,yielded,go_sem]),?_⟩;apply Exists.intro;refine⟨λw' hw'=>?_,λw' hw' hbw=>?_⟩;(focus go_simp;rfl);refine(vM _ (L.take k) _ _ (hvk.keep (hWd.trans (hw'.toBelow.mono (by simp;omega)))) htl).mono ?_;rintro e w9⟨rfl,bG⟩;refine⟨_,rfl,bG,λhx=>?_⟩;go_simp;apply hK;clear hK K
        iterate 1 (apply dR rfl rfl (by first|rfl|(simp[Region.wanted,yielded,go_sem]));(focus intro u hc' hf';go_simp<;>rfl);intro K hK;go_simp;apply hK;clear hK K)
        iterate 1 (apply ay rfl rfl rfl;(focus intro u hc' hf';go_simp<;>rfl);intro K hK;go_simp;apply hK;clear hK K)
        refine aK ?_
        go_wp2
        go_roundw
        case rel=>exact⟨k+1,by omega,by go_num,Pz,PD,hbel.trans ((hWd.trans (hx.toBelow.mono (by simp;omega))).mono (by omega))⟩
        case measure=>simp[intOf];omega
       ·rw[f2]at hag
        have HT:Hid (good L=false):=(show good L=false by rw[hgo,hag];simp)
        rw[Nat.zero_add]at f1
        clear hag hfn hgo hgg f2
        go_wp2_with fail
        refine bC (C:=ah (aQ) _) 2 [0,1,2,3,4,5,6,7,8,9,10,11,12,13,14,15,16,17,18,19,20,21,22,23,24,25] (by kernel_rfl) (by kernel_rfl) (ah.grows _ _) (ah.refl _ _) ?_
        iterate 3 (apply ay rfl rfl rfl;(focus intro u hc' hf';go_simp<;>rfl);intro K hK;go_simp;apply hK;clear hK K)
        iterate 7 (apply dR rfl rfl (by first|rfl|(simp[Region.wanted,yielded,go_sem]));(focus intro u hc' hf';go_simp<;>rfl);intro K hK;go_simp;apply hK;clear hK K)
        iterate 2 (apply ay rfl rfl rfl;(focus intro u hc' hf';go_simp<;>rfl);intro K hK;go_simp;apply hK;clear hK K)
        iterate 2 (apply dR rfl rfl (by first|rfl|(simp[Region.wanted,yielded,go_sem]));(focus intro u hc' hf';go_simp<;>rfl);intro K hK;go_simp;apply hK;clear hK K)
        refine pR rfl rfl (ah.grows _ _) (ah.refl _ _) 89 (λK hK=>?_);refine⟨by first|rfl|(simp[Region.wanted,yielded,go_sem]),?_⟩;apply Exists.intro;refine⟨λw' hw'=>?_,λw' hw' hbw=>?_⟩;(focus go_simp;rfl);refine(Dx L[k].name _ xI).mono ?_;rintro e w8⟨rfl,hb8⟩;refine⟨_,rfl,hb8,λhx=>?_⟩;go_simp;apply hK;clear hK K
        iterate 1 (apply dR rfl rfl (by first|rfl|(simp[Region.wanted,yielded,go_sem]));(focus intro u hc' hf';go_simp<;>rfl);intro K hK;go_simp;apply hK;clear hK K)
        iterate 2 (apply ay rfl rfl rfl;(focus intro u hc' hf';go_simp<;>rfl);intro K hK;go_simp;apply hK;clear hK K)
        iterate 5 (apply dR rfl rfl (by first|rfl|(simp[Region.wanted,yielded,go_sem]));(focus intro u hc' hf';go_simp<;>rfl);intro K hK;go_simp;apply hK;clear hK K)
        refine pR rfl rfl (ah.grows _ _) (hx) 90 (λK hK=>?_);refine⟨by first|rfl|(simp[Region.wanted,yielded,go_sem]),?_⟩;apply Exists.intro;refine⟨λw' hw'=>?_,λw' hw' hbw=>?_⟩;(focus go_simp;rfl);refine(vM _ (L.take k) _ _ (hvk.keep (hWd.trans (hw'.toBelow.mono (by simp;omega)))) htl).mono ?_;rintro e w9⟨rfl,bG⟩;refine⟨_,rfl,bG,λhx=>?_⟩;go_simp;apply hK;clear hK K
        iterate 1 (apply dR rfl rfl (by first|rfl|(simp[Region.wanted,yielded,go_sem]));(focus intro u hc' hf';go_simp<;>rfl);intro K hK;go_simp;apply hK;clear hK K)
        iterate 1 (apply ay rfl rfl rfl;(focus intro u hc' hf';go_simp<;>rfl);intro K hK;go_simp;apply hK;clear hK K)
        refine aK ?_
        go_wp2
        go_ret
        exact⟨dI HT.out.symm,hbel.trans ((hWd.trans (hx.toBelow.mono (by simp;omega))).mono (by omega))⟩
     ·have HT:Hid (good L=false):=(show good L=false by
       rw[hgo,hag,hR];have:¬(some x=some (L[k].inn,L[k].out)):=λe=>p1 (by have:=Option.some.inj e;rw[this];simp);simp[this])
      clear hag hfn hgo hgg hR
      have p3:¬x.1=L[k].inn\/(x.1=L[k].inn/\¬x.2=L[k].out):=by by_cases h:x.1=L[k].inn;exact .inr ⟨h,λh'=>p1 ⟨h,h'⟩⟩;exact .inl h
      clear p1
      rcases p3 with p1|⟨p1,p2⟩
      all_goals
       go_wp2_with fail
       refine bC (C:=ah (aQ) _) 2 [0,1,2,3,4,5,6,7,8,9,10,11,12,13,14,15,16,17,18,19,20,21,22,23,24,25] (by kernel_rfl) (by kernel_rfl) (ah.grows _ _) (ah.refl _ _) ?_
       iterate 3 (apply ay rfl rfl rfl;(focus intro u hc' hf';go_simp<;>rfl);intro K hK;go_simp;apply hK;clear hK K)
       iterate 7 (apply dR rfl rfl (by first|rfl|(simp[Region.wanted,yielded,go_sem]));(focus intro u hc' hf';go_simp<;>rfl);intro K hK;go_simp;apply hK;clear hK K)
       iterate 2 (apply ay rfl rfl rfl;(focus intro u hc' hf';go_simp<;>rfl);intro K hK;go_simp;apply hK;clear hK K)
       iterate 4 (refine oJ rfl λK hK=>⟨by first|rfl|(simp[Region.wanted,yielded,go_sem]),?_⟩;go_simp;apply hK;clear hK K)
       iterate 2 (apply ay rfl rfl rfl;(focus intro u hc' hf';go_simp<;>rfl);intro K hK;go_simp;apply hK;clear hK K)
       iterate 7 (refine oJ rfl λK hK=>⟨by first|rfl|(simp[Region.wanted,yielded,go_sem]),?_⟩;go_simp;apply hK;clear hK K)
       iterate 1 (apply ay rfl rfl rfl;(focus intro u hc' hf';go_simp<;>rfl);intro K hK;go_simp;apply hK;clear hK K)
       refine aK ?_
       go_wp2
       go_ret
       exact⟨dI HT.out.symm,hbel.trans (hWd.mono (by omega))⟩
   ·go_wp2
    go_ret
    exact⟨dI (by rw[HF.out,List.drop_eq_nil_of_le (by omega)];rfl),hbel⟩
 ·have HR:=Lib.hid (show good L=false by simp[good,hl]);go_enter Tryz.func46,Tryz.ntmps46;go_wp2;go_ret
  exact⟨dI HR.out.symm,Below.refl _ _⟩
theorem Gh {w:World} {v:Value} {ns:List Nd} (h:aZ w v ns) (hn:ns.length<=1048576) {ops:Array Oper} {rest:List Oper} {o:Oper} {a:Act} {Q:Exit->Act->World->Prop} (hgd:o.guard=none) (s x:Operand)
  (ho:o.op=.call { callee:=.builtin .append,args:=#[s,x],argTypes:=#[25,25] })
  (B:Nat) (u:Value) (xs:List Nd) (hs:a.eval s=u) (hx:a.eval x=v) (hown:au w B u xs) (hB:B<=w.heap.size) (hl:xs.length<=1048576)
  (H:∀v' w',au w' B v' (xs++ns)->w.grownBy w' u.ownBlock->(v'.ownBlock=u.ownBlock\/v'.ownBlock=some w.heap.size)->wpList Tryz.prog ops Q rest (a.put o.dst v') w'):wpList Tryz.prog ops Q (o::rest) a w:=by
 obtain⟨i0,hi,hz0,hz1,hz2⟩:=info_parts I8;refine oK hgd s x 25 ho B 87 i0 _ 3 32 Tryz.underlying25 hi hz0 hz1 hz2 rfl (by decide) u xs.length _ hs hown v ns.length _ hx (aa5 h) (aa6 ns) (by unfold maxLen;omega) (by omega) hB ?_;intro v' w' h1 h2 h3;refine H v' w' ?_ h2 h3;unfold au;rw[List.length_append,List.flatMap_append];exact h1
theorem PE (w:World) (g B:Nat) (hg:g=w.heap.size) (hB:B<=w.heap.size):au (w.alloc (.cells #[] 87)) B (.slice (some ⟨g,0,none⟩) 0 0) []:=by
 subst hg;have:=World.ownsRow_made (base:=B) (size:=3) (e:=87) w #[] 0 hB (by unfold maxLen;omega) rfl;simpa[au]using this
theorem ade (v:Value) (ns:List Nd) (w:World) (hv:aZ w v ns) (hn:ns.length<=1048576) :
  Calls Tryz.prog 208 #[v] w λe w'=>∃v',e=.returned v'/\au w' w.heap.size v' ns/\Below w.heap.size w w':=by
 obtain⟨a,cap,rfl⟩:=hv.slice;cases a with
 | none =>
  have h0:ns.length=0:=by
   obtain⟨a,c,h1,h2,h3⟩:=hv;rcases Nat.eq_zero_or_pos ns.length with h|h
   ·exact h
   ·obtain⟨b,o,e,_⟩:=h3 0 h;simp only[Value.slice.injEq]at h1;rw[<-h1.1]at e;cases e
  have hns:ns=[]:=List.eq_nil_of_length_eq_zero h0
  subst hns
  have hnil:=λ(w:World) (a:Option Addr) (n c:Nat)=>Lib.run_eql_slice_nil (P:=Tryz.prog) w 25 87 a n c 0 0 Tryz.underlying25
  go_enter Tryz.func208,Tryz.ntmps208
  go_wp2
  go_ret
  exact⟨_,rfl,⟨rfl,.inl ⟨rfl,rfl⟩⟩,Below.refl _ _⟩
 | some ad =>
  have hnil:=λ(w:World) (a:Option Addr) (n c:Nat)=>Lib.run_eql_slice_nil (P:=Tryz.prog) w 25 87 a n c 0 0 Tryz.underlying25
  go_enter Tryz.func208,Tryz.ntmps208
  go_wp2_with (at_builtin;refine Gh (hv.keep (aj _ _)) hn rfl (.tmp 5) (.tmp 6) rfl w.heap.size (.slice (some ⟨w.heap.size,0,none⟩) 0 0) [] rfl rfl (PE w _ _ rfl (Nat.le_refl _)) (by simp) (by simp) ?_;intro v' w' h1 h2 h3)
  go_ret
  refine⟨_,rfl,by simpa using h1,?_⟩
  exact(aj _ _).grown h2 (by simp) (λk hk=>by simp[Value.ownBlock]at hk;omega)
theorem Xf (v:Value) (ns:List Nd) (w:World) (hv:aZ w v ns) (hn:ns.length<=1048576) :
  Calls Tryz.prog 79 #[v] w λe w'=>∃v',e=.returned (.agg #[v'])/\au w' w.heap.size v' ns/\Below w.heap.size w w':=by
 obtain⟨a,cap,rfl⟩:=hv.slice;go_enter Tryz.func79,Tryz.ntmps79;go_wp2_with (at_builtin;refine Gh (hv.keep (((Below.refl _ _).alloc (Nat.le_refl _) _).alloc (by simp) _)) hn rfl (.tmp 3) (.tmp 4) rfl (w.heap.size+1) (.slice (some ⟨w.heap.size+1,0,none⟩) 0 0) [] rfl rfl (PE (w.alloc (.cells #[.slice none 0 0] 27)) _ _ (by simp) (by simp)) (by simp) (by simp) ?_;intro v' w' h1 h2 h3;obtain⟨ao,cp,rfl⟩:=h1.slice;have hb1:Below (w.heap.size+1) (w.alloc (.cells #[.slice none 0 0] 27)) w':=((Below.refl _ _).alloc (by simp) _).grown h2 (by simp) (λk hk=>by simp[Value.ownBlock]at hk;omega);have q0:=hb1.cell (p:=⟨w.heap.size,0,none⟩) (by simp);have q1:=hb1.frozen (p:=⟨w.heap.size,0,none⟩) (by simp);simp[go_sem]at q0 q1)
 refine bodyPost_ret (v:=.agg #[.slice ao ns.length cp]) (by simp[results,Tryz.results79,go_sem,q0]) rfl ⟨_,rfl,?_,?_⟩
 ·have h1':au w' (w.heap.size+1) (.slice ao ns.length cp) ns:=by simpa using h1
  exact(h1'.bY (by simp) _).mono (by omega)
 ·exact(((Below.refl _ _).alloc (Nat.le_refl _) _).trans (hb1.mono (by omega))).setCell (by simp) _
theorem adf (v:Value) (ns:List Nd) (w:World) (hv:aZ w v ns) (hn:ns.length<=1048576) :
  Calls Tryz.prog 196 #[.agg #[v]] w λe w'=>∃v',e=.returned (.agg #[v'])/\au w' w.heap.size v' ns/\Below w.heap.size w w':=by
 obtain⟨a,cap,rfl⟩:=hv.slice;go_enter Tryz.func196,Tryz.ntmps196;go_wp2_with (go_at_call 208;refine(ade _ ns _ (hv.keep (((Below.refl _ _).alloc (Nat.le_refl _) _).alloc (by simp) _)) hn).mono ?_;rintro e w2⟨v',rfl,hown,hb2⟩;obtain⟨a',cap',rfl⟩:=hown.slice;obtain⟨hc2,hf2,hs2⟩:=bH hb2;simp only[World.size_alloc]at hs2 hown hb2)
 refine bodyPost_ret (v:=.agg #[.slice a' ns.length cap']) (by simp[results,Tryz.results196,go_sem,hc2]) rfl ⟨_,rfl,?_,?_⟩
 ·exact(hown.bY (by simp) _).mono (by omega)
 ·exact((((Below.refl _ _).alloc (Nat.le_refl _) _).alloc (by simp) _).trans (hb2.mono (by omega))).setCell (by simp) _
theorem Xg (v:Value) (d:Df) (w:World) (hv:aZ w v d.body) (hn:d.body.length<=1048576) :
  Calls Tryz.prog 173 #[.agg #[.string d.name,.int .i64 d.inn,.int .i64 d.out,v]] w λe w' =>
   ∃v',e=.returned (.agg #[.string d.name,.int .i64 d.inn,.int .i64 d.out,v'])/\au w' w.heap.size v' d.body/\Below w.heap.size w w':=by
 obtain⟨a,cap,rfl⟩:=hv.slice;go_enter Tryz.func173,Tryz.ntmps173;go_wp2_with (go_at_call 196;refine(adf _ d.body _ (hv.keep (((Below.refl _ _).alloc (Nat.le_refl _) _).alloc (by simp) _)) hn).mono ?_;rintro e w2⟨v',rfl,hown,hb2⟩;obtain⟨a',cap',rfl⟩:=hown.slice;obtain⟨hc2,hf2,hs2⟩:=bH hb2;have d3:w2.cell? ⟨w.heap.size,3,none⟩=some (.slice a d.body.length cap):=(by rw[hc2 _ _ (by simp;omega)];go_simp);simp only[World.size_alloc]at hs2 hown hb2)
 refine bodyPost_ret (v:=.agg #[.string d.name,.int .i64 d.inn,.int .i64 d.out,.slice a' d.body.length cap']) (by simp[results,Tryz.results173,go_sem,hc2]) rfl ⟨_,rfl,?_,?_⟩
 ·refine au.mono (B:=w.heap.size+1+1) (by omega) ?_;repeat(with_reducible refine au.bY ?_ ?_ _;rotate_left;· (show _<_;simp only[];omega))
  exact hown
 ·repeat(with_reducible refine Below.setCell ?_ ?_ _;rotate_left;· (simp<;>omega))
  refine Below.trans ?_ (Below.mono hb2 ?_)
  ·repeat(first|exact Below.refl _ _|refine Below.alloc ?_ (by simp<;>omega) _)
  ·(try simp only[World.size_alloc]);omega
def zo (w wr:World) (B:Nat) (v:Value) (L:List Df) (k:Nat):Prop:=∃xs:List (Df×Value),xs.map Prod.fst=L.take k/\bP wr B v xs/\Below w.heap.size w wr/\w.heap.size<=B/\B<=wr.heap.size
theorem zo.step {w wr w2 w':World} {B k:Nat} {v v' vb:Value} {L:List Df} {xs:List (Df×Value)} {o:Obj} (e:xs.map Prod.fst=L.take k) (hbel:Below w.heap.size w wr) (hwB:w.heap.size<=B) (hB:B<=wr.heap.size) (hk:k<L.length)
  (hb2:Below wr.heap.size wr w2) (hr:bP w' B v' (xs++[(L[k],vb)])) (hv:∀j,v.ownBlock=some j->w.heap.size<=j) (hg:(w2.alloc o).grownBy w' v.ownBlock):zo w w' B v' L (k+1):=by
 have h2:=hb2.size;have h3:=hg.size;have h1:=hbel.size;simp only[World.size_alloc]at h3;refine⟨_,?_,hr,?_,hwB,by omega⟩
 ·rw[List.map_append,e,List.take_succ_eq_append_getElem hk];rfl
 ·exact((hbel.trans (hb2.mono h1)).alloc (by omega) o).grown hg (by simp;omega) hv
theorem JX (v:Value) (L:List Df) (w:World) (hv:aG w v L) (hn:L.length<=1048576) (hs:∀d∈L,d.body.length<=1048576) :
  Calls Tryz.prog 172 #[v] w λe w'=>∃v',e=.returned v'/\cu w' w.heap.size v' L/\Below w.heap.size w w':=by
 obtain⟨a,cap,rfl,hc,hat⟩:=hv;go_enter Tryz.func172,Tryz.ntmps172;go_wp2;go_loopw [3,9] (λv i wr=>∃k:Nat,k<=L.length/\i=.int .i64 k/\zo w wr w.heap.size v L k) (λ_ i _=>L.length-(intOf i).toNat)
 case atStart =>
  refine⟨0,by omega,rfl,[],by simp,⟨?_,by simp,List.Pairwise.nil⟩,aj _ _,Nat.le_refl _,by simp⟩
  have:=World.ownsRow_made (base:=w.heap.size) (size:=4) (e:=101) w #[] 0 (Nat.le_refl _) (by unfold maxLen;omega) rfl
  simpa using this
 case round =>
  obtain⟨k,hk,rfl,xs,hxs,hrow,hbel,hwB,hB⟩:=hrel
  have HX:=Lib.hid hxs
  have hxl:xs.length=k:=by have:=congrArg List.length hxs;simp at this;omega
  obtain⟨ao,cp,rfl⟩:=hrow.shape k hxl
  clear hxs
  by_cases hlt:k<L.length
  ·obtain⟨b,o,rfl,_,hnd⟩:=hat k hlt
   obtain⟨c0,c1,c2,vb,c3,hvb⟩:=hnd.keep hbel
   obtain⟨va,vc,rfl⟩:=hvb.slice
   have hbl:=hs L[k] (List.getElem_mem _)
   have PG:xs.length<=1048576:=by omega
   have hlow:=λj hj=>(World.ownsRow.lt hrow.1 j hj).1
   have HL:=Lib.hid hxl
   clear hat hnd hs hxl
   go_wp2_with (first|(go_at_call 173;refine(Xg _ L[k] _ (hvb.keep (aj _ _)) hbl).mono ?_;rintro e w2⟨vb',rfl,hown,hb2⟩;obtain⟨a',cap',rfl⟩:=hown.slice;have hb2':Below wr.heap.size wr w2:=(aj _ _).trans (hb2.mono (by simp));have hap:=NU hrow hown (by simp);have hrow2:=hrow.keep hb2';simp only[World.size_alloc]at hown)|(at_builtin;go_must (refine aby (w:=w2) (vb:=Value.slice a' L[k].body.length cap') (d:=L[k]) rfl (.tmp 13) (.tmp 16) rfl w.heap.size (Value.slice ao k cp) xs w2.heap.size rfl rfl rfl hrow2 (hown.mono ?e2) hap ?e3 PG ?e4;(case e2=>omega);(case e3=>(have:=hb2'.size;omega));intro v' w' h1 h2 h3;have hst:=zo.step HX.out hbel hwB hB hlt hb2' h1 hlow h2;obtain⟨ao',cp',rfl⟩:=h1.shape (k+1) (by simp[HL.out]);clear h1 h2 h3)))
   go_roundw
   case rel=>exact⟨k+1,by omega,by go_num,hst⟩
   case measure=>simp[intOf];omega
  ·go_wp2
   go_ret
   have hkk:k=L.length:=by omega
   subst hkk
   refine⟨_,rfl,⟨xs,?_,hrow⟩,hbel⟩
   rw[HX.out,List.take_length]
def lV (o:Option (List Df)) (w:World) (e:Ending) (w':World):Prop :=
 ∃v',e=.returned (.tuple #[v',.bool o.isSome])/\cu w' w.heap.size v' (o.getD [])/\Below w.heap.size w w'
theorem gY (w:World) (B:Nat):cu w B (.slice none 0 0) []:=⟨[],rfl,⟨by simp,.inl ⟨rfl,rfl⟩⟩,by simp,List.Pairwise.nil⟩
theorem Xh (v:Value) (L:List Df) (w:World) (hv:aG w v L) (hn:L.length<=1048576) (hs:∀d∈L,dN d) :
  Calls Tryz.prog 171 #[v] w λe w'=>e=.returned (.tuple #[(if good L then v else .slice none 0 0),.bool (good L)])/\Below w.heap.size w w':=by
 obtain⟨a,cap,rfl⟩:∃a cap,v=.slice a L.length cap:=by obtain⟨a,cap,rfl,_⟩:=hv;exact⟨a,cap,rfl⟩
 cases hg:good L;all_goals
  have HG:=Lib.hid hg
  clear hg
  go_enter Tryz.func171,Tryz.ntmps171
  go_wp2_with (go_at_call 46;refine(fJ _ L _ hv hn hs).mono ?_;rintro e w2⟨rfl,hb2⟩;rw[HG.out])
  go_ret2
  exact⟨rfl,hb2⟩
theorem PI (v:Value) (L:List Df) (w:World) (hv:aG w v L) (hn:L.length<=1048576) (hs:∀d∈L,dN d) (hg:good L=true) :
  Calls Tryz.prog 171 #[v] w λe w'=>e=.returned (.tuple #[v,.bool true])/\Below w.heap.size w w' :=
 (Xh v L w hv hn hs).mono λe w' h=>by rw[if_pos hg,hg]at h;exact h
theorem PK (v:Value) (L:List Df) (w:World) (hv:aG w v L) (hn:L.length<=1048576) (hs:∀d∈L,dN d) (hg:good L=false) :
  Calls Tryz.prog 171 #[v] w λe w'=>e=.returned (.tuple #[.slice none 0 0,.bool false])/\Below w.heap.size w w' :=
 (Xh v L w hv hn hs).mono λe w' h=>by rw[if_neg (by rw[hg];simp),hg]at h;exact h
theorem Og {L:List Df} (h:good L=true):(∀d∈L,dN d)/\L.length<=1048576:=by
 have hb:=yE h;have hl:=tK h;refine⟨λd hd=>?_,by omega⟩;obtain⟨h1,h2,h3⟩:=hb d hd;exact⟨by omega,λn hn=>by have:=h3 n hn;omega,by omega⟩
theorem adg (v vb:Value) (L:List Df) (d:Df) (w:World) (hv:aG w v L) (hn:L.length<=1048576) (hs:∀x∈L,dN x) (hvb:aZ w vb d.body) (hd:dN d) :
  Calls Tryz.prog 111 #[v,.agg #[.string d.name,.int .i64 d.inn,.int .i64 d.out,vb]] w (lV (jG L d) w):=by
 obtain⟨a,cap,rfl⟩:∃a cap,v=.slice a L.length cap:=by obtain⟨a,cap,rfl,_⟩:=hv;exact⟨a,cap,rfl⟩
 obtain⟨ab,DX,rfl⟩:=hvb.slice;cases hg:good L
 ·have HA:Hid (jG L d=none):=(show jG L d=none by simp[jG,hg])
  have HG:=Lib.hid hg;clear hg;go_enter Tryz.func111,Tryz.ntmps111;go_wp2_with (go_at_call 46;refine(fJ _ L _ (hv.keep (aj _ _)) hn hs).mono ?_;rintro e w2⟨rfl,hb2⟩;rw[HG.out])
  go_ret2
  exact⟨_,by rw[HA.out];rfl,by rw[HA.out];exact gY _ _,(aj _ _).trans (hb2.mono (by simp))⟩
 ·have hA:jG L d=cZ (L++[d]):=by simp[jG,hg]
  have HA:=Lib.hid hA;have HG:=Lib.hid hg;clear hg hA;go_enter Tryz.func111,Tryz.ntmps111;go_wp2_with (go_at_call 46;refine(fJ _ L _ (hv.keep (aj _ _)) hn hs).mono ?_;rintro e w2⟨rfl,hb2⟩;rw[HG.out];obtain⟨hc2,hf2,hs2⟩:=bH hb2)
  have hbw:Below w.heap.size w w2:=(aj _ _).trans (hb2.mono (by simp));have hz2:w.heap.size<w2.heap.size:=by have:=hb2.size;simp at this;omega
  have hvw:=hv.keep hbw;have PL:=hvb.keep hbw;obtain⟨i0,hi,hz0,hz1,hzb⟩:=info_parts Du;have d0:w2.cell? ⟨w.heap.size,0,none⟩=some (.string d.name):=by rw[hc2 _ _ (by simp)];simp
  have d1:w2.cell? ⟨w.heap.size,1,none⟩=some (.int .i64 d.inn):=by rw[hc2 _ _ (by simp)];simp
  have d2:w2.cell? ⟨w.heap.size,2,none⟩=some (.int .i64 d.out):=by rw[hc2 _ _ (by simp)];simp
  have d3:w2.cell? ⟨w.heap.size,3,none⟩=some (.slice ab d.body.length DX):=by rw[hc2 _ _ (by simp)];simp
  clear hc2 hf2 hs2 hb2;have up:∀{w':World},ah aQ w2.drew w'->Below w2.heap.size w2 w':=λh=>(Below.refl w2.heap.size w2).drew.trans (h.toBelow.mono (by simp));have DY:∀x∈L++[d],dN x:=by
   intro x hx;rcases List.mem_append.1 hx with hx|hx
   ·exact hs x hx
   ·simp at hx;subst hx;exact hd
  have hlen:(L++[d]).length<=1048576:=by have:=tK HG.out;simp;omega
  refine bC (C:=ah (aQ) _) 2 [0,1,2,3,4,5,6,7,8,9,10] (by kernel_rfl) (by kernel_rfl) (ah.grows _ _) (ah.refl _ _) ?_;iterate 1 (apply ay rfl rfl rfl;(focus intro u hc' hf';go_simp<;>rfl);intro K hK;go_simp;apply hK;clear hK K)
  refine aa4 rfl rfl rfl (ah.grows _ _) (ah.refl _ _) 172 (λK hK=>?_);apply Exists.intro;refine⟨λw' hw'=>?_,λwa dU dS=>?_⟩;(focus go_simp;rfl);refine(JX _ L _ (hvw.keep (up dU)) hn (λx hx=>(hs x hx).2.2)).mono ?_;rintro e w3⟨v3,rfl,⟨xs,hxs,hrow⟩,hb3⟩;refine⟨_,rfl,hb3,λhx=>?_⟩;go_simp;apply hK;clear hK K;have hrow':bP w3 wa.heap.size v3 xs:=hrow;iterate 1 (apply ay rfl rfl rfl;(focus intro u hc' hf';go_simp<;>rfl);intro K hK;go_simp;apply hK;clear hK K)
  have bK:=(up dU).trans (hb3.mono (up dU).size);have hza:=(up dU).size;have hz3:=hb3.size;refine aX rfl rfl rfl (ah.grows _ _) (hx) 173 (λK hK=>?_);apply Exists.intro;refine⟨λw' hw'=>?_,λwb hwb fB=>?_⟩;(focus go_simp;rfl);refine(Xg _ d _ (PL.keep (bK.trans (fB.mono bK.size))) hd.2.2).mono ?_;rintro e w5⟨vb5,rfl,Xi,hb5⟩;refine⟨_,rfl,hb5,λhx=>?_⟩;go_simp;apply hK;clear hK K;have vX:=fB.trans (hb5.mono fB.size);have DZ:=hrow'.keep vX;have mZ:=NU hrow' Xi fB.size;have vW:=vX.size;have aht:=fB.size;refine fG rfl rfl rfl (ah.grows _ _) (hx) (λb=>.slice (some ⟨b,0,none⟩) 1 1) (λK hK=>?_);apply Exists.intro;refine⟨λw' hw'=>?_,λb w6 hw6 hb6 aI hNb hnb=>?_⟩
  ·obtain⟨hc',hf'⟩:=hw'.cell;try simp only[World.size_drew]at hc' hf'
   go_simp;rfl
  go_simp;refine hK _ _ _ ?_;clear hK K;have uy:=hb6.size;refine UU rfl rfl rfl hw6 (.tmp 10) (.tmp 13) rfl w.heap.size v3 xs d vb5 b rfl rfl (λk hk=>.inr ⟨by have:=(World.ownsRow.lt hrow'.1 k hk).1;simp;omega,.inr (.inr ⟨(World.ownsRow.lt hrow'.1 k hk).1,(World.ownsRow.lt hrow'.1 k hk).2⟩)⟩) (by omega) ?_ ((DZ.keep hb6).mono (by omega)) ((Xi.keep hb6).mono (by omega)) mZ aI ?_
  ·have:=congrArg List.length hxs;simp at this;omega
  intro K hK w7 w8 v8 hw7 hb7 Bg D5 hw8 Gi;have zq:aG w8 v8 (L++[d]):=by have:=Bg.at;simpa[hxs]using this
  go_simp;refine hK _ _ _ ?_;clear hK K;obtain⟨ao,cp,rfl⟩:=Bg.shape (L.length+1) (by have:=congrArg List.length hxs;simp at this;simp[this]);cases hg2:good (L++[d])
  ·have HO:Hid (cZ (L++[d])=none):=(show cZ _=none by unfold cZ;rw[hg2];rfl)
   have HG2:=Lib.hid hg2;clear hg2;refine aX rfl rfl rfl (ah.grows _ _) (hw8) 171 (λK hK=>?_);apply Exists.intro;refine⟨λw' hw'=>?_,λwc hwc kG=>?_⟩;(focus go_simp;rfl);refine(PK _ (L++[d]) _ (zq.keep kG) hlen DY HG2.out).mono ?_;rintro e w9⟨rfl,bG⟩;refine⟨_,rfl,bG,λhx=>?_⟩;go_simp;apply hK;clear hK K;iterate 4 (apply ay rfl rfl rfl;(focus intro u hc' hf';go_simp<;>rfl);intro K hK;go_simp;apply hK;clear hK K)
   refine aK ?_;go_wp2;go_ret2
   refine⟨_,by rw[HA.out,HO.out];rfl,by rw[HA.out,HO.out];exact gY _ _,hbw.trans ((up hx).mono (by omega))⟩
  ·have HO:Hid (cZ (L++[d])=some (L++[d])):=(show cZ _=some _ by unfold cZ;rw[hg2];rfl)
   have HG2:=Lib.hid hg2;clear hg2;refine aX rfl rfl rfl (ah.grows _ _) (hw8) 171 (λK hK=>?_);apply Exists.intro;refine⟨λw' hw'=>?_,λwc hwc kG=>?_⟩;(focus go_simp;rfl);refine(PI _ (L++[d]) _ (zq.keep kG) hlen DY HG2.out).mono ?_;rintro e w9⟨rfl,bG⟩;refine⟨_,rfl,bG,λhx=>?_⟩;go_simp;apply hK;clear hK K;iterate 4 (apply ay rfl rfl rfl;(focus intro u hc' hf';go_simp<;>rfl);intro K hK;go_simp;apply hK;clear hK K)
   refine aK ?_;go_wp2;go_ret2
   have adh:=Bg.keep (kG.trans (bG.mono kG.size));refine⟨_,by rw[HA.out,HO.out];rfl,?_,hbw.trans ((up hx).mono (by omega))⟩;rw[HA.out,HO.out];have:=adh.own;simpa[hxs]using this
theorem adi (w:World):(zeroValue 101).run Tryz.prog w=.ok (.agg #[.string ⟨#[]⟩,.int .i64 0,.int .i64 0,.slice none 0 0]) w:=by kernel_rfl
theorem Xj (w:World) (ty:TypeId) (B g m cap c:Nat) (xs:List Value) (hown:w.ownsRow B 101 4 (.slice (some ⟨g,0,none⟩) m cap) m xs) (hm:m+1<=cap) :
  ∃w',(Builtin.clear_ #[24] ty #[.slice (some ⟨g,m*4,none⟩) 1 c]).run Tryz.prog w=.ok (.tuple #[]) w'/\w'.ownsRow B 101 4 (.slice (some ⟨g,0,none⟩) m cap) m xs/\w.grownBy w' (some g):=by
 obtain⟨hl,h2⟩:=hown;rcases h2 with⟨h,_⟩|⟨g',cap',cur,h,hb,hg,hc,hm',hs,ht⟩
 ·simp at h
 simp only[Value.slice.injEq,Option.some.injEq,Addr.mk.injEq,and_true,true_and]at h;obtain⟨rfl,rfl⟩:=h;have hst:=run_storeCells_at Tryz.prog g (m*4) 101 [.string ⟨#[]⟩,.int .i64 0,.int .i64 0,.slice none 0 0] 0 cur w hg (by simp;omega) (by intro v hv;simp at hv;rcases hv with rfl|rfl|rfl|rfl<;>rfl);obtain⟨RR,hRR⟩:∃RR,RR=(List.take (m*4+0) cur.toList++[Value.string ⟨#[]⟩,.int .i64 0,.int .i64 0,.slice none 0 0]++List.drop (m*4+0+[Value.string ⟨#[]⟩,.int .i64 0,.int .i64 0,.slice none 0 0].length) cur.toList).toArray:=⟨_,rfl⟩
 rw[<-hRR]at hst;have hzc:(Builtin.zeroCells #[.string ⟨#[]⟩,.int .i64 0,.int .i64 0,.slice none 0 0] 1).toList=[.string ⟨#[]⟩,.int .i64 0,.int .i64 0,.slice none 0 0]:=by
  simp[Builtin.zeroCells,List.range,List.range.loop]
 refine⟨w.setRow g RR,?_,⟨hl,.inr ⟨g,cap,RR,rfl,hb,setRow_heap w g cur _ 101 _ hg,hc,hm',?_,?_⟩⟩,⟨rfl,rfl,rfl,by simp,λk _ hk=>setRow_other w g k _ (λe=>hk (by rw[e]))⟩⟩
 ·simp[Builtin.clear_,run_underlying Tryz.underlying24,adi,Value.cells,hzc,hst]
 ·rw[hRR];simp;omega
 ·rw[hRR];have hlen:(cur.toList.take (m*4)).length=m*4:=by simp;omega
  simp only[Nat.add_zero,List.append_assoc];rw[List.take_left' hlen,ht]
theorem JY {α:Type} (xs:List α) (i:Nat):xs.eraseIdx i=xs.take i++xs.drop (i+1):=List.eraseIdx_eq_take_drop_succ xs i
theorem Xk {α:Type} {f:α->List Value} {sz:Nat} (hf:∀x,(f x).length=sz) (xs:List α) (i:Nat) (hi:i<=xs.length):(xs.flatMap f).take (i*sz)=(xs.take i).flatMap f:=by
 have h1:((xs.take i).flatMap f).length=i*sz:=by rw[flat_length hf,List.length_take];congr 1;omega
 conv=>lhs;rw[<-List.take_append_drop i xs]
 rw[List.flatMap_append,List.take_left' h1]
theorem adk {w:World} {B g n cap:Nat} {ys:List (Df×Value)} (h:bP w B (.slice (some ⟨g,0,none⟩) n cap) ys):∀x∈ys,x.2.ownBlock≠some g:=λx hx e=>oG (h.2.1 x hx) h.1 (by decide) g e rfl
theorem Xl {w w1 w2 w3:World} {B g n cap i m:Nat} {xs:List (Df×Value)} (hm:xs.length=i+1+m) (hn:n=i+1+m) (hv:bP w B (.slice (some ⟨g,0,none⟩) n cap) xs) (hb1:Below w.heap.size w w1) (hg2:w1.grownBy w2 (some g)) (hg3:w2.grownBy w3 (some g))
  (hown3:w3.ownsRow B 101 4 (.slice (some ⟨g,0,none⟩) (i+m) cap) (i+m) ((xs.take i).flatMap bM++(xs.drop (i+1)).flatMap bM)) :
  bP w3 B (.slice (some ⟨g,0,none⟩) (i+m) cap) (xs.eraseIdx i)/\ah (λk=>some g=some k) w w3:=by
 subst hn;have hl:(xs.eraseIdx i).length=i+m:=by rw[JY];simp;omega
 have hv1:=hv.keep hb1;have hne:=adk hv1;refine⟨⟨?_,?_,?_⟩,?_⟩
 ·rw[hl,JY,List.flatMap_append];exact hown3
 ·intro x hx;have hx':x∈xs:=List.mem_of_mem_eraseIdx hx;have hne':=hne x hx';exact Dv (Dv (hv1.2.1 x hx') hg2 (λk hk e=>hne' (by cases e;exact hk))) hg3 (λk hk e=>hne' (by cases e;exact hk))
 ·exact List.Pairwise.sublist (List.eraseIdx_sublist xs i) hv.2.2
 ·have e1:ah (λk=>some g=some k) w w1:=Below.exc hb1;exact(e1.grown hg2 (λk hk=>.inr hk)).grown hg3 (λk hk=>.inr hk)
theorem Xm (v:Value) (xs:List (Df×Value)) (i:Nat) (B:Nat) (w:World) (hv:bP w B v xs) (hi:i<xs.length) (hn:xs.length<=1048576) :
  Calls Tryz.prog 175 #[v,.int .i64 i,.int .i64 (i+1:Int)] w λe w'=>∃v',e=.returned v'/\bP w' B v' (xs.eraseIdx i)/\ah (λk=>v.ownBlock=some k) w w':=by
 obtain⟨g,cap,rfl,hgc,hgm,hgB,hgs⟩:=Ad hv.1 (by omega);unfold maxLen at hgm;obtain⟨m,hm⟩:∃m,xs.length=i+1+m:=⟨xs.length-(i+1),by omega⟩
 have hown:=hv.1;rw[hm]at hown hgc hn ⊢;obtain⟨i0,hi0,hz0,hz1,hzb⟩:=info_parts Du;have JZ:¬((i:Int)+1<i):=by omega
 have J4:(i:Int)+1<=(i:Int)+1+m:=by omega
 have gi3:((i:Int)==i+1)=false:=by simp;omega
 have hv':=hv;rw[hm]at hv';have HM:=Lib.hid hm;clear hm;go_enter Tryz.func175,Tryz.ntmps175;go_wp2_with fail
 have gi4:(i:Int)<=cap:=by omega
 have gi5:(i:Int)+1<=cap:=by omega
 have gi6:((i:Int)+1).toNat=i+1:=by omega
 have gi8:i+1+m-(i+1)=m:=by omega
 have gi9:i+1+m-(i+m)=1:=by omega
 have gia:(i:Int)+m<=(i:Int)+1+m:=by omega
 have gib:(i:Int)+1+m<=cap:=by omega
 have gic:((i:Int)+1+m).toNat=i+1+m:=by omega
 have gid:((i:Int)+m).toNat=i+m:=by omega
 by_cases hcap:i+1=cap
 ·obtain rfl:m=0:=by omega
  subst hcap;refine bC (C:=ah ((λj=>j=g)) _) 2 [0,1,2,3,4,5,6,7] (by kernel_rfl) (by kernel_rfl) (ah.grows _ _) (ah.refl _ _) ?_;iterate 6 (apply fF rfl rfl rfl;(focus intro u hc' hf';(try simp only[World.size_drew]at hc' hf');go_simp<;>rfl);intro K hK;go_simp;apply hK;clear hK K)
  refine zZ rfl rfl rfl (ah.refl _ _) (.tmp 22) (.tmp 25) 24 rfl B 101 i0 4 Tryz.underlying24 hi0 hz1 g i (i+1) ((xs.take i).flatMap bM) rfl (by simpa using hgs) rfl ⟨g,0,none⟩ 0 0 [] rfl rfl (by simp) (by omega) ?_ ?_
  ·intro w1 hw1 hb1;have hb1':Below w.heap.size w w1:=(Below.refl w.heap.size w).drew.trans (hb1.mono (Nat.le_refl _));have ho1:=bW hb1' hown;refine⟨?_,λj u hj=>by simp at hj⟩;have:=uh ho1 i (by omega);rwa [Xk mF xs i (by omega)]at this
  ·intro K hK w1 w2 hw1 hb1 hown2 hg2 hw2;go_simp;refine hK _ _ _ ?_;clear hK K;iterate 1 (apply fF rfl rfl rfl;(focus intro u hc' hf';(try simp only[World.size_drew]at hc' hf');go_simp<;>rfl);intro K hK;go_simp;apply hK;clear hK K)
   refine aK ?_;have hd:(xs.drop (i+1)).flatMap bM=[]:=by rw[List.drop_eq_nil_of_le (by rw[HM.out];omega)];rfl
   rw[<-hd]at hown2;obtain⟨w3,hcl,hown3,hg3⟩:=Xj w2 0 B g i (i+1) 1 _ hown2 (by omega);obtain⟨s1,s2⟩:=Xl HM.out rfl hv' ((Below.refl w.heap.size w).drew.trans (hb1.mono (Nat.le_refl _))) hg2 hg3 hown3;clear hg2 hg3 hown2 hown3 hb1 hw1 hw2 hd;go_wp2;go_ret
   exact⟨_,rfl,s1,s2⟩
 ·have gi7:¬cap=i+1:=by omega
  refine bC (C:=ah ((λj=>j=g)) _) 2 [0,1,2,3,4,5,6,7] (by kernel_rfl) (by kernel_rfl) (ah.grows _ _) (ah.refl _ _) ?_;iterate 6 (apply fF rfl rfl rfl;(focus intro u hc' hf';(try simp only[World.size_drew]at hc' hf');go_simp<;>rfl);intro K hK;go_simp;apply hK;clear hK K)
  refine zZ rfl rfl rfl (ah.refl _ _) (.tmp 22) (.tmp 25) 24 rfl B 101 i0 4 Tryz.underlying24 hi0 hz1 g i cap ((xs.take i).flatMap bM) rfl (by simpa using hgs) rfl ⟨g,(i+1)*4,none⟩ m (cap-(i+1)) ((xs.drop (i+1)).flatMap bM) rfl ?_ ?_ (by omega) ?_ ?_
  ·rw[flat_length mF,List.length_drop,HM.out];omega
  ·intro u hu;exact NS hv.2.1 u (by rw[<-List.take_append_drop (i+1) xs,List.flatMap_append];exact List.mem_append_right _ hu)
  ·intro w1 hw1 hb1;have hb1':Below w.heap.size w w1:=(Below.refl w.heap.size w).drew.trans (hb1.mono (by simp));have ho1:=bW hb1' hown;refine⟨?_,λj u hj=>?_⟩
   ·have:=uh ho1 i (by omega);rwa [Xk mF xs i (by omega)]at this
   ·have hcell:=ho1.cellAt ((i+1)*4+j) (by
     have hlt:j<((xs.drop (i+1)).flatMap bM).length:=by
      rcases Nat.lt_or_ge j ((xs.drop (i+1)).flatMap bM).length with h|h
      ·exact h
      ·rw[List.getElem?_eq_none h]at hj;cases hj
     rw[flat_length mF,List.length_drop,HM.out]at hlt;omega)
    have hadd:(⟨g,(i+1)*4,none⟩:Addr).add j=⟨g,(i+1)*4+j,none⟩:=by unfold Addr.add;split<;>simp_all
    rw[hadd,hcell];conv=>lhs;rw[<-List.take_append_drop (i+1) xs,List.flatMap_append]
    have hl:((xs.take (i+1)).flatMap bM).length=(i+1)*4:=by rw[flat_length mF,List.length_take,HM.out];omega
    rw[List.getElem?_append_right (by omega),hl,Nat.add_sub_cancel_left];exact hj
  ·intro K hK w1 w2 hw1 hb1 hown2 hg2 hw2;go_simp;refine hK _ _ _ ?_;clear hK K;iterate 1 (apply fF rfl rfl rfl;(focus intro u hc' hf';(try simp only[World.size_drew]at hc' hf');go_simp<;>rfl);intro K hK;go_simp;apply hK;clear hK K)
   refine aK ?_;obtain⟨w3,hcl,hown3,hg3⟩:=Xj w2 0 B g (i+m) cap (cap-(i+m)) _ hown2 (by omega);obtain⟨s1,s2⟩:=Xl HM.out rfl hv' ((Below.refl w.heap.size w).drew.trans (hb1.mono (Nat.le_refl _))) hg2 hg3 hown3;clear hg2 hg3 hown2 hown3 hb1 hw1 hw2;go_wp2;go_ret
   exact⟨_,rfl,s1,s2⟩
theorem Xn {T:Nat->Prop} {w0 w1:World} {B:Nat} (h:ah T w0 w1) (hB:B<=w0.heap.size) (hT:∀k,T k->B<=k):Below B w0 w1 :=
 ⟨h.os,h.tape,h.output,h.size,λk hk=>h.block k (by omega) (λht=>by have:=hT k ht;omega)⟩
theorem Gj {α β:Type} (f:α->β) (xs:List α) (i:Nat):(xs.eraseIdx i).map f=(xs.map f).eraseIdx i:=by
 rw[List.eraseIdx_eq_take_drop_succ,List.eraseIdx_eq_take_drop_succ,List.map_append,List.map_take,List.map_drop]
theorem adl (v:Value) (L:List Df) (s:ByteArray) (w:World) (hv:aG w v L) (hn:L.length<=1048576) (hs:∀x∈L,dN x) :
  Calls Tryz.prog 119 #[v,.string s] w (lV (iO L s) w):=by
 obtain⟨a,cap,rfl⟩:∃a cap,v=.slice a L.length cap:=by obtain⟨a,cap,rfl,_⟩:=hv;exact⟨a,cap,rfl⟩
 have mM:=oO s L 0;cases hg:good L
 ·have HA:Hid (iO L s=none):=(show iO L s=none by simp[iO,hg])
  have HG:=Lib.hid hg;clear hg mM;go_enter Tryz.func119,Tryz.ntmps119;go_wp2_with (first|(go_at_call 90;refine(vM _ L _ _ hv hn).mono ?_;rintro e w2⟨rfl,hb2⟩)|(go_at_call 46;refine(fJ _ L _ (hv.keep hb2) hn hs).mono ?_;rintro e w3⟨rfl,hb3⟩;rw[HG.out]))
  go_ret2
  exact⟨_,by rw[HA.out];rfl,by rw[HA.out];exact gY _ _,hb2.trans (hb3.mono hb2.size)⟩
 ·rcases mM with⟨f1,f2⟩|⟨i,hi,f1,f2⟩
  ·have HA:Hid (iO L s=none):=(show iO L s=none by simp[iO,f1])
   have HG:=Lib.hid hg;have HF:=Lib.hid f1;clear hg f1 f2;go_enter Tryz.func119,Tryz.ntmps119;go_wp2_with (first|(go_at_call 90;refine(vM _ L _ _ hv hn).mono ?_;rintro e w2⟨rfl,hb2⟩;rw[HF.out])|(go_at_call 46;refine(fJ _ L _ (hv.keep hb2) hn hs).mono ?_;rintro e w3⟨rfl,hb3⟩;rw[HG.out]))
   go_ret2
   exact⟨_,by rw[HA.out];rfl,by rw[HA.out];exact gY _ _,hb2.trans (hb3.mono hb2.size)⟩
  ·rw[Nat.zero_add]at f1;have HA:Hid (iO L s=cZ (L.eraseIdx i)):=(show iO L s=_ by simp[iO,f1,hg])
   have zu:∀x∈L.eraseIdx i,dN x:=λx hx=>hs x (List.mem_of_mem_eraseIdx hx);have hlen:(L.eraseIdx i).length<=1048576:=by have:=List.length_eraseIdx_le L i;omega
   have HG:=Lib.hid hg;have HF:=Lib.hid f1;have gi:¬((i:Int)<0):=by omega
   have hiB:(i:Int)<=1048576:=by omega
   clear hg f1 f2;cases hg2:good (L.eraseIdx i)
   ·have HO:Hid (cZ (L.eraseIdx i)=none):=(show cZ _=none by unfold cZ;rw[hg2];rfl)
    have HG2:=Lib.hid hg2;clear hg2;go_enter Tryz.func119,Tryz.ntmps119;go_wp2_with (first|(go_at_call 90;refine(vM _ L _ _ hv hn).mono ?_;rintro e w2⟨rfl,hb2⟩;rw[HF.out])|(go_at_call 46;refine(fJ _ L _ (hv.keep hb2) hn hs).mono ?_;rintro e w3⟨rfl,hb3⟩;rw[HG.out];have bK:=hb2.trans (hb3.mono hb2.size))|(go_at_call 172;refine(JX _ L _ (hv.keep bK) hn (λx hx=>(hs x hx).2.2)).mono ?_;rintro e w4⟨v4,rfl,⟨xs,hxs,hrow⟩,hb4⟩)|(go_at_call 175;refine(Xm _ xs i w3.heap.size _ hrow (by have:=congrArg List.length hxs;simp at this;omega) (by have:=congrArg List.length hxs;simp at this;omega)).mono ?_;rintro e w5⟨v5,rfl,DZ,Gl⟩)|(go_at_call 171;refine(PK _ (L.eraseIdx i) _ (by have:=bP.at DZ;rw[Gj,hxs]at this;exact this) hlen zu HG2.out).mono ?_;rintro e w6⟨rfl,hb6⟩))
    go_ret2
    have gK:=bK.trans (hb4.mono bK.size);have D6:Below w.heap.size w4 w5:=Xn Gl gK.size (λk hk=>by have:=(World.ownsRow.lt hrow.1 k hk).1;have:=bK.size;omega);have hbf:=(gK.trans D6).trans (hb6.mono (by have:=gK.size;have:=Gl.size;omega));exact⟨_,by rw[HA.out,HO.out];rfl,by rw[HA.out,HO.out];exact gY _ _,hbf⟩
   ·have HO:Hid (cZ (L.eraseIdx i)=some (L.eraseIdx i)):=(show cZ _=some _ by unfold cZ;rw[hg2];rfl)
    have HG2:=Lib.hid hg2;clear hg2;go_enter Tryz.func119,Tryz.ntmps119;go_wp2_with (first|(go_at_call 90;refine(vM _ L _ _ hv hn).mono ?_;rintro e w2⟨rfl,hb2⟩;rw[HF.out])|(go_at_call 46;refine(fJ _ L _ (hv.keep hb2) hn hs).mono ?_;rintro e w3⟨rfl,hb3⟩;rw[HG.out];have bK:=hb2.trans (hb3.mono hb2.size))|(go_at_call 172;refine(JX _ L _ (hv.keep bK) hn (λx hx=>(hs x hx).2.2)).mono ?_;rintro e w4⟨v4,rfl,⟨xs,hxs,hrow⟩,hb4⟩)|(go_at_call 175;refine(Xm _ xs i w3.heap.size _ hrow (by have:=congrArg List.length hxs;simp at this;omega) (by have:=congrArg List.length hxs;simp at this;omega)).mono ?_;rintro e w5⟨v5,rfl,DZ,Gl⟩)|(go_at_call 171;refine(PI _ (L.eraseIdx i) _ (by have:=bP.at DZ;rw[Gj,hxs]at this;exact this) hlen zu HG2.out).mono ?_;rintro e w6⟨rfl,hb6⟩))
    go_ret2
    have gK:=bK.trans (hb4.mono bK.size);have D6:Below w.heap.size w4 w5:=Xn Gl gK.size (λk hk=>by have:=(World.ownsRow.lt hrow.1 k hk).1;have:=bK.size;omega);have hbf:=(gK.trans D6).trans (hb6.mono (by have:=gK.size;have:=Gl.size;omega));refine⟨_,by rw[HA.out,HO.out];rfl,?_,hbf⟩;rw[HA.out,HO.out];have:=((DZ.mono bK.size).keep hb6).own;rw[Gj,hxs]at this;exact this
theorem D7 {a b:ByteArray} (h:a=b):(a.toList==b.toList)=true:=by rw[k_];simp[h]
theorem D8 {a b:ByteArray} (h:a≠b):(a.toList==b.toList)=false:=by rw[k_];simp[h]
theorem Xo {L:List Df} {a b:ByteArray} (h:∀x∈L,dN x) (hb:b.size<=1048576):∀x∈L.map (ig a b),dN x:=by
 intro x hx;obtain⟨d,hd,rfl⟩:=List.mem_map.1 hx;obtain⟨h1,h2,h3⟩:=h d hd;refine⟨?_,?_,by simpa[ig]using h3⟩
 ·simp only[ig];split;exact hb;exact h1
 ·intro n hn;simp only[ig,List.mem_map]at hn;obtain⟨m,hm,rfl⟩:=hn;unfold qU;split
  ·exact hb
  ·exact h2 m hm
theorem adn (v:Value) (L:List Df) (s t:ByteArray) (w:World) (hv:aG w v L) (hn:L.length<=1048576) (hs:∀x∈L,dN x) (ht:t.size<=1048576) :
  Calls Tryz.prog 124 #[v,.string s,.string t] w (lV (iF L s t) w):=by
 obtain⟨a,cap,rfl⟩:∃a cap,v=.slice a L.length cap:=by obtain⟨a,cap,rfl,_⟩:=hv;exact⟨a,cap,rfl⟩
 have mM:=oO s L 0;cases hg:good L
 ·have HA:Hid (iF L s t=none):=(show iF L s t=none by simp[iF,hg])
  have HG:=Lib.hid hg;clear hg mM;go_enter Tryz.func124,Tryz.ntmps124;go_wp2_with (first|(go_at_call 46;refine(fJ _ L _ hv hn hs).mono ?_;rintro e w3⟨rfl,hb3⟩;rw[HG.out]))
  go_ret2
  exact⟨_,by rw[HA.out];rfl,by rw[HA.out];exact gY _ _,hb3⟩
 ·rcases mM with⟨f1,f2⟩|⟨i0,hi0,f1,f2⟩
  ·have HA:Hid (iF L s t=none):=(show iF L s t=none by simp[iF,f1])
   have HG:=Lib.hid hg;have HF:=Lib.hid f1;clear hg f1 f2;go_enter Tryz.func124,Tryz.ntmps124;go_wp2_with (first|(go_at_call 90;refine(vM _ L _ _ (hv.keep hb3) hn).mono ?_;rintro e w2⟨rfl,hb2⟩;rw[HF.out])|(go_at_call 46;refine(fJ _ L _ hv hn hs).mono ?_;rintro e w3⟨rfl,hb3⟩;rw[HG.out]))
   go_ret2
   exact⟨_,by rw[HA.out];rfl,by rw[HA.out];exact gY _ _,hb3.trans (hb2.mono hb3.size)⟩
  ·rw[Nat.zero_add]at f1;have HA:Hid (iF L s t=cZ (L.map (ig s t))):=(show iF L s t=_ by simp[iF,f1,hg])
   have Gm:=Xo (a:=s) hs ht;have hlm:(L.map (ig s t)).length<=1048576:=by simpa using hn
   have HG:=Lib.hid hg;have HF:=Lib.hid f1;have gi:¬((i0:Int)<0):=by omega
   clear hg f1 f2;go_enter Tryz.func124,Tryz.ntmps124;go_wp2_with (first|(go_at_call 90;refine(vM _ L _ _ (hv.keep hb3) hn).mono ?_;rintro e w2⟨rfl,hb2⟩;rw[HF.out];have hb2':=hb3.trans (hb2.mono hb3.size))|(go_at_call 46;refine(fJ _ L _ hv hn hs).mono ?_;rintro e w3⟨rfl,hb3⟩;rw[HG.out])|(go_at_call 172;refine(JX _ L _ (hv.keep hb2') hn (λx hx=>(hs x hx).2.2)).mono ?_;rintro e w4⟨v4,rfl,⟨xs,hxs,hrow0⟩,hb4⟩;have hxl:=congrArg List.length hxs;simp only[List.length_map]at hxl;obtain⟨a4,c4,rfl⟩:=bP.shape hrow0 L.length hxl;have PN:Below w.heap.size w w4:=hb2'.trans (hb4.mono hb2'.size)))
   have HX:=Lib.hid hxs;have lC:=Lib.hid hxl;have PO:=hb2'.size;clear hxs hxl;go_loopw [25] (λkv wr=>∃k:Nat,k<=L.length/\kv=.int .i64 k/\bP wr w2.heap.size (.slice a4 L.length c4) (iZ s t xs k)/\Below w.heap.size w wr) (λkv _=>L.length-(intOf kv).toNat)
   case atStart=>exact⟨0,by omega,rfl,by rw[WL];exact hrow0,PN⟩
   case round =>
    obtain⟨k,hk,rfl,hrow,hbel⟩:=hrel
    by_cases hlt:k<L.length
    ·have hkx:k<xs.length:=by rw[lC.out];exact hlt
     have hr1:=hrow.1
     rw[qo,lC.out]at hr1
     obtain⟨g,cp,he,hgc,hgm,hgB,hgs⟩:=Ad hr1 (by omega)
     simp only[Value.slice.injEq]at he
     obtain⟨rfl,_,rfl⟩:=he
     obtain⟨d0,d1,d2,d3,q0,q1,q2,q3⟩:=CS hr1 k (by rw[qo];exact hkx)
     rw[AY xs k hkx]at d0 d1 d2 d3
     have hbd:=hrow.2.1 _ (List.getElem_mem (by rw[qo];exact hkx:k<(iZ s t xs k).length))
     rw[AY xs k hkx]at hbd
     obtain⟨va,vc,hvs⟩:=hbd.slice
     rw[hvs]at d3
     have hbl:xs[k].1.body.length<=1048576:=by
      have:xs[k].1∈L:=by rw[<-HX.out];exact List.mem_map_of_mem (List.getElem_mem _)
      exact(hs _ this).2.2
     have HV:=Lib.hid hvs
     clear hvs
     by_cases hnm:xs[k].1.name=s
     ·have hrow1:bP (wr.setCell ⟨g,k*4,none⟩ (.string t)) w2.heap.size (.slice (some ⟨g,0,none⟩) L.length c4) (dP s t xs k 0 hkx):=by
       have h1:=hrow.setName (by rw[qo,lC.out]) (by rw[qo];exact hkx:k<(iZ s t xs k).length) t;rw[AY xs k hkx]at h1;rw[WS xs k hkx hnm];exact h1
      have qW:Below w.heap.size w (wr.setCell ⟨g,k*4,none⟩ (.string t)):=hbel.setCell (by show w.heap.size<=g;omega) _
      have hgt:=D7 hnm
      clear hnm
      go_wp2_with fail
      generalize wr.setCell ⟨g,k*4,none⟩ (.string t)=W at hrow1 qW
      go_loopw [47] (λqv W=>∃q:Nat,q<=xs[k].1.body.length/\qv=.int .i64 q/\bP W w2.heap.size (.slice (some ⟨g,0,none⟩) L.length c4) (dP s t xs k q hkx)/\Below w.heap.size w W) (λqv _=>xs[k].1.body.length-(intOf qv).toNat)
      case atStart=>exact⟨0,by omega,rfl,hrow1,qW⟩
      case round =>
       clear hrow1 qW hbd hrow hr1 d0 d1 d2 d3 q0 q1 q2 q3 hbel hgs
       obtain⟨q,hq,rfl,hrw,hbw⟩:=hrel
       have hr2:=hrw.1
       rw[oV,lC.out]at hr2
       have hgz:=(World.ownsRow.lt hr2 g rfl).2
       obtain⟨e0,e1,e2,e3,p0,p1,p2,p3⟩:=CS hr2 k (by rw[oV];exact hkx)
       rw[vU xs k q hkx]at e0 e1 e2 e3
       simp only[HV.out]at e3
       by_cases o7:q<xs[k].1.body.length
       ·obtain⟨gb,hgb⟩:∃gb,va=some ⟨gb,0,none⟩:=by
         have hb2:=hrw.2.1 _ (List.getElem_mem (by rw[oV];exact hkx:k<(dP s t xs k q hkx).length));rw[vU xs k q hkx]at hb2;simp only[HV.out]at hb2;rcases hb2.2 with⟨h1,h2⟩|⟨gb,cap',cur,h1,_⟩
         ·rw[AX]at h2;omega
         ·simp only[Value.slice.injEq]at h1;exact⟨gb,h1.1⟩
        subst hgb
        obtain⟨c0,c1,c2,cf,cz,PS⟩:=JG hkx hrw HV.out o7
        by_cases hN:xs[k].1.body[q].kind=17/\xs[k].1.body[q].name=s
        ·have hst:=JH (b:=t) hkx hrw HV.out o7 hN
         have t1:(xs[k].1.body[q].kind==17)=true:=by simp[hN.1]
         have t2:=D7 hN.2
         clear hN
         go_wp2
         go_roundw
         case rel=>exact⟨q+1,by omega,by go_num,hst.keep (aj _ _),(hbw.setCell (by show w.heap.size<=gb;omega) _).alloc (by simp;exact hbw.size) _⟩
         case measure=>simp[intOf];omega
        ·have hsame:=JF (b:=t) xs k q hkx o7 (by unfold qU;rw[if_neg hN])
         have hN':(xs[k].1.body[q].kind==17)=false\/((xs[k].1.body[q].kind==17)=true/\(xs[k].1.body[q].name.toList==s.toList)=false):=by
          by_cases h17:xs[k].1.body[q].kind=17
          ·exact .inr ⟨by simp[h17],D8 (λe=>hN ⟨h17,e⟩)⟩
          ·exact .inl (by simp[h17])
         rw[<-hsame]at hrw
         clear hN hsame
         rcases hN' with t1|⟨t1,t2⟩
         all_goals
          go_wp2
          go_roundw
          case rel=>exact⟨q+1,by omega,by go_num,hrw.keep (aj _ _),hbw.alloc hbw.size _⟩
          case measure=>simp[intOf];omega
       ·have hqe:q=xs[k].1.body.length:=by omega
        subst hqe
        rw[JE]at hrw
        clear e0 e1 e2 e3 p0 p1 p2 p3 hr2
        go_wp2
        go_roundw
        case rel=>exact⟨k+1,by omega,by go_num,hrw,hbw⟩
        case measure=>simp[intOf];omega
     ·have hrow1:bP wr w2.heap.size (.slice (some ⟨g,0,none⟩) L.length c4) (dP s t xs k 0 hkx):=by
       rw[WR xs k hkx hnm];exact hrow
      have qW:Below w.heap.size w wr:=hbel
      have hgt:=D8 hnm
      clear hnm
      go_wp2_with fail
      go_loopw [47] (λqv W=>∃q:Nat,q<=xs[k].1.body.length/\qv=.int .i64 q/\bP W w2.heap.size (.slice (some ⟨g,0,none⟩) L.length c4) (dP s t xs k q hkx)/\Below w.heap.size w W) (λqv _=>xs[k].1.body.length-(intOf qv).toNat)
      case atStart=>exact⟨0,by omega,rfl,hrow1,qW⟩
      case round =>
       clear hrow1 qW hbd hrow hr1 d0 d1 d2 d3 q0 q1 q2 q3 hbel hgs
       obtain⟨q,hq,rfl,hrw,hbw⟩:=hrel
       have hr2:=hrw.1
       rw[oV,lC.out]at hr2
       have hgz:=(World.ownsRow.lt hr2 g rfl).2
       obtain⟨e0,e1,e2,e3,p0,p1,p2,p3⟩:=CS hr2 k (by rw[oV];exact hkx)
       rw[vU xs k q hkx]at e0 e1 e2 e3
       simp only[HV.out]at e3
       by_cases o7:q<xs[k].1.body.length
       ·obtain⟨gb,hgb⟩:∃gb,va=some ⟨gb,0,none⟩:=by
         have hb2:=hrw.2.1 _ (List.getElem_mem (by rw[oV];exact hkx:k<(dP s t xs k q hkx).length));rw[vU xs k q hkx]at hb2;simp only[HV.out]at hb2;rcases hb2.2 with⟨h1,h2⟩|⟨gb,cap',cur,h1,_⟩
         ·rw[AX]at h2;omega
         ·simp only[Value.slice.injEq]at h1;exact⟨gb,h1.1⟩
        subst hgb
        obtain⟨c0,c1,c2,cf,cz,PS⟩:=JG hkx hrw HV.out o7
        by_cases hN:xs[k].1.body[q].kind=17/\xs[k].1.body[q].name=s
        ·have hst:=JH (b:=t) hkx hrw HV.out o7 hN
         have t1:(xs[k].1.body[q].kind==17)=true:=by simp[hN.1]
         have t2:=D7 hN.2
         clear hN
         go_wp2
         go_roundw
         case rel=>exact⟨q+1,by omega,by go_num,hst.keep (aj _ _),(hbw.setCell (by show w.heap.size<=gb;omega) _).alloc (by simp;exact hbw.size) _⟩
         case measure=>simp[intOf];omega
        ·have hsame:=JF (b:=t) xs k q hkx o7 (by unfold qU;rw[if_neg hN])
         have hN':(xs[k].1.body[q].kind==17)=false\/((xs[k].1.body[q].kind==17)=true/\(xs[k].1.body[q].name.toList==s.toList)=false):=by
          by_cases h17:xs[k].1.body[q].kind=17
          ·exact .inr ⟨by simp[h17],D8 (λe=>hN ⟨h17,e⟩)⟩
          ·exact .inl (by simp[h17])
         rw[<-hsame]at hrw
         clear hN hsame
         rcases hN' with t1|⟨t1,t2⟩
         all_goals
          go_wp2
          go_roundw
          case rel=>exact⟨q+1,by omega,by go_num,hrw.keep (aj _ _),hbw.alloc hbw.size _⟩
          case measure=>simp[intOf];omega
       ·have hqe:q=xs[k].1.body.length:=by omega
        subst hqe
        rw[JE]at hrw
        clear e0 e1 e2 e3 p0 p1 p2 p3 hr2
        go_wp2
        go_roundw
        case rel=>exact⟨k+1,by omega,by go_num,hrw,hbw⟩
        case measure=>simp[intOf];omega
    ·have hke:k=xs.length:=by rw[lC.out];omega
     subst hke
     have hdone:=hrow.at
     rw[JD,HX.out]at hdone
     have hown:=hrow.own
     rw[JD,HX.out]at hown
     cases hg2:good (L.map (ig s t))
     ·have HO:Hid (cZ (L.map (ig s t))=none):=(show cZ _=none by unfold cZ;rw[hg2];rfl)
      have HG2:=Lib.hid hg2
      clear hg2
      go_wp2_with (go_at_call 171;refine(PK _ (L.map (ig s t)) _ hdone hlm Gm HG2.out).mono ?_;rintro e w6⟨rfl,hb6⟩)
      go_ret2
      exact⟨_,by rw[HA.out,HO.out];rfl,by rw[HA.out,HO.out];exact gY _ _,hbel.trans (hb6.mono hbel.size)⟩
     ·have HO:Hid (cZ (L.map (ig s t))=some (L.map (ig s t))):=(show cZ _=some _ by unfold cZ;rw[hg2];rfl)
      have HG2:=Lib.hid hg2
      clear hg2
      go_wp2_with (go_at_call 171;refine(PI _ (L.map (ig s t)) _ hdone hlm Gm HG2.out).mono ?_;rintro e w6⟨rfl,hb6⟩)
      go_ret2
      refine⟨_,by rw[HA.out,HO.out];rfl,?_,hbel.trans (hb6.mono hbel.size)⟩
      rw[HA.out,HO.out]
      exact(hown.mono PO).keep hb6
theorem Xp (v vb:Value) (L:List Df) (e:En) (w:World) (hv:aG w v L) (hn:L.length<=1048576) (hs:∀x∈L,dN x) (hg:good L=true) (hvb:aZ w vb e.body) (he:dW e) :
  Calls Tryz.prog 112 #[.agg #[.int .i64 e.kind,.string e.name,.string e.to,vb],v] w λr w'=>∃x:W2,r=.returned (.agg #[.string e.name,.int .i64 x.1,.int .i64 x.2,vb])/\(∀t,aS (aO L) e.body=some t->x=t)/\Below w.heap.size w w':=by
 obtain⟨a,cap,rfl⟩:∃a cap,v=.slice a L.length cap:=by obtain⟨a,cap,rfl,_⟩:=hv;exact⟨a,cap,rfl⟩
 obtain⟨ab,cb,rfl⟩:=hvb.slice;have hgg:dJ [] L=true:=by simp only[good,Bool.and_eq_true]at hg;exact hg.2
 have hsm:=vJ hgg;have FH:=FD hgg;clear hg hgg;go_enter Tryz.func112,Tryz.ntmps112;go_wp2_with fail
 have b2:Below w.heap.size w ((w.alloc (.cells #[.int .i64 e.kind,.string e.name,.string e.to,.slice ab e.body.length cb] 45)).alloc (.cells #[.string ⟨#[]⟩,.int .i64 0,.int .i64 0,.slice none 0 0] 101)):=((Below.refl _ _).alloc (Nat.le_refl _) _).alloc (by simp) _;refine bC (C:=ah (aQ) _) 2 [0,1,2,3,4,5,6,7,8,9,10,11] (by kernel_rfl) (by kernel_rfl) (ah.grows _ _) (ah.refl _ _) ?_;have up:∀{w':World},ah aQ (((w.alloc (.cells #[.int .i64 e.kind,.string e.name,.string e.to,.slice ab e.body.length cb] 45)).alloc (.cells #[.string ⟨#[]⟩,.int .i64 0,.int .i64 0,.slice none 0 0] 101)).drew) w'->Below w.heap.size w w':=λh=>b2.trans (Below.mono (B:=w.heap.size+1+1) ((Below.refl (w.heap.size+1+1) _).drew.trans (h.toBelow.mono (by simp))) (by omega));iterate 4 (apply ay rfl rfl rfl;(focus intro u hc' hf';go_simp<;>rfl);intro K hK;go_simp;apply hK;clear hK K)
 refine aX rfl rfl rfl (ah.grows _ _) (ah.refl _ _) 82 (λK hK=>?_);apply Exists.intro;refine⟨λw' hw'=>?_,λwa dU dS=>?_⟩;(focus go_simp;rfl);refine(Jb _ L _ (hv.keep (up dU)) hn (λd hd=>(hs d hd).1)).mono ?_;rintro e w3⟨bc,rfl,ht3,hbc,hb3⟩;refine⟨_,rfl,hb3,λhx=>?_⟩;go_simp;apply hK;clear hK K;refine aX rfl rfl rfl (ah.grows _ _) (hx) 81 (λK hK=>?_);apply Exists.intro;refine⟨λw' hw'=>?_,λwb hwb fB=>?_⟩;(focus go_simp;rfl);refine(Om _ e.body L bc _ (hvb.keep (up hwb)) (ht3.keep fB) he.2.2.2 he.2.2.1 hsm).mono ?_;rintro e w4⟨x,rfl,hx4,hb4⟩;refine⟨_,rfl,hb4,λhx=>?_⟩;go_simp;apply hK;clear hK K;rw[Oo FH]at *;iterate 3 (apply ay rfl rfl rfl;(focus intro u hc' hf';go_simp<;>rfl);intro K hK;go_simp;apply hK;clear hK K)
 refine fG rfl rfl rfl (ah.grows _ _) (hx) (λb=>.pointer (some ⟨b,0,none⟩)) (λK hK=>?_);apply Exists.intro;refine⟨λw' hw'=>?_,λbb w5 hw5 hb5 aI hNb hnb=>?_⟩
 ·obtain⟨hc',hf'⟩:=hw'.cell;try simp only[World.size_drew]at hc' hf'
  go_simp;rfl
 go_simp;refine hK _ _ _ ?_;clear hK K;refine eH rfl rfl rfl (ah.grows _ _) hw5 (λK hK=>?_);intro w6 hw6 hb6;obtain⟨m0,m1,m2⟩:=made_cell ((hb6.block bb (made_cell aI).2.2).trans aI);refine⟨(w6.setCell ⟨bb,0,none⟩ (.int .i64 x.1)).setCell ⟨bb,1,none⟩ (.int .i64 x.2),?_,⟨aB (aB hw6 (.inl hNb) _) (.inl hNb) _,by simp,λj _ hj _=>by rw[Below.heap_setCell _ _ _ _ (λh=>hj (by simp[h])),Below.heap_setCell _ _ _ _ (λh=>hj (by simp[h]))]⟩,?_⟩
 ·go_simp
 go_simp;refine hK _ _ _ ?_;clear hK K;iterate 1 (apply ay rfl rfl rfl;(focus intro u hc' hf';go_simp<;>rfl);intro K hK;go_simp;apply hK;clear hK K)
 refine aK ?_;have hbb:w.heap.size+1+1<=bb:=by simpa using hNb
 have uK:Below (w.heap.size+1+1) ((w.alloc (.cells #[.int .i64 e.kind,.string e.name,.string e.to,.slice ab e.body.length cb] 45)).alloc (.cells #[.string ⟨#[]⟩,.int .i64 0,.int .i64 0,.slice none 0 0] 101)) w6:=(Below.refl (w.heap.size+1+1) _).drew.trans (hw6.toBelow.mono (by simp));generalize hW:(w6.setCell ⟨bb,0,none⟩ (.int .i64 x.1)).setCell ⟨bb,1,none⟩ (.int .i64 x.2)=W;have hbW:Below (w.heap.size+1+1) ((w.alloc (.cells #[.int .i64 e.kind,.string e.name,.string e.to,.slice ab e.body.length cb] 45)).alloc (.cells #[.string ⟨#[]⟩,.int .i64 0,.int .i64 0,.slice none 0 0] 101)) W:=by
  rw[<-hW];exact(uK.setCell hbb _).setCell hbb _
 have n0:W.cell? ⟨bb,0,none⟩=some (.int .i64 x.1):=by rw[<-hW];clear hW;go_simp
 have n1:W.cell? ⟨bb,1,none⟩=some (.int .i64 x.2):=by rw[<-hW];clear hW;go_simp
 have e1:W.cell? ⟨w.heap.size,1,none⟩=some (.string e.name):=by rw[hbW.cell (p:=⟨w.heap.size,1,none⟩) (by simp;omega)];go_simp
 have e3:W.cell? ⟨w.heap.size,3,none⟩=some (.slice ab e.body.length cb):=by rw[hbW.cell (p:=⟨w.heap.size,3,none⟩) (by simp;omega)];go_simp
 have r0:W.cell? ⟨w.heap.size+1,0,none⟩=some (.string ⟨#[]⟩):=by rw[hbW.cell (p:=⟨w.heap.size+1,0,none⟩) (by simp)];go_simp
 have r1:W.cell? ⟨w.heap.size+1,1,none⟩=some (.int .i64 0):=by rw[hbW.cell (p:=⟨w.heap.size+1,1,none⟩) (by simp)];go_simp
 have r2:W.cell? ⟨w.heap.size+1,2,none⟩=some (.int .i64 0):=by rw[hbW.cell (p:=⟨w.heap.size+1,2,none⟩) (by simp)];go_simp
 have r3:W.cell? ⟨w.heap.size+1,3,none⟩=some (.slice none 0 0):=by rw[hbW.cell (p:=⟨w.heap.size+1,3,none⟩) (by simp)];go_simp
 have rf:∀j,W.frozen? ⟨w.heap.size+1,j,none⟩=false:=λj=>by rw[hbW.frozen (p:=⟨w.heap.size+1,j,none⟩) (by simp)];go_simp
 have vY:Below w.heap.size w W:=(((Below.refl _ _).alloc (Nat.le_refl _) _).alloc (by simp) _).trans (hbW.mono (by omega));clear hW uK hw6 hb6 hw5 hb5 aI hNb hnb hx hb3 dU dS m0 m1 m2 hbW up b2 ht3 hbc hb4 hwb fB;go_wp2;exact bodyPost_ret (v:=.agg #[.string e.name,.int .i64 x.1,.int .i64 x.2,.slice ab e.body.length cb]) (by simp[results,Tryz.results112,go_sem,r0,r1,r2,r3]) rfl ⟨x,rfl,hx4,(((vY.setCell (by simp) _).setCell (by simp) _).setCell (by simp) _).setCell (by simp) _⟩
end Go.Proofs.YtikgblkfmpecfaaGreatDoor
