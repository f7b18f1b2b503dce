/-
  The walk of isLibrary. Own work.
-/
import Derived.Test.YtldhpaflmnlcaaaGreatDoorQF
import Derived.Test.YtldhpaflmnlcaaaGreatDoorQA
import Derived.Test.YtldhpaflmnlcaaaGreatDoorQB
import Derived.Test.YtldhpaflmnlcaaaGreatDoorQC
import Derived.WalkSpells
set_option linter.all false
set_option maxRecDepth 100000
set_option maxHeartbeats 8000000
namespace Go.Proofs.YtldhpaflmnlcaaaGreatDoor
open Go.RowKit
theorem dfs_take {w:World} {a:Option Addr} {n cap:Nat} {L:List Df} (h:DfsAt w (.slice a n cap) L) (k:Nat) (hk:k≤L.length):DfsAt w (.slice a k cap) (L.take k):=by
 obtain ⟨a',cap',he,hc,hat⟩:=h
 simp only [Value.slice.injEq] at he
 obtain ⟨rfl,rfl,rfl⟩:=he
 have hl:(L.take k).length=k:=by rw [List.length_take];omega
 refine ⟨a,cap,by rw [hl],by omega,?_⟩
 intro i hi
 rw [hl] at hi
 obtain ⟨b,o,h1,h2,h3⟩:=hat i (by omega)
 refine ⟨b,o,h1,by omega,?_⟩
 rw [List.getElem_take]
 exact h3
theorem isLibrary_any (v:Value) (L:List Df) (w:World) (hv:DfsAt w v L) (hn:L.length≤1048576) (hs:∀ d ∈ L,DfOk d) :
  Calls Tryz.prog 68 #[v] w fun e w'=>e=.returned (.bool (good L))∧Below w.heap.size w w':=by
 have hv0:=hv
 obtain ⟨a,cap,rfl,hc,hat⟩:=hv
 by_cases hl:L.length≤12
 ·go_enter Tryz.func68,Tryz.ntmps68
  go_wp2
  go_loopw [12] (fun i wr=>∃ k:Nat,k≤L.length∧i=.int .i64 k∧Hid (goodGo [] (L.take k)=true)∧Hid (good L=goodGo (L.take k) (L.drop k))∧Below w.heap.size w wr) (fun i _=>L.length - (intOf i).toNat)
  case atStart=>exact ⟨0,by omega,rfl,(by simp [Hid,goodGo]:Hid (goodGo [] (L.take 0)=true)),(by simp [Hid,good,hl]:Hid (good L=goodGo (L.take 0) (L.drop 0))),Below.refl _ _⟩
  case round =>
   obtain ⟨k,hk,rfl,HG,HF,hbel⟩:=hrel
   by_cases hlt:k<L.length
   ·have hvk:=dfs_take (hv0.keep hbel) k hk
    obtain ⟨b,o,rfl,_,hnd⟩:=hat k hlt
    obtain ⟨c0,c1,c2,vb,c3,hvb⟩:=hnd.keep hbel
    obtain ⟨va,vc,rfl⟩:=hvb.slice
    have hsz:=hbel.size
    have hok:=hs L[k] (List.getElem_mem _)
    have hnm:∀ d ∈ L.take k,d.name.size≤1048576:=fun d hd=>(hs d (List.mem_of_mem_take hd)).1
    have hsm:=good_sm HG.out
    have huq:=good_uniq HG.out
    have htl:(L.take k).length≤1048576:=by rw [List.length_take];omega
    have hkc:k≤cap:=by omega
    clear hat hnd hs
    go_wp2_with fail
    refine region_acts (C:=Exc (NoT) _) 2 [0,1,2,3,4,5,6,7,8,9,10,11,12,13] (by kernel_rfl) (by kernel_rfl) (Exc.grows _ _) (Exc.refl _ _) ?_
    iterate 6 (apply x_st rfl rfl rfl;(focus intro u hc' hf';go_simp <;> rfl);intro K hK;go_simp;apply hK;clear hK K)
    have up:∀ {o:Obj} {w':World},Exc NoT (wr.alloc o).drew w' → Below wr.heap.size wr w':=fun h=>(((Below.refl _ _).alloc (Nat.le_refl _) _).drew).trans (h.toBelow.mono (by simp))
    refine x_call rfl rfl rfl (Exc.grows _ _) (Exc.refl _ _) 108 (fun K hK=>?_);apply Exists.intro;refine ⟨fun w' hw'=>?_,fun w' hw' hbw=>?_⟩;(focus go_simp;rfl);refine (typingIn_any _ (L.take k) _ (hvk.keep (up hw')) htl hnm).mono ?_;rintro e w3 ⟨bc,rfl,ht3,hbc,hb3⟩;refine ⟨_,rfl,hb3,fun hx=>?_⟩;go_simp;apply hK;clear hK K
    refine x_call rfl rfl rfl (Exc.grows _ _) (hx) 107 (fun K hK=>?_);apply Exists.intro;refine ⟨fun w' hw'=>?_,fun w' hw' hbw=>?_⟩;(focus go_simp;rfl);refine (typed_any _ L[k].body (L.take k) bc _ (hvb.keep (up hw')) (ht3.keep hbw) hok.2.2 hok.2.1 hsm).mono ?_;rintro e w4 ⟨x,rfl,hx4,hb4⟩;refine ⟨_,rfl,hb4,fun hx=>?_⟩;go_simp;apply hK;clear hK K
    rw [typedL_uniq huq] at *
    iterate 3 (apply x_st rfl rfl rfl;(focus intro u hc' hf';go_simp <;> rfl);intro K hK;go_simp;apply hK;clear hK K)
    refine x_make rfl rfl rfl (Exc.grows _ _) hx (fun b=>.pointer (some ⟨b,0,none⟩)) (fun K hK=>?_)
    apply Exists.intro
    refine ⟨fun w' hw'=>?_,fun bb w5 hw5 hb5 hbo hNb hnb=>?_⟩
    ·go_simp
     rfl
    go_simp
    refine hK _ _ _ ?_
    clear hK K
    refine x_do rfl rfl rfl (Exc.grows _ _) hw5 (fun K hK=>?_)
    intro w6 hw6 hb6
    obtain ⟨m0,m1,m2⟩:=made_cell ((hb6.block bb (made_cell hbo).2.2).trans hbo)
    refine ⟨(w6.setCell ⟨bb,0,none⟩ (.int .i64 x.1)).setCell ⟨bb,1,none⟩ (.int .i64 x.2),?_,⟨exc_set (exc_set hw6 (.inl hNb) _) (.inl hNb) _,by simp,fun j _ hj _=>by rw [Below.heap_setCell _ _ _ _ (fun h=>hj (by simp [h])),Below.heap_setCell _ _ _ _ (fun h=>hj (by simp [h]))]⟩,?_⟩
    ·go_simp
    go_simp
    refine hK _ _ _ ?_
    clear hK K
    iterate 1 (apply x_st rfl rfl rfl;(focus intro u hc' hf';go_simp <;> rfl);intro K hK;go_simp;apply hK;clear hK K)
    refine x_nil ?_
    have hbb:wr.heap.size<bb:=by simp at hNb;omega
    obtain ⟨hc7,hf7,hs7⟩:=bcell hw6.toBelow
    simp only [World.size_alloc,World.drew] at hs7
    have hgt:¬ bb=wr.heap.size:=by omega
    generalize hW:(w6.setCell ⟨bb,0,none⟩ (.int .i64 x.1)).setCell ⟨bb,1,none⟩ (.int .i64 x.2)=W
    have n0:W.cell? ⟨bb,0,none⟩=some (.int .i64 x.1):=by rw [← hW];clear hW;go_simp
    have n1:W.cell? ⟨bb,1,none⟩=some (.int .i64 x.2):=by rw [← hW];clear hW;go_simp
    have e0:W.cell? ⟨wr.heap.size,0,none⟩=some (.string L[k].name):=by rw [← hW];clear hW;go_simp
    have e1:W.cell? ⟨wr.heap.size,1,none⟩=some (.int .i64 L[k].inn):=by rw [← hW];clear hW;go_simp
    have e2:W.cell? ⟨wr.heap.size,2,none⟩=some (.int .i64 L[k].out):=by rw [← hW];clear hW;go_simp
    have hbW:Below wr.heap.size wr W:=by rw [← hW];exact (((up hw6).setCell (by simp;omega) _).setCell (by simp;omega) _)
    have hsW:bb<W.heap.size:=by rw [← hW];simpa using m2
    have hsW2:wr.heap.size<W.heap.size:=by omega
    clear hW hc7 hf7 hs7 m0 m1 m2 hw6 hb6 hw5 hb5 hbo hNb hnb hx hb4 ht3 hb3
    have hag:goodAt (L.take k) L[k]=(decide (typedL (leafIn (L.take k)) L[k].body=some (L[k].inn,L[k].out)) && nameB L[k].name && (findD (L.take k) L[k].name).isNone):=rfl
    have hfn:=findFrom_neg L[k].name (L.take k)
    have hgo:good L=(goodAt (L.take k) L[k] && goodGo (L.take (k+1)) (L.drop (k+1))):=by
     rw [HF.out,List.drop_eq_getElem_cons hlt,goodGo,List.take_succ_eq_append_getElem hlt]
    have hgg:goodGo [] (L.take (k+1))=goodAt (L.take k) L[k]:=by
     rw [List.take_succ_eq_append_getElem hlt,goodGo_append,HG.out];simp [goodGo]
    cases hR:typedL (leafIn (L.take k)) L[k].body with
    | none =>
     have HT:Hid (good L=false):=(show good L=false by rw [hgo,hag,hR];simp)
     clear hag hfn hgo hgg hR
     go_wp2_with fail
     refine region_acts (C:=Exc (NoT) _) 2 [0,1,2,3,4,5,6,7,8,9,10,11,12,13,14,15,16,17,18,19,20,21,22,23,24,25] (by kernel_rfl) (by kernel_rfl) (Exc.grows _ _) (Exc.refl _ _) ?_
     iterate 3 (apply x_st rfl rfl rfl;(focus intro u hc' hf';go_simp <;> rfl);intro K hK;go_simp;apply hK;clear hK K)
     iterate 7 (refine x_skip rfl fun K hK=>⟨by first|rfl|(simp [Region.wanted,yielded,go_sem]),?_⟩;go_simp;apply hK;clear hK K)
     iterate 2 (apply x_st rfl rfl rfl;(focus intro u hc' hf';go_simp <;> rfl);intro K hK;go_simp;apply hK;clear hK K)
     iterate 4 (refine x_skip rfl fun K hK=>⟨by first|rfl|(simp [Region.wanted,yielded,go_sem]),?_⟩;go_simp;apply hK;clear hK K)
     iterate 2 (apply x_st rfl rfl rfl;(focus intro u hc' hf';go_simp <;> rfl);intro K hK;go_simp;apply hK;clear hK K)
     iterate 7 (refine x_skip rfl fun K hK=>⟨by first|rfl|(simp [Region.wanted,yielded,go_sem]),?_⟩;go_simp;apply hK;clear hK K)
     iterate 1 (apply x_st rfl rfl rfl;(focus intro u hc' hf';go_simp <;> rfl);intro K hK;go_simp;apply hK;clear hK K)
     refine x_nil ?_
     go_wp2
     go_ret
     exact ⟨ret_bool HT.out.symm,hbel.trans (hbW.drew.mono (by omega))⟩
    | some t =>
     obtain rfl:=hx4 t hR
     have hWd:Below wr.heap.size wr W.drew:=hbW.drew
     have hnmk:=hok.1
     by_cases p1:x.1=L[k].inn∧x.2=L[k].out
     ·obtain ⟨p1,p2⟩:=p1
      have hdt:decide (typedL (leafIn (L.take k)) L[k].body=some (L[k].inn,L[k].out))=true:=by rw [hR];simp [← p1,← p2]
      rw [hdt] at hag
      clear hdt hR
      cases hnb:nameB L[k].name
      ·have HT:Hid (good L=false):=(show good L=false by rw [hgo,hag,hnb];simp)
       clear hag hfn hgo hgg
       go_wp2_with fail
       refine region_acts (C:=Exc (NoT) _) 2 [0,1,2,3,4,5,6,7,8,9,10,11,12,13,14,15,16,17,18,19,20,21,22,23,24,25] (by kernel_rfl) (by kernel_rfl) (Exc.grows _ _) (Exc.refl _ _) ?_
       iterate 3 (apply x_st rfl rfl rfl;(focus intro u hc' hf';go_simp <;> rfl);intro K hK;go_simp;apply hK;clear hK K)
       iterate 7 (apply x_sg rfl rfl (by first|rfl|(simp [Region.wanted,yielded,go_sem]));(focus intro u hc' hf';go_simp <;> rfl);intro K hK;go_simp;apply hK;clear hK K)
       iterate 2 (apply x_st rfl rfl rfl;(focus intro u hc' hf';go_simp <;> rfl);intro K hK;go_simp;apply hK;clear hK K)
       iterate 2 (apply x_sg rfl rfl (by first|rfl|(simp [Region.wanted,yielded,go_sem]));(focus intro u hc' hf';go_simp <;> rfl);intro K hK;go_simp;apply hK;clear hK K)
       refine x_callg rfl rfl (Exc.grows _ _) (Exc.refl _ _) 70 (fun K hK=>?_);refine ⟨by first|rfl|(simp [Region.wanted,yielded,go_sem]),?_⟩;apply Exists.intro;refine ⟨fun w' hw'=>?_,fun w' hw' hbw=>?_⟩;(focus go_simp;rfl);refine (isName_any L[k].name _ hnmk).mono ?_;rintro e w8 ⟨rfl,hb8⟩;refine ⟨_,rfl,hb8,fun hx=>?_⟩;go_simp;apply hK;clear hK K
       iterate 1 (apply x_sg rfl rfl (by first|rfl|(simp [Region.wanted,yielded,go_sem]));(focus intro u hc' hf';go_simp <;> rfl);intro K hK;go_simp;apply hK;clear hK K)
       iterate 2 (apply x_st rfl rfl rfl;(focus intro u hc' hf';go_simp <;> rfl);intro K hK;go_simp;apply hK;clear hK K)
       iterate 7 (refine x_skip rfl fun K hK=>⟨by first|rfl|(simp [Region.wanted,yielded,go_sem]),?_⟩;go_simp;apply hK;clear hK K)
       iterate 1 (apply x_st rfl rfl rfl;(focus intro u hc' hf';go_simp <;> rfl);intro K hK;go_simp;apply hK;clear hK K)
       refine x_nil ?_
       go_wp2
       go_ret
       exact ⟨ret_bool HT.out.symm,hbel.trans ((hWd.trans (hx.toBelow.mono (by simp;omega))).mono (by omega))⟩
      ·rw [hnb] at hag
       rcases findFrom_cases L[k].name (L.take k) 0 with ⟨f1,f2⟩|⟨i,hi,f1,f2⟩
       ·rw [f2] at hag
        have HG':Hid (goodGo [] (L.take (k+1))=true):=(show _ by rw [hgg,hag];rfl)
        have HF':Hid (good L=goodGo (L.take (k+1)) (L.drop (k+1))):=(show good L=_ by rw [hgo,hag];rfl)
        clear hag hfn hgo hgg f2 HF HG
        go_wp2_with fail
        refine region_acts (C:=Exc (NoT) _) 2 [0,1,2,3,4,5,6,7,8,9,10,11,12,13,14,15,16,17,18,19,20,21,22,23,24,25] (by kernel_rfl) (by kernel_rfl) (Exc.grows _ _) (Exc.refl _ _) ?_
        iterate 3 (apply x_st rfl rfl rfl;(focus intro u hc' hf';go_simp <;> rfl);intro K hK;go_simp;apply hK;clear hK K)
        iterate 7 (apply x_sg rfl rfl (by first|rfl|(simp [Region.wanted,yielded,go_sem]));(focus intro u hc' hf';go_simp <;> rfl);intro K hK;go_simp;apply hK;clear hK K)
        iterate 2 (apply x_st rfl rfl rfl;(focus intro u hc' hf';go_simp <;> rfl);intro K hK;go_simp;apply hK;clear hK K)
        iterate 2 (apply x_sg rfl rfl (by first|rfl|(simp [Region.wanted,yielded,go_sem]));(focus intro u hc' hf';go_simp <;> rfl);intro K hK;go_simp;apply hK;clear hK K)
        refine x_callg rfl rfl (Exc.grows _ _) (Exc.refl _ _) 70 (fun K hK=>?_);refine ⟨by first|rfl|(simp [Region.wanted,yielded,go_sem]),?_⟩;apply Exists.intro;refine ⟨fun w' hw'=>?_,fun w' hw' hbw=>?_⟩;(focus go_simp;rfl);refine (isName_any L[k].name _ hnmk).mono ?_;rintro e w8 ⟨rfl,hb8⟩;refine ⟨_,rfl,hb8,fun hx=>?_⟩;go_simp;apply hK;clear hK K
        iterate 1 (apply x_sg rfl rfl (by first|rfl|(simp [Region.wanted,yielded,go_sem]));(focus intro u hc' hf';go_simp <;> rfl);intro K hK;go_simp;apply hK;clear hK K)
        iterate 2 (apply x_st rfl rfl rfl;(focus intro u hc' hf';go_simp <;> rfl);intro K hK;go_simp;apply hK;clear hK K)
        iterate 5 (apply x_sg rfl rfl (by first|rfl|(simp [Region.wanted,yielded,go_sem]));(focus intro u hc' hf';go_simp <;> rfl);intro K hK;go_simp;apply hK;clear hK K)
        refine x_callg rfl rfl (Exc.grows _ _) (hx) 71 (fun K hK=>?_);refine ⟨by first|rfl|(simp [Region.wanted,yielded,go_sem]),?_⟩;apply Exists.intro;refine ⟨fun w' hw'=>?_,fun w' hw' hbw=>?_⟩;(focus go_simp;rfl);refine (indexOf_any _ (L.take k) _ _ (hvk.keep (hWd.trans (hw'.toBelow.mono (by simp;omega)))) htl).mono ?_;rintro e w9 ⟨rfl,hb9⟩;refine ⟨_,rfl,hb9,fun hx=>?_⟩;go_simp;apply hK;clear hK K
        iterate 1 (apply x_sg rfl rfl (by first|rfl|(simp [Region.wanted,yielded,go_sem]));(focus intro u hc' hf';go_simp <;> rfl);intro K hK;go_simp;apply hK;clear hK K)
        iterate 1 (apply x_st rfl rfl rfl;(focus intro u hc' hf';go_simp <;> rfl);intro K hK;go_simp;apply hK;clear hK K)
        refine x_nil ?_
        go_wp2
        go_roundw
        case rel=>exact ⟨k+1,by omega,by go_num,HG',HF',hbel.trans ((hWd.trans (hx.toBelow.mono (by simp;omega))).mono (by omega))⟩
        case measure=>simp [intOf];omega
       ·rw [f2] at hag
        have HT:Hid (good L=false):=(show good L=false by rw [hgo,hag];simp)
        rw [Nat.zero_add] at f1
        clear hag hfn hgo hgg f2
        go_wp2_with fail
        refine region_acts (C:=Exc (NoT) _) 2 [0,1,2,3,4,5,6,7,8,9,10,11,12,13,14,15,16,17,18,19,20,21,22,23,24,25] (by kernel_rfl) (by kernel_rfl) (Exc.grows _ _) (Exc.refl _ _) ?_
        iterate 3 (apply x_st rfl rfl rfl;(focus intro u hc' hf';go_simp <;> rfl);intro K hK;go_simp;apply hK;clear hK K)
        iterate 7 (apply x_sg rfl rfl (by first|rfl|(simp [Region.wanted,yielded,go_sem]));(focus intro u hc' hf';go_simp <;> rfl);intro K hK;go_simp;apply hK;clear hK K)
        iterate 2 (apply x_st rfl rfl rfl;(focus intro u hc' hf';go_simp <;> rfl);intro K hK;go_simp;apply hK;clear hK K)
        iterate 2 (apply x_sg rfl rfl (by first|rfl|(simp [Region.wanted,yielded,go_sem]));(focus intro u hc' hf';go_simp <;> rfl);intro K hK;go_simp;apply hK;clear hK K)
        refine x_callg rfl rfl (Exc.grows _ _) (Exc.refl _ _) 70 (fun K hK=>?_);refine ⟨by first|rfl|(simp [Region.wanted,yielded,go_sem]),?_⟩;apply Exists.intro;refine ⟨fun w' hw'=>?_,fun w' hw' hbw=>?_⟩;(focus go_simp;rfl);refine (isName_any L[k].name _ hnmk).mono ?_;rintro e w8 ⟨rfl,hb8⟩;refine ⟨_,rfl,hb8,fun hx=>?_⟩;go_simp;apply hK;clear hK K
        iterate 1 (apply x_sg rfl rfl (by first|rfl|(simp [Region.wanted,yielded,go_sem]));(focus intro u hc' hf';go_simp <;> rfl);intro K hK;go_simp;apply hK;clear hK K)
        iterate 2 (apply x_st rfl rfl rfl;(focus intro u hc' hf';go_simp <;> rfl);intro K hK;go_simp;apply hK;clear hK K)
        iterate 5 (apply x_sg rfl rfl (by first|rfl|(simp [Region.wanted,yielded,go_sem]));(focus intro u hc' hf';go_simp <;> rfl);intro K hK;go_simp;apply hK;clear hK K)
        refine x_callg rfl rfl (Exc.grows _ _) (hx) 71 (fun K hK=>?_);refine ⟨by first|rfl|(simp [Region.wanted,yielded,go_sem]),?_⟩;apply Exists.intro;refine ⟨fun w' hw'=>?_,fun w' hw' hbw=>?_⟩;(focus go_simp;rfl);refine (indexOf_any _ (L.take k) _ _ (hvk.keep (hWd.trans (hw'.toBelow.mono (by simp;omega)))) htl).mono ?_;rintro e w9 ⟨rfl,hb9⟩;refine ⟨_,rfl,hb9,fun hx=>?_⟩;go_simp;apply hK;clear hK K
        iterate 1 (apply x_sg rfl rfl (by first|rfl|(simp [Region.wanted,yielded,go_sem]));(focus intro u hc' hf';go_simp <;> rfl);intro K hK;go_simp;apply hK;clear hK K)
        iterate 1 (apply x_st rfl rfl rfl;(focus intro u hc' hf';go_simp <;> rfl);intro K hK;go_simp;apply hK;clear hK K)
        refine x_nil ?_
        go_wp2
        go_ret
        exact ⟨ret_bool HT.out.symm,hbel.trans ((hWd.trans (hx.toBelow.mono (by simp;omega))).mono (by omega))⟩
     ·have HT:Hid (good L=false):=(show good L=false by
       rw [hgo,hag,hR]
       have:¬ (some x=some (L[k].inn,L[k].out)):=fun e=>p1 (by have:=Option.some.inj e;rw [this];simp)
       simp [this])
      clear hag hfn hgo hgg hR
      have p3:¬ x.1=L[k].inn∨(x.1=L[k].inn∧¬ x.2=L[k].out):=by by_cases h:x.1=L[k].inn;exact .inr ⟨h,fun h'=>p1 ⟨h,h'⟩⟩;exact .inl h
      clear p1
      rcases p3 with p1|⟨p1,p2⟩
      all_goals
       go_wp2_with fail
       refine region_acts (C:=Exc (NoT) _) 2 [0,1,2,3,4,5,6,7,8,9,10,11,12,13,14,15,16,17,18,19,20,21,22,23,24,25] (by kernel_rfl) (by kernel_rfl) (Exc.grows _ _) (Exc.refl _ _) ?_
       iterate 3 (apply x_st rfl rfl rfl;(focus intro u hc' hf';go_simp <;> rfl);intro K hK;go_simp;apply hK;clear hK K)
       iterate 7 (apply x_sg rfl rfl (by first|rfl|(simp [Region.wanted,yielded,go_sem]));(focus intro u hc' hf';go_simp <;> rfl);intro K hK;go_simp;apply hK;clear hK K)
       iterate 2 (apply x_st rfl rfl rfl;(focus intro u hc' hf';go_simp <;> rfl);intro K hK;go_simp;apply hK;clear hK K)
       iterate 4 (refine x_skip rfl fun K hK=>⟨by first|rfl|(simp [Region.wanted,yielded,go_sem]),?_⟩;go_simp;apply hK;clear hK K)
       iterate 2 (apply x_st rfl rfl rfl;(focus intro u hc' hf';go_simp <;> rfl);intro K hK;go_simp;apply hK;clear hK K)
       iterate 7 (refine x_skip rfl fun K hK=>⟨by first|rfl|(simp [Region.wanted,yielded,go_sem]),?_⟩;go_simp;apply hK;clear hK K)
       iterate 1 (apply x_st rfl rfl rfl;(focus intro u hc' hf';go_simp <;> rfl);intro K hK;go_simp;apply hK;clear hK K)
       refine x_nil ?_
       go_wp2
       go_ret
       exact ⟨ret_bool HT.out.symm,hbel.trans (hWd.mono (by omega))⟩
   ·go_wp2
    go_ret
    exact ⟨ret_bool (by rw [HF.out,List.drop_eq_nil_of_le (by omega)];rfl),hbel⟩
 ·have HR:=Lib.hid (show good L=false by simp [good,hl])
  go_enter Tryz.func68,Tryz.ntmps68
  go_wp2
  go_ret
  exact ⟨ret_bool HR.out.symm,Below.refl _ _⟩
end Go.Proofs.YtldhpaflmnlcaaaGreatDoor
/-
  Copies of nodes, terms and definitions (program and reference). Own work.
-/
namespace Go.Proofs.YtldhpaflmnlcaaaGreatDoor
open Go.RowKit
theorem hd_src {w:World} {v:Value} {ns:List Nd} (h:NdsAt w v ns) (hn:ns.length≤1048576) {ops:Array Oper} {rest:List Oper} {o:Oper} {a:Act} {Q:Exit → Act → World → Prop} (hgd:o.guard=none) (s x:Operand)
  (ho:o.op=.call { callee:=.builtin .append,args:=#[s,x],argTypes:=#[24,24] })
  (B:Nat) (u:Value) (xs:List Nd) (hs:a.eval s=u) (hx:a.eval x=v) (hown:NdsOwn w B u xs) (hB:B≤w.heap.size) (hl:xs.length≤1048576)
  (H:∀ v' w',NdsOwn w' B v' (xs ++ ns) → w.grownBy w' u.ownBlock → (v'.ownBlock=u.ownBlock∨v'.ownBlock=some w.heap.size) → wpList Tryz.prog ops Q rest (a.put o.dst v') w'):wpList Tryz.prog ops Q (o :: rest) a w:=by
 obtain ⟨i0,hi,hz0,hz1,hz2⟩:=info_parts info170
 refine wpList_append_src hgd s x 24 ho B 170 i0 _ 3 32 Tryz.underlying24 hi hz0 hz1 hz2 rfl (by decide) u xs.length _ hs hown v ns.length _ hx (nds_src h) (ndCells_one ns) (by unfold maxLen;omega) (by omega) hB ?_
 intro v' w' h1 h2 h3
 refine H v' w' ?_ h2 h3
 unfold NdsOwn
 rw [List.length_append,List.flatMap_append]
 exact h1
theorem nds_empty (w:World) (g B:Nat) (hg:g=w.heap.size) (hB:B≤w.heap.size):NdsOwn (w.alloc (.cells #[] 170)) B (.slice (some ⟨g,0,none⟩) 0 0) []:=by
 subst hg
 have:=World.ownsRow_made (base:=B) (size:=3) (e:=170) w #[] 0 hB (by unfold maxLen;omega) rfl
 simpa [NdsOwn] using this
theorem cloneNodes_any (v:Value) (ns:List Nd) (w:World) (hv:NdsAt w v ns) (hn:ns.length≤1048576) :
  Calls Tryz.prog 224 #[v] w fun e w'=>∃ v',e=.returned v'∧NdsOwn w' w.heap.size v' ns∧Below w.heap.size w w':=by
 obtain ⟨a,cap,rfl⟩:=hv.slice
 cases a with
 | none =>
  have h0:ns.length=0:=by
   obtain ⟨a,c,h1,h2,h3⟩:=hv
   rcases Nat.eq_zero_or_pos ns.length with h|h
   ·exact h
   ·obtain ⟨b,o,e,_⟩:=h3 0 h
    simp only [Value.slice.injEq] at h1
    rw [← h1.1] at e;cases e
  have hns:ns=[]:=List.eq_nil_of_length_eq_zero h0
  subst hns
  have hnil:=fun (w:World) (a:Option Addr) (n c:Nat)=>Lib.run_eql_slice_nil (P:=Tryz.prog) w 24 170 a n c 0 0 Tryz.underlying24
  go_enter Tryz.func224,Tryz.ntmps224
  go_wp2
  go_ret
  exact ⟨_,rfl,⟨rfl,.inl ⟨rfl,rfl⟩⟩,Below.refl _ _⟩
 | some ad =>
  have hnil:=fun (w:World) (a:Option Addr) (n c:Nat)=>Lib.run_eql_slice_nil (P:=Tryz.prog) w 24 170 a n c 0 0 Tryz.underlying24
  go_enter Tryz.func224,Tryz.ntmps224
  go_wp2_with (at_builtin;refine hd_src (hv.keep (alloc_below _ _)) hn rfl (.tmp 5) (.tmp 6) rfl w.heap.size (.slice (some ⟨w.heap.size,0,none⟩) 0 0) [] rfl rfl (nds_empty w _ _ rfl (Nat.le_refl _)) (by simp) (by simp) ?_;intro v' w' h1 h2 h3)
  go_ret
  refine ⟨_,rfl,by simpa using h1,?_⟩
  exact (alloc_below _ _).grown h2 (by simp) (fun k hk=>by simp [Value.ownBlock] at hk;omega)
theorem tmOwn_any (v:Value) (ns:List Nd) (w:World) (hv:NdsAt w v ns) (hn:ns.length≤1048576) :
  Calls Tryz.prog 183 #[v] w fun e w'=>∃ v',e=.returned (.agg #[v'])∧NdsOwn w' w.heap.size v' ns∧Below w.heap.size w w':=by
 obtain ⟨a,cap,rfl⟩:=hv.slice
 go_enter Tryz.func183,Tryz.ntmps183
 go_wp2_with (at_builtin;refine hd_src (hv.keep (((Below.refl _ _).alloc (Nat.le_refl _) _).alloc (by simp) _)) hn rfl (.tmp 3) (.tmp 4) rfl (w.heap.size+1) (.slice (some ⟨w.heap.size+1,0,none⟩) 0 0) [] rfl rfl (nds_empty (w.alloc (.cells #[.slice none 0 0] 26)) _ _ (by simp) (by simp)) (by simp) (by simp) ?_;intro v' w' h1 h2 h3;obtain ⟨ao,cp,rfl⟩:=h1.slice;have hb1:Below (w.heap.size+1) (w.alloc (.cells #[.slice none 0 0] 26)) w':=((Below.refl _ _).alloc (by simp) _).grown h2 (by simp) (fun k hk=>by simp [Value.ownBlock] at hk;omega);have q0:=hb1.cell (p:=⟨w.heap.size,0,none⟩) (by simp);have q1:=hb1.frozen (p:=⟨w.heap.size,0,none⟩) (by simp);simp [go_sem] at q0 q1)
 refine bodyPost_ret (v:=.agg #[.slice ao ns.length cp]) (by simp [results,Tryz.results183,go_sem,q0]) rfl ⟨_,rfl,?_,?_⟩
 ·have h1':NdsOwn w' (w.heap.size+1) (.slice ao ns.length cp) ns:=by simpa using h1
  exact (h1'.setLow (by simp) _).mono (by omega)
 ·exact (((Below.refl _ _).alloc (Nat.le_refl _) _).trans (hb1.mono (by omega))).setCell (by simp) _
theorem copyTerm_any (v:Value) (ns:List Nd) (w:World) (hv:NdsAt w v ns) (hn:ns.length≤1048576) :
  Calls Tryz.prog 209 #[.agg #[v]] w fun e w'=>∃ v',e=.returned (.agg #[v'])∧NdsOwn w' w.heap.size v' ns∧Below w.heap.size w w':=by
 obtain ⟨a,cap,rfl⟩:=hv.slice
 go_enter Tryz.func209,Tryz.ntmps209
 go_wp2_with (go_at_call 224;refine (cloneNodes_any _ ns _ (hv.keep (((Below.refl _ _).alloc (Nat.le_refl _) _).alloc (by simp) _)) hn).mono ?_;rintro e w2 ⟨v',rfl,hown,hb2⟩;obtain ⟨a',cap',rfl⟩:=hown.slice;obtain ⟨hc2,hf2,hs2⟩:=bcell hb2;simp only [World.size_alloc] at hs2 hown hb2)
 refine bodyPost_ret (v:=.agg #[.slice a' ns.length cap']) (by simp [results,Tryz.results209,go_sem,hc2]) rfl ⟨_,rfl,?_,?_⟩
 ·exact (hown.setLow (by simp) _).mono (by omega)
 ·exact ((((Below.refl _ _).alloc (Nat.le_refl _) _).alloc (by simp) _).trans (hb2.mono (by omega))).setCell (by simp) _
theorem copyDef_any (v:Value) (d:Df) (w:World) (hv:NdsAt w v d.body) (hn:d.body.length≤1048576) :
  Calls Tryz.prog 187 #[.agg #[.string d.name,.int .i64 d.inn,.int .i64 d.out,v]] w fun e w' =>
   ∃ v',e=.returned (.agg #[.string d.name,.int .i64 d.inn,.int .i64 d.out,v'])∧NdsOwn w' w.heap.size v' d.body∧Below w.heap.size w w':=by
 obtain ⟨a,cap,rfl⟩:=hv.slice
 go_enter Tryz.func187,Tryz.ntmps187
 go_wp2_with (go_at_call 209;refine (copyTerm_any _ d.body _ (hv.keep (((Below.refl _ _).alloc (Nat.le_refl _) _).alloc (by simp) _)) hn).mono ?_;rintro e w2 ⟨v',rfl,hown,hb2⟩;obtain ⟨a',cap',rfl⟩:=hown.slice;obtain ⟨hc2,hf2,hs2⟩:=bcell hb2;have d3:w2.cell? ⟨w.heap.size,3,none⟩=some (.slice a d.body.length cap):=(by rw [hc2 _ _ (by simp;omega)];go_simp);simp only [World.size_alloc] at hs2 hown hb2)
 refine bodyPost_ret (v:=.agg #[.string d.name,.int .i64 d.inn,.int .i64 d.out,.slice a' d.body.length cap']) (by simp [results,Tryz.results187,go_sem,hc2]) rfl ⟨_,rfl,?_,?_⟩
 ·refine NdsOwn.mono (B:=w.heap.size+1+1) (by omega) ?_
  repeat (with_reducible refine NdsOwn.setLow ?_ ?_ _;rotate_left;· (show _<_;simp only [];omega))
  exact hown
 ·repeat (with_reducible refine Below.setCell ?_ ?_ _;rotate_left;· (simp <;> omega))
  refine Below.trans ?_ (Below.mono hb2 ?_)
  ·repeat (first|exact Below.refl _ _|refine Below.alloc ?_ (by simp <;> omega) _)
  ·(try simp only [World.size_alloc]);omega
end Go.Proofs.YtldhpaflmnlcaaaGreatDoor
/-
  copyLibrary and lbOwn: libraries that share nothing. Own work.
-/
namespace Go.Proofs.YtldhpaflmnlcaaaGreatDoor
open Go.RowKit
def CpSt (w wr:World) (B:Nat) (v:Value) (L:List Df) (k:Nat):Prop:=∃ xs:List (Df × Value),xs.map Prod.fst=L.take k∧DfsRow wr B v xs∧Below w.heap.size w wr∧w.heap.size≤B∧B≤wr.heap.size
theorem CpSt.step {w wr w2 w':World} {B k:Nat} {v v' vb:Value} {L:List Df} {xs:List (Df × Value)} {o:Obj} (e:xs.map Prod.fst=L.take k) (hbel:Below w.heap.size w wr) (hwB:w.heap.size≤B) (hB:B≤wr.heap.size) (hk:k<L.length)
  (hb2:Below wr.heap.size wr w2) (hr:DfsRow w' B v' (xs ++ [(L[k],vb)])) (hv:∀ j,v.ownBlock=some j → w.heap.size≤j) (hg:(w2.alloc o).grownBy w' v.ownBlock):CpSt w w' B v' L (k+1):=by
 have h2:=hb2.size
 have h3:=hg.size
 have h1:=hbel.size
 simp only [World.size_alloc] at h3
 refine ⟨_,?_,hr,?_,hwB,by omega⟩
 ·rw [List.map_append,e,List.take_succ_eq_append_getElem hk];rfl
 ·exact ((hbel.trans (hb2.mono h1)).alloc (by omega) o).grown hg (by simp;omega) hv
theorem copyLibrary_any (v:Value) (L:List Df) (w:World) (hv:DfsAt w v L) (hn:L.length≤1048576) (hs:∀ d ∈ L,d.body.length≤1048576) :
  Calls Tryz.prog 186 #[v] w fun e w'=>∃ v',e=.returned v'∧DfsOwn w' w.heap.size v' L∧Below w.heap.size w w':=by
 obtain ⟨a,cap,rfl,hc,hat⟩:=hv
 go_enter Tryz.func186,Tryz.ntmps186
 go_wp2
 go_loopw [3,9] (fun v i wr=>∃ k:Nat,k≤L.length∧i=.int .i64 k∧CpSt w wr w.heap.size v L k) (fun _ i _=>L.length - (intOf i).toNat)
 case atStart =>
  refine ⟨0,by omega,rfl,[],by simp,⟨?_,by simp,List.Pairwise.nil⟩,alloc_below _ _,Nat.le_refl _,by simp⟩
  have:=World.ownsRow_made (base:=w.heap.size) (size:=4) (e:=28) w #[] 0 (Nat.le_refl _) (by unfold maxLen;omega) rfl
  simpa using this
 case round =>
  obtain ⟨k,hk,rfl,xs,hxs,hrow,hbel,hwB,hB⟩:=hrel
  have HX:=Lib.hid hxs
  have hxl:xs.length=k:=by have:=congrArg List.length hxs;simp at this;omega
  obtain ⟨ao,cp,rfl⟩:=hrow.shape k hxl
  clear hxs
  by_cases hlt:k<L.length
  ·obtain ⟨b,o,rfl,_,hnd⟩:=hat k hlt
   obtain ⟨c0,c1,c2,vb,c3,hvb⟩:=hnd.keep hbel
   obtain ⟨va,vc,rfl⟩:=hvb.slice
   have hbl:=hs L[k] (List.getElem_mem _)
   have hxl':xs.length≤1048576:=by omega
   have hlow:=fun j hj=>(World.ownsRow.lt hrow.1 j hj).1
   have HL:=Lib.hid hxl
   clear hat hnd hs hxl
   go_wp2_with (first|(go_at_call 187;refine (copyDef_any _ L[k] _ (hvb.keep (alloc_below _ _)) hbl).mono ?_;rintro e w2 ⟨vb',rfl,hown,hb2⟩;obtain ⟨a',cap',rfl⟩:=hown.slice;have hb2':Below wr.heap.size wr w2:=(alloc_below _ _).trans (hb2.mono (by simp));have hap:=dfs_apart hrow hown (by simp);have hrow2:=hrow.keep hb2';simp only [World.size_alloc] at hown)|(at_builtin;go_must (refine def_append (w:=w2) (vb:=Value.slice a' L[k].body.length cap') (d:=L[k]) rfl (.tmp 13) (.tmp 16) rfl w.heap.size (Value.slice ao k cp) xs w2.heap.size rfl rfl rfl hrow2 (hown.mono ?e2) hap ?e3 hxl' ?e4;(case e2=>omega);(case e3=>(have:=hb2'.size;omega));intro v' w' h1 h2 h3;have hst:=CpSt.step HX.out hbel hwB hB hlt hb2' h1 hlow h2;obtain ⟨ao',cp',rfl⟩:=h1.shape (k+1) (by simp [HL.out]);clear h1 h2 h3)))
   go_roundw
   case rel=>exact ⟨k+1,by omega,by go_num,hst⟩
   case measure=>simp [intOf];omega
  ·go_wp2
   go_ret
   have hkk:k=L.length:=by omega
   subst hkk
   refine ⟨_,rfl,⟨xs,?_,hrow⟩,hbel⟩
   rw [HX.out,List.take_length]
end Go.Proofs.YtldhpaflmnlcaaaGreatDoor
/-
  The program's AddDef, RemoveDef and validLibrary. Own work.
-/
namespace Go.Proofs.YtldhpaflmnlcaaaGreatDoor
open Go.RowKit
def LibPost (o:Option (List Df)) (w:World) (e:Ending) (w':World):Prop :=
 ∃ v',e=.returned (.tuple #[v',.bool o.isSome])∧DfsOwn w' w.heap.size v' (o.getD [])∧Below w.heap.size w w'
theorem dfsOwn_nil (w:World) (B:Nat):DfsOwn w B (.slice none 0 0) []:=⟨[],rfl,⟨by simp,.inl ⟨rfl,rfl⟩⟩,by simp,List.Pairwise.nil⟩
theorem validLibrary_any (v:Value) (L:List Df) (w:World) (hv:DfsAt w v L) (hn:L.length≤1048576) (hs:∀ d ∈ L,DfOk d) :
  Calls Tryz.prog 185 #[v] w fun e w'=>e=.returned (.tuple #[(if good L then v else .slice none 0 0),.bool (good L)])∧Below w.heap.size w w':=by
 obtain ⟨a,cap,rfl⟩:∃ a cap,v=.slice a L.length cap:=by obtain ⟨a,cap,rfl,_⟩:=hv;exact ⟨a,cap,rfl⟩
 cases hg:good L
 all_goals
  have HG:=Lib.hid hg
  clear hg
  go_enter Tryz.func185,Tryz.ntmps185
  go_wp2_with (go_at_call 68;refine (isLibrary_any _ L _ hv hn hs).mono ?_;rintro e w2 ⟨rfl,hb2⟩;rw [HG.out])
  go_ret2
  exact ⟨rfl,hb2⟩
theorem validLibrary_yes (v:Value) (L:List Df) (w:World) (hv:DfsAt w v L) (hn:L.length≤1048576) (hs:∀ d ∈ L,DfOk d) (hg:good L=true) :
  Calls Tryz.prog 185 #[v] w fun e w'=>e=.returned (.tuple #[v,.bool true])∧Below w.heap.size w w' :=
 (validLibrary_any v L w hv hn hs).mono fun e w' h=>by rw [if_pos hg,hg] at h;exact h
theorem validLibrary_no (v:Value) (L:List Df) (w:World) (hv:DfsAt w v L) (hn:L.length≤1048576) (hs:∀ d ∈ L,DfOk d) (hg:good L=false) :
  Calls Tryz.prog 185 #[v] w fun e w'=>e=.returned (.tuple #[.slice none 0 0,.bool false])∧Below w.heap.size w w' :=
 (validLibrary_any v L w hv hn hs).mono fun e w' h=>by rw [if_neg (by rw [hg];simp),hg] at h;exact h
theorem good_ok {L:List Df} (h:good L=true):(∀ d ∈ L,DfOk d)∧L.length≤1048576:=by
 have hb:=good_bnd h
 have hl:=good_len h
 refine ⟨fun d hd=>?_,by omega⟩
 obtain ⟨h1,h2,h3⟩:=hb d hd
 exact ⟨by omega,fun n hn=>by have:=h3 n hn;omega,by omega⟩
theorem implAddDef_any (v vb:Value) (L:List Df) (d:Df) (w:World) (hv:DfsAt w v L) (hn:L.length≤1048576) (hs:∀ x ∈ L,DfOk x) (hvb:NdsAt w vb d.body) (hd:DfOk d) :
  Calls Tryz.prog 134 #[v,.agg #[.string d.name,.int .i64 d.inn,.int .i64 d.out,vb]] w (LibPost (addL L d) w):=by
 obtain ⟨a,cap,rfl⟩:∃ a cap,v=.slice a L.length cap:=by obtain ⟨a,cap,rfl,_⟩:=hv;exact ⟨a,cap,rfl⟩
 obtain ⟨ab,capb,rfl⟩:=hvb.slice
 cases hg:good L
 ·have HA:Hid (addL L d=none):=(show addL L d=none by simp [addL,hg])
  have HG:=Lib.hid hg
  clear hg
  go_enter Tryz.func134,Tryz.ntmps134
  go_wp2_with (go_at_call 68;refine (isLibrary_any _ L _ (hv.keep (alloc_below _ _)) hn hs).mono ?_;rintro e w2 ⟨rfl,hb2⟩;rw [HG.out])
  go_ret2
  exact ⟨_,by rw [HA.out];rfl,by rw [HA.out];exact dfsOwn_nil _ _,(alloc_below _ _).trans (hb2.mono (by simp))⟩
 ·have hA:addL L d=okL (L ++ [d]):=by simp [addL,hg]
  have HA:=Lib.hid hA
  have HG:=Lib.hid hg
  clear hg hA
  go_enter Tryz.func134,Tryz.ntmps134
  go_wp2_with (go_at_call 68;refine (isLibrary_any _ L _ (hv.keep (alloc_below _ _)) hn hs).mono ?_;rintro e w2 ⟨rfl,hb2⟩;rw [HG.out];obtain ⟨hc2,hf2,hs2⟩:=bcell hb2)
  have hbw:Below w.heap.size w w2:=(alloc_below _ _).trans (hb2.mono (by simp))
  have hz2:w.heap.size<w2.heap.size:=by have:=hb2.size;simp at this;omega
  have hvw:=hv.keep hbw
  have hvbw:=hvb.keep hbw
  obtain ⟨i0,hi,hz0,hz1,hzb⟩:=info_parts info28
  have d0:w2.cell? ⟨w.heap.size,0,none⟩=some (.string d.name):=by rw [hc2 _ _ (by simp)];simp
  have d1:w2.cell? ⟨w.heap.size,1,none⟩=some (.int .i64 d.inn):=by rw [hc2 _ _ (by simp)];simp
  have d2:w2.cell? ⟨w.heap.size,2,none⟩=some (.int .i64 d.out):=by rw [hc2 _ _ (by simp)];simp
  have d3:w2.cell? ⟨w.heap.size,3,none⟩=some (.slice ab d.body.length capb):=by rw [hc2 _ _ (by simp)];simp
  clear hc2 hf2 hs2 hb2
  have up:∀ {w':World},Exc NoT w2.drew w' → Below w2.heap.size w2 w':=fun h=>(Below.refl w2.heap.size w2).drew.trans (h.toBelow.mono (by simp))
  have hokd:∀ x ∈ L ++ [d],DfOk x:=by
   intro x hx;rcases List.mem_append.1 hx with hx|hx
   ·exact hs x hx
   ·simp at hx;subst hx;exact hd
  have hlen:(L ++ [d]).length≤1048576:=by have:=good_len HG.out;simp;omega
  refine region_acts (C:=Exc (NoT) _) 2 [0,1,2,3,4,5,6,7,8,9,10] (by kernel_rfl) (by kernel_rfl) (Exc.grows _ _) (Exc.refl _ _) ?_
  iterate 1 (apply x_st rfl rfl rfl;(focus intro u hc' hf';go_simp <;> rfl);intro K hK;go_simp;apply hK;clear hK K)
  refine x_callB rfl rfl rfl (Exc.grows _ _) (Exc.refl _ _) 186 (fun K hK=>?_);apply Exists.intro;refine ⟨fun w' hw'=>?_,fun wa hwa hbwa=>?_⟩;(focus go_simp;rfl);refine (copyLibrary_any _ L _ (hvw.keep (up hwa)) hn (fun x hx=>(hs x hx).2.2)).mono ?_;rintro e w3 ⟨v3,rfl,⟨xs,hxs,hrow⟩,hb3⟩;refine ⟨_,rfl,hb3,fun hx=>?_⟩;go_simp;apply hK;clear hK K
  have hrow':DfsRow w3 wa.heap.size v3 xs:=hrow
  iterate 1 (apply x_st rfl rfl rfl;(focus intro u hc' hf';go_simp <;> rfl);intro K hK;go_simp;apply hK;clear hK K)
  have hb3':=(up hwa).trans (hb3.mono (up hwa).size)
  have hza:=(up hwa).size
  have hz3:=hb3.size
  refine x_call rfl rfl rfl (Exc.grows _ _) (hx) 187 (fun K hK=>?_);apply Exists.intro;refine ⟨fun w' hw'=>?_,fun wb hwb hbwb=>?_⟩;(focus go_simp;rfl);refine (copyDef_any _ d _ (hvbw.keep (hb3'.trans (hbwb.mono hb3'.size))) hd.2.2).mono ?_;rintro e w5 ⟨vb5,rfl,hvb5,hb5⟩;refine ⟨_,rfl,hb5,fun hx=>?_⟩;go_simp;apply hK;clear hK K
  have hb35:=hbwb.trans (hb5.mono hbwb.size)
  have hrow5:=hrow'.keep hb35
  have hap5:=dfs_apart hrow' hvb5 hbwb.size
  have hz5:=hb35.size
  have hzb5:=hbwb.size
  refine x_make rfl rfl rfl (Exc.grows _ _) (hx) (fun b=>.slice (some ⟨b,0,none⟩) 1 1) (fun K hK=>?_)
  apply Exists.intro
  refine ⟨fun w' hw'=>?_,fun b w6 hw6 hb6 hbo hNb hnb=>?_⟩
  ·obtain ⟨hc',hf'⟩:=hw'.cell
   try simp only [World.size_drew] at hc' hf'
   go_simp
   rfl
  go_simp
  refine hK _ _ _ ?_
  clear hK K
  have hz6:=hb6.size
  refine x_defapp rfl rfl rfl hw6 (.tmp 10) (.tmp 13) rfl w.heap.size v3 xs d vb5 b rfl rfl (fun k hk=>.inr ⟨by have:=(World.ownsRow.lt hrow'.1 k hk).1;simp;omega,.inr (.inr ⟨(World.ownsRow.lt hrow'.1 k hk).1,(World.ownsRow.lt hrow'.1 k hk).2⟩)⟩) (by omega) ?_ ((hrow5.keep hb6).mono (by omega)) ((hvb5.keep hb6).mono (by omega)) hap5 hbo ?_
  ·have:=congrArg List.length hxs;simp at this;omega
  intro K hK w7 w8 v8 hw7 hb7 hrow8 hg8 hw8 hl8
  have hat8:DfsAt w8 v8 (L ++ [d]):=by have:=hrow8.at;simpa [hxs] using this
  go_simp
  refine hK _ _ _ ?_
  clear hK K
  obtain ⟨ao,cp,rfl⟩:=hrow8.shape (L.length+1) (by have:=congrArg List.length hxs;simp at this;simp [this])
  cases hg2:good (L ++ [d])
  ·have HO:Hid (okL (L ++ [d])=none):=(show okL _=none by unfold okL;rw [hg2];rfl)
   have HG2:=Lib.hid hg2
   clear hg2
   refine x_call rfl rfl rfl (Exc.grows _ _) (hw8) 185 (fun K hK=>?_);apply Exists.intro;refine ⟨fun w' hw'=>?_,fun wc hwc hbwc=>?_⟩;(focus go_simp;rfl);refine (validLibrary_no _ (L ++ [d]) _ (hat8.keep hbwc) hlen hokd HG2.out).mono ?_;rintro e w9 ⟨rfl,hb9⟩;refine ⟨_,rfl,hb9,fun hx=>?_⟩;go_simp;apply hK;clear hK K
   iterate 4 (apply x_st rfl rfl rfl;(focus intro u hc' hf';go_simp <;> rfl);intro K hK;go_simp;apply hK;clear hK K)
   refine x_nil ?_
   go_wp2
   go_ret2
   refine ⟨_,by rw [HA.out,HO.out];rfl,by rw [HA.out,HO.out];exact dfsOwn_nil _ _,hbw.trans ((up hx).mono (by omega))⟩
  ·have HO:Hid (okL (L ++ [d])=some (L ++ [d])):=(show okL _=some _ by unfold okL;rw [hg2];rfl)
   have HG2:=Lib.hid hg2
   clear hg2
   refine x_call rfl rfl rfl (Exc.grows _ _) (hw8) 185 (fun K hK=>?_);apply Exists.intro;refine ⟨fun w' hw'=>?_,fun wc hwc hbwc=>?_⟩;(focus go_simp;rfl);refine (validLibrary_yes _ (L ++ [d]) _ (hat8.keep hbwc) hlen hokd HG2.out).mono ?_;rintro e w9 ⟨rfl,hb9⟩;refine ⟨_,rfl,hb9,fun hx=>?_⟩;go_simp;apply hK;clear hK K
   iterate 4 (apply x_st rfl rfl rfl;(focus intro u hc' hf';go_simp <;> rfl);intro K hK;go_simp;apply hK;clear hK K)
   refine x_nil ?_
   go_wp2
   go_ret2
   have hrow9:=hrow8.keep (hbwc.trans (hb9.mono hbwc.size))
   refine ⟨_,by rw [HA.out,HO.out];rfl,?_,hbw.trans ((up hx).mono (by omega))⟩
   rw [HA.out,HO.out]
   have:=hrow9.own
   simpa [hxs] using this
end Go.Proofs.YtldhpaflmnlcaaaGreatDoor
/-
  slices.Delete of one definition, and the program's RemoveDef. Own work.
-/
namespace Go.Proofs.YtldhpaflmnlcaaaGreatDoor
open Go.RowKit
theorem zeroDef (w:World):(zeroValue 28).run Tryz.prog w=.ok (.agg #[.string ⟨#[]⟩,.int .i64 0,.int .i64 0,.slice none 0 0]) w:=by kernel_rfl
theorem run_clear_def (w:World) (ty:TypeId) (B g m cap c:Nat) (xs:List Value) (hown:w.ownsRow B 28 4 (.slice (some ⟨g,0,none⟩) m cap) m xs) (hm:m+1≤cap) :
  ∃ w',(Builtin.clear_ #[31] ty #[.slice (some ⟨g,m * 4,none⟩) 1 c]).run Tryz.prog w=.ok (.tuple #[]) w'∧w'.ownsRow B 28 4 (.slice (some ⟨g,0,none⟩) m cap) m xs∧w.grownBy w' (some g):=by
 obtain ⟨hl,h2⟩:=hown
 rcases h2 with ⟨h,_⟩|⟨g',cap',cur,h,hb,hg,hc,hm',hs,ht⟩
 ·simp at h
 simp only [Value.slice.injEq,Option.some.injEq,Addr.mk.injEq,and_true,true_and] at h
 obtain ⟨rfl,rfl⟩:=h
 have hst:=run_storeCells_at Tryz.prog g (m * 4) 28 [.string ⟨#[]⟩,.int .i64 0,.int .i64 0,.slice none 0 0] 0 cur w hg (by simp;omega) (by intro v hv;simp at hv;rcases hv with rfl|rfl|rfl|rfl <;> rfl)
 obtain ⟨RR,hRR⟩:∃ RR,RR=(List.take (m * 4+0) cur.toList ++ [Value.string ⟨#[]⟩,.int .i64 0,.int .i64 0,.slice none 0 0] ++ List.drop (m * 4+0+[Value.string ⟨#[]⟩,.int .i64 0,.int .i64 0,.slice none 0 0].length) cur.toList).toArray:=⟨_,rfl⟩
 rw [← hRR] at hst
 have hzc:(Builtin.zeroCells #[.string ⟨#[]⟩,.int .i64 0,.int .i64 0,.slice none 0 0] 1).toList=[.string ⟨#[]⟩,.int .i64 0,.int .i64 0,.slice none 0 0]:=by
  simp [Builtin.zeroCells,List.range,List.range.loop]
 refine ⟨w.setRow g RR,?_,⟨hl,.inr ⟨g,cap,RR,rfl,hb,setRow_heap w g cur _ 28 _ hg,hc,hm',?_,?_⟩⟩,⟨rfl,rfl,rfl,by simp,fun k _ hk=>setRow_other w g k _ (fun e=>hk (by rw [e]))⟩⟩
 ·simp [Builtin.clear_,run_underlying Tryz.underlying31,zeroDef,Value.cells,hzc,hst]
 ·rw [hRR];simp;omega
 ·rw [hRR]
  have hlen:(cur.toList.take (m * 4)).length=m * 4:=by simp;omega
  simp only [Nat.add_zero,List.append_assoc]
  rw [List.take_left' hlen,ht]
theorem eraseIdx_eq {α:Type} (xs:List α) (i:Nat):xs.eraseIdx i=xs.take i ++ xs.drop (i+1):=List.eraseIdx_eq_take_drop_succ xs i
theorem flat_take {α:Type} {f:α → List Value} {sz:Nat} (hf:∀ x,(f x).length=sz) (xs:List α) (i:Nat) (hi:i≤xs.length):(xs.flatMap f).take (i * sz)=(xs.take i).flatMap f:=by
 have h1:((xs.take i).flatMap f).length=i * sz:=by rw [flat_length hf,List.length_take];congr 1;omega
 conv=>lhs;rw [← List.take_append_drop i xs]
 rw [List.flatMap_append,List.take_left' h1]
theorem dfs_row_ne' {w:World} {B g n cap:Nat} {ys:List (Df × Value)} (h:DfsRow w B (.slice (some ⟨g,0,none⟩) n cap) ys):∀ x ∈ ys,x.2.ownBlock ≠ some g:=fun x hx e=>owns_ne (h.2.1 x hx) h.1 (by decide) g e rfl
theorem del_end {w w1 w2 w3:World} {B g n cap i m:Nat} {xs:List (Df × Value)} (hm:xs.length=i+1+m) (hn:n=i+1+m) (hv:DfsRow w B (.slice (some ⟨g,0,none⟩) n cap) xs) (hb1:Below w.heap.size w w1) (hg2:w1.grownBy w2 (some g)) (hg3:w2.grownBy w3 (some g))
  (hown3:w3.ownsRow B 28 4 (.slice (some ⟨g,0,none⟩) (i+m) cap) (i+m) ((xs.take i).flatMap dfCells ++ (xs.drop (i+1)).flatMap dfCells)) :
  DfsRow w3 B (.slice (some ⟨g,0,none⟩) (i+m) cap) (xs.eraseIdx i)∧Exc (fun k=>some g=some k) w w3:=by
 subst hn
 have hl:(xs.eraseIdx i).length=i+m:=by rw [eraseIdx_eq];simp;omega
 have hv1:=hv.keep hb1
 have hne:=dfs_row_ne' hv1
 refine ⟨⟨?_,?_,?_⟩,?_⟩
 ·rw [hl,eraseIdx_eq,List.flatMap_append];exact hown3
 ·intro x hx
  have hx':x ∈ xs:=List.mem_of_mem_eraseIdx hx
  have hne':=hne x hx'
  exact nds_grown (nds_grown (hv1.2.1 x hx') hg2 (fun k hk e=>hne' (by cases e;exact hk))) hg3 (fun k hk e=>hne' (by cases e;exact hk))
 ·exact List.Pairwise.sublist (List.eraseIdx_sublist xs i) hv.2.2
 ·have e1:Exc (fun k=>some g=some k) w w1:=Below.exc hb1
  exact (e1.grown hg2 (fun k hk=>.inr hk)).grown hg3 (fun k hk=>.inr hk)
theorem deleteDef_any (v:Value) (xs:List (Df × Value)) (i:Nat) (B:Nat) (w:World) (hv:DfsRow w B v xs) (hi:i<xs.length) (hn:xs.length≤1048576) :
  Calls Tryz.prog 190 #[v,.int .i64 i,.int .i64 (i+1:Int)] w fun e w'=>∃ v',e=.returned v'∧DfsRow w' B v' (xs.eraseIdx i)∧Exc (fun k=>v.ownBlock=some k) w w':=by
 obtain ⟨g,cap,rfl,hgc,hgm,hgB,hgs⟩:=owns_some' hv.1 (by omega)
 unfold maxLen at hgm
 obtain ⟨m,hm⟩:∃ m,xs.length=i+1+m:=⟨xs.length - (i+1),by omega⟩
 have hown:=hv.1
 rw [hm] at hown hgc hn ⊢
 obtain ⟨i0,hi0,hz0,hz1,hzb⟩:=info_parts info28
 have gi1:¬ ((i:Int)+1<i):=by omega
 have gi2:(i:Int)+1≤(i:Int)+1+m:=by omega
 have gi3:((i:Int) == i+1)=false:=by simp;omega
 have hv':=hv
 rw [hm] at hv'
 have HM:=Lib.hid hm
 clear hm
 go_enter Tryz.func190,Tryz.ntmps190
 go_wp2_with fail
 have gi4:(i:Int)≤cap:=by omega
 have gi5:(i:Int)+1≤cap:=by omega
 have gi6:((i:Int)+1).toNat=i+1:=by omega
 have gi8:i+1+m - (i+1)=m:=by omega
 have gi9:i+1+m - (i+m)=1:=by omega
 have gia:(i:Int)+m≤(i:Int)+1+m:=by omega
 have gib:(i:Int)+1+m≤cap:=by omega
 have gic:((i:Int)+1+m).toNat=i+1+m:=by omega
 have gid:((i:Int)+m).toNat=i+m:=by omega
 by_cases hcap:i+1=cap
 ·obtain rfl:m=0:=by omega
  subst hcap
  refine region_acts (C:=Exc ((fun j=>j=g)) _) 2 [0,1,2,3,4,5,6,7] (by kernel_rfl) (by kernel_rfl) (Exc.grows _ _) (Exc.refl _ _) ?_
  iterate 6 (apply x_sT rfl rfl rfl;(focus intro u hc' hf';(try simp only [World.size_drew] at hc' hf');go_simp <;> rfl);intro K hK;go_simp;apply hK;clear hK K)
  refine x_fits rfl rfl rfl (Exc.refl _ _) (.tmp 22) (.tmp 25) 31 rfl B 28 i0 4 Tryz.underlying31 hi0 hz1 g i (i+1) ((xs.take i).flatMap dfCells) rfl (by simpa using hgs) rfl ⟨g,0,none⟩ 0 0 [] rfl rfl (by simp) (by omega) ?_ ?_
  ·intro w1 hw1 hb1
   have hb1':Below w.heap.size w w1:=(Below.refl w.heap.size w).drew.trans (hb1.mono (Nat.le_refl _))
   have ho1:=owns_keep hb1' hown
   refine ⟨?_,fun j u hj=>by simp at hj⟩
   have:=owns_take ho1 i (by omega)
   rwa [flat_take dfCells_len xs i (by omega)] at this
  ·intro K hK w1 w2 hw1 hb1 hown2 hg2 hw2
   go_simp
   refine hK _ _ _ ?_
   clear hK K
   iterate 1 (apply x_sT rfl rfl rfl;(focus intro u hc' hf';(try simp only [World.size_drew] at hc' hf');go_simp <;> rfl);intro K hK;go_simp;apply hK;clear hK K)
   refine x_nil ?_
   have hd:(xs.drop (i+1)).flatMap dfCells=[]:=by rw [List.drop_eq_nil_of_le (by rw [HM.out];omega)];rfl
   rw [← hd] at hown2
   obtain ⟨w3,hcl,hown3,hg3⟩:=run_clear_def w2 0 B g i (i+1) 1 _ hown2 (by omega)
   obtain ⟨s1,s2⟩:=del_end HM.out rfl hv' ((Below.refl w.heap.size w).drew.trans (hb1.mono (Nat.le_refl _))) hg2 hg3 hown3
   clear hg2 hg3 hown2 hown3 hb1 hw1 hw2 hd
   go_wp2
   go_ret
   exact ⟨_,rfl,s1,s2⟩
 ·have gi7:¬ cap=i+1:=by omega
  refine region_acts (C:=Exc ((fun j=>j=g)) _) 2 [0,1,2,3,4,5,6,7] (by kernel_rfl) (by kernel_rfl) (Exc.grows _ _) (Exc.refl _ _) ?_
  iterate 6 (apply x_sT rfl rfl rfl;(focus intro u hc' hf';(try simp only [World.size_drew] at hc' hf');go_simp <;> rfl);intro K hK;go_simp;apply hK;clear hK K)
  refine x_fits rfl rfl rfl (Exc.refl _ _) (.tmp 22) (.tmp 25) 31 rfl B 28 i0 4 Tryz.underlying31 hi0 hz1 g i cap ((xs.take i).flatMap dfCells) rfl (by simpa using hgs) rfl ⟨g,(i+1) * 4,none⟩ m (cap - (i+1)) ((xs.drop (i+1)).flatMap dfCells) rfl ?_ ?_ (by omega) ?_ ?_
  ·rw [flat_length dfCells_len,List.length_drop,HM.out];omega
  ·intro u hu
   exact dfCells_one hv.2.1 u (by rw [← List.take_append_drop (i+1) xs,List.flatMap_append];exact List.mem_append_right _ hu)
  ·intro w1 hw1 hb1
   have hb1':Below w.heap.size w w1:=(Below.refl w.heap.size w).drew.trans (hb1.mono (by simp))
   have ho1:=owns_keep hb1' hown
   refine ⟨?_,fun j u hj=>?_⟩
   ·have:=owns_take ho1 i (by omega)
    rwa [flat_take dfCells_len xs i (by omega)] at this
   ·have hcell:=ho1.cellAt ((i+1) * 4+j) (by
     have hlt:j<((xs.drop (i+1)).flatMap dfCells).length:=by
      rcases Nat.lt_or_ge j ((xs.drop (i+1)).flatMap dfCells).length with h|h
      ·exact h
      ·rw [List.getElem?_eq_none h] at hj;cases hj
     rw [flat_length dfCells_len,List.length_drop,HM.out] at hlt
     omega)
    have hadd:(⟨g,(i+1) * 4,none⟩:Addr).add j=⟨g,(i+1) * 4+j,none⟩:=by unfold Addr.add;split <;> simp_all
    rw [hadd,hcell]
    conv=>lhs;rw [← List.take_append_drop (i+1) xs,List.flatMap_append]
    have hl:((xs.take (i+1)).flatMap dfCells).length=(i+1) * 4:=by rw [flat_length dfCells_len,List.length_take,HM.out];omega
    rw [List.getElem?_append_right (by omega),hl,Nat.add_sub_cancel_left]
    exact hj
  ·intro K hK w1 w2 hw1 hb1 hown2 hg2 hw2
   go_simp
   refine hK _ _ _ ?_
   clear hK K
   iterate 1 (apply x_sT rfl rfl rfl;(focus intro u hc' hf';(try simp only [World.size_drew] at hc' hf');go_simp <;> rfl);intro K hK;go_simp;apply hK;clear hK K)
   refine x_nil ?_
   obtain ⟨w3,hcl,hown3,hg3⟩:=run_clear_def w2 0 B g (i+m) cap (cap - (i+m)) _ hown2 (by omega)
   obtain ⟨s1,s2⟩:=del_end HM.out rfl hv' ((Below.refl w.heap.size w).drew.trans (hb1.mono (Nat.le_refl _))) hg2 hg3 hown3
   clear hg2 hg3 hown2 hown3 hb1 hw1 hw2
   go_wp2
   go_ret
   exact ⟨_,rfl,s1,s2⟩
end Go.Proofs.YtldhpaflmnlcaaaGreatDoor
/-
  The program's RemoveDef. Own work.
-/
namespace Go.Proofs.YtldhpaflmnlcaaaGreatDoor
open Go.RowKit
theorem exc_below {T:Nat → Prop} {w0 w1:World} {B:Nat} (h:Exc T w0 w1) (hB:B≤w0.heap.size) (hT:∀ k,T k → B≤k):Below B w0 w1 :=
 ⟨h.os,h.tape,h.output,h.size,fun k hk=>h.block k (by omega) (fun ht=>by have:=hT k ht;omega)⟩
theorem map_eraseIdx' {α β:Type} (f:α → β) (xs:List α) (i:Nat):(xs.eraseIdx i).map f=(xs.map f).eraseIdx i:=by
 rw [List.eraseIdx_eq_take_drop_succ,List.eraseIdx_eq_take_drop_succ,List.map_append,List.map_take,List.map_drop]
theorem implRemoveDef_any (v:Value) (L:List Df) (s:ByteArray) (w:World) (hv:DfsAt w v L) (hn:L.length≤1048576) (hs:∀ x ∈ L,DfOk x) :
  Calls Tryz.prog 141 #[v,.string s] w (LibPost (remL L s) w):=by
 obtain ⟨a,cap,rfl⟩:∃ a cap,v=.slice a L.length cap:=by obtain ⟨a,cap,rfl,_⟩:=hv;exact ⟨a,cap,rfl⟩
 have hff:=findFrom_cases s L 0
 cases hg:good L
 ·have HA:Hid (remL L s=none):=(show remL L s=none by simp [remL,hg])
  have HG:=Lib.hid hg
  clear hg hff
  go_enter Tryz.func141,Tryz.ntmps141
  go_wp2_with (first|(go_at_call 71;refine (indexOf_any _ L _ _ hv hn).mono ?_;rintro e w2 ⟨rfl,hb2⟩)|(go_at_call 68;refine (isLibrary_any _ L _ (hv.keep hb2) hn hs).mono ?_;rintro e w3 ⟨rfl,hb3⟩;rw [HG.out]))
  go_ret2
  exact ⟨_,by rw [HA.out];rfl,by rw [HA.out];exact dfsOwn_nil _ _,hb2.trans (hb3.mono hb2.size)⟩
 ·rcases hff with ⟨f1,f2⟩|⟨i,hi,f1,f2⟩
  ·have HA:Hid (remL L s=none):=(show remL L s=none by simp [remL,f1])
   have HG:=Lib.hid hg
   have HF:=Lib.hid f1
   clear hg f1 f2
   go_enter Tryz.func141,Tryz.ntmps141
   go_wp2_with (first|(go_at_call 71;refine (indexOf_any _ L _ _ hv hn).mono ?_;rintro e w2 ⟨rfl,hb2⟩;rw [HF.out])|(go_at_call 68;refine (isLibrary_any _ L _ (hv.keep hb2) hn hs).mono ?_;rintro e w3 ⟨rfl,hb3⟩;rw [HG.out]))
   go_ret2
   exact ⟨_,by rw [HA.out];rfl,by rw [HA.out];exact dfsOwn_nil _ _,hb2.trans (hb3.mono hb2.size)⟩
  ·rw [Nat.zero_add] at f1
   have HA:Hid (remL L s=okL (L.eraseIdx i)):=(show remL L s=_ by simp [remL,f1,hg])
   have hoke:∀ x ∈ L.eraseIdx i,DfOk x:=fun x hx=>hs x (List.mem_of_mem_eraseIdx hx)
   have hlen:(L.eraseIdx i).length≤1048576:=by have:=List.length_eraseIdx_le L i;omega
   have HG:=Lib.hid hg
   have HF:=Lib.hid f1
   have gi:¬ ((i:Int)<0):=by omega
   have hiB:(i:Int)≤1048576:=by omega
   clear hg f1 f2
   cases hg2:good (L.eraseIdx i)
   ·have HO:Hid (okL (L.eraseIdx i)=none):=(show okL _=none by unfold okL;rw [hg2];rfl)
    have HG2:=Lib.hid hg2
    clear hg2
    go_enter Tryz.func141,Tryz.ntmps141
    go_wp2_with (first|(go_at_call 71;refine (indexOf_any _ L _ _ hv hn).mono ?_;rintro e w2 ⟨rfl,hb2⟩;rw [HF.out])|(go_at_call 68;refine (isLibrary_any _ L _ (hv.keep hb2) hn hs).mono ?_;rintro e w3 ⟨rfl,hb3⟩;rw [HG.out];have hb3':=hb2.trans (hb3.mono hb2.size))|(go_at_call 186;refine (copyLibrary_any _ L _ (hv.keep hb3') hn (fun x hx=>(hs x hx).2.2)).mono ?_;rintro e w4 ⟨v4,rfl,⟨xs,hxs,hrow⟩,hb4⟩)|(go_at_call 190;refine (deleteDef_any _ xs i w3.heap.size _ hrow (by have:=congrArg List.length hxs;simp at this;omega) (by have:=congrArg List.length hxs;simp at this;omega)).mono ?_;rintro e w5 ⟨v5,rfl,hrow5,hex5⟩)|(go_at_call 185;refine (validLibrary_no _ (L.eraseIdx i) _ (by have:=DfsRow.at hrow5;rw [map_eraseIdx',hxs] at this;exact this) hlen hoke HG2.out).mono ?_;rintro e w6 ⟨rfl,hb6⟩))
    go_ret2
    have hb4':=hb3'.trans (hb4.mono hb3'.size)
    have hb5':Below w.heap.size w4 w5:=exc_below hex5 hb4'.size (fun k hk=>by have:=(World.ownsRow.lt hrow.1 k hk).1;have:=hb3'.size;omega)
    have hbf:=(hb4'.trans hb5').trans (hb6.mono (by have:=hb4'.size;have:=hex5.size;omega))
    exact ⟨_,by rw [HA.out,HO.out];rfl,by rw [HA.out,HO.out];exact dfsOwn_nil _ _,hbf⟩
   ·have HO:Hid (okL (L.eraseIdx i)=some (L.eraseIdx i)):=(show okL _=some _ by unfold okL;rw [hg2];rfl)
    have HG2:=Lib.hid hg2
    clear hg2
    go_enter Tryz.func141,Tryz.ntmps141
    go_wp2_with (first|(go_at_call 71;refine (indexOf_any _ L _ _ hv hn).mono ?_;rintro e w2 ⟨rfl,hb2⟩;rw [HF.out])|(go_at_call 68;refine (isLibrary_any _ L _ (hv.keep hb2) hn hs).mono ?_;rintro e w3 ⟨rfl,hb3⟩;rw [HG.out];have hb3':=hb2.trans (hb3.mono hb2.size))|(go_at_call 186;refine (copyLibrary_any _ L _ (hv.keep hb3') hn (fun x hx=>(hs x hx).2.2)).mono ?_;rintro e w4 ⟨v4,rfl,⟨xs,hxs,hrow⟩,hb4⟩)|(go_at_call 190;refine (deleteDef_any _ xs i w3.heap.size _ hrow (by have:=congrArg List.length hxs;simp at this;omega) (by have:=congrArg List.length hxs;simp at this;omega)).mono ?_;rintro e w5 ⟨v5,rfl,hrow5,hex5⟩)|(go_at_call 185;refine (validLibrary_yes _ (L.eraseIdx i) _ (by have:=DfsRow.at hrow5;rw [map_eraseIdx',hxs] at this;exact this) hlen hoke HG2.out).mono ?_;rintro e w6 ⟨rfl,hb6⟩))
    go_ret2
    have hb4':=hb3'.trans (hb4.mono hb3'.size)
    have hb5':Below w.heap.size w4 w5:=exc_below hex5 hb4'.size (fun k hk=>by have:=(World.ownsRow.lt hrow.1 k hk).1;have:=hb3'.size;omega)
    have hbf:=(hb4'.trans hb5').trans (hb6.mono (by have:=hb4'.size;have:=hex5.size;omega))
    refine ⟨_,by rw [HA.out,HO.out];rfl,?_,hbf⟩
    rw [HA.out,HO.out]
    have:=((hrow5.mono hb3'.size).keep hb6).own
    rw [map_eraseIdx',hxs] at this
    exact this
end Go.Proofs.YtldhpaflmnlcaaaGreatDoor
/-
  The program's RenameDef. Own work.
-/
namespace Go.Proofs.YtldhpaflmnlcaaaGreatDoor
open Go.RowKit
theorem str_eq_true {a b:ByteArray} (h:a=b):(a.toList == b.toList)=true:=by rw [str_beq];simp [h]
theorem str_eq_false {a b:ByteArray} (h:a ≠ b):(a.toList == b.toList)=false:=by rw [str_beq];simp [h]
theorem renD_ok {L:List Df} {a b:ByteArray} (h:∀ x ∈ L,DfOk x) (hb:b.size≤1048576):∀ x ∈ L.map (renD a b),DfOk x:=by
 intro x hx
 obtain ⟨d,hd,rfl⟩:=List.mem_map.1 hx
 obtain ⟨h1,h2,h3⟩:=h d hd
 refine ⟨?_,?_,by simpa [renD] using h3⟩
 ·simp only [renD];split;exact hb;exact h1
 ·intro n hn
  simp only [renD,List.mem_map] at hn
  obtain ⟨m,hm,rfl⟩:=hn
  unfold renN
  split
  ·exact hb
  ·exact h2 m hm
theorem implRenameDef_any (v:Value) (L:List Df) (s t:ByteArray) (w:World) (hv:DfsAt w v L) (hn:L.length≤1048576) (hs:∀ x ∈ L,DfOk x) (ht:t.size≤1048576) :
  Calls Tryz.prog 146 #[v,.string s,.string t] w (LibPost (renL L s t) w):=by
 obtain ⟨a,cap,rfl⟩:∃ a cap,v=.slice a L.length cap:=by obtain ⟨a,cap,rfl,_⟩:=hv;exact ⟨a,cap,rfl⟩
 have hff:=findFrom_cases s L 0
 cases hg:good L
 ·have HA:Hid (renL L s t=none):=(show renL L s t=none by simp [renL,hg])
  have HG:=Lib.hid hg
  clear hg hff
  go_enter Tryz.func146,Tryz.ntmps146
  go_wp2_with (first|(go_at_call 68;refine (isLibrary_any _ L _ hv hn hs).mono ?_;rintro e w3 ⟨rfl,hb3⟩;rw [HG.out]))
  go_ret2
  exact ⟨_,by rw [HA.out];rfl,by rw [HA.out];exact dfsOwn_nil _ _,hb3⟩
 ·rcases hff with ⟨f1,f2⟩|⟨i0,hi0,f1,f2⟩
  ·have HA:Hid (renL L s t=none):=(show renL L s t=none by simp [renL,f1])
   have HG:=Lib.hid hg
   have HF:=Lib.hid f1
   clear hg f1 f2
   go_enter Tryz.func146,Tryz.ntmps146
   go_wp2_with (first|(go_at_call 71;refine (indexOf_any _ L _ _ (hv.keep hb3) hn).mono ?_;rintro e w2 ⟨rfl,hb2⟩;rw [HF.out])|(go_at_call 68;refine (isLibrary_any _ L _ hv hn hs).mono ?_;rintro e w3 ⟨rfl,hb3⟩;rw [HG.out]))
   go_ret2
   exact ⟨_,by rw [HA.out];rfl,by rw [HA.out];exact dfsOwn_nil _ _,hb3.trans (hb2.mono hb3.size)⟩
  ·rw [Nat.zero_add] at f1
   have HA:Hid (renL L s t=okL (L.map (renD s t))):=(show renL L s t=_ by simp [renL,f1,hg])
   have hokm:=renD_ok (a:=s) hs ht
   have hlm:(L.map (renD s t)).length≤1048576:=by simpa using hn
   have HG:=Lib.hid hg
   have HF:=Lib.hid f1
   have gi:¬ ((i0:Int)<0):=by omega
   clear hg f1 f2
   go_enter Tryz.func146,Tryz.ntmps146
   go_wp2_with (first|(go_at_call 71;refine (indexOf_any _ L _ _ (hv.keep hb3) hn).mono ?_;rintro e w2 ⟨rfl,hb2⟩;rw [HF.out];have hb2':=hb3.trans (hb2.mono hb3.size))|(go_at_call 68;refine (isLibrary_any _ L _ hv hn hs).mono ?_;rintro e w3 ⟨rfl,hb3⟩;rw [HG.out])|(go_at_call 186;refine (copyLibrary_any _ L _ (hv.keep hb2') hn (fun x hx=>(hs x hx).2.2)).mono ?_;rintro e w4 ⟨v4,rfl,⟨xs,hxs,hrow0⟩,hb4⟩;have hxl:=congrArg List.length hxs;simp only [List.length_map] at hxl;obtain ⟨a4,c4,rfl⟩:=DfsRow.shape hrow0 L.length hxl;have hbel4:Below w.heap.size w w4:=hb2'.trans (hb4.mono hb2'.size)))
   have HX:=Lib.hid hxs
   have HXL:=Lib.hid hxl
   have hzw2:=hb2'.size
   clear hxs hxl
   go_loopw [25] (fun kv wr=>∃ k:Nat,k≤L.length∧kv=.int .i64 k∧DfsRow wr w2.heap.size (.slice a4 L.length c4) (renS s t xs k)∧Below w.heap.size w wr) (fun kv _=>L.length - (intOf kv).toNat)
   case atStart=>exact ⟨0,by omega,rfl,by rw [renS_zero];exact hrow0,hbel4⟩
   case round =>
    obtain ⟨k,hk,rfl,hrow,hbel⟩:=hrel
    by_cases hlt:k<L.length
    ·have hkx:k<xs.length:=by rw [HXL.out];exact hlt
     have hr1:=hrow.1
     rw [renS_length,HXL.out] at hr1
     obtain ⟨g,cp,he,hgc,hgm,hgB,hgs⟩:=owns_some' hr1 (by omega)
     simp only [Value.slice.injEq] at he
     obtain ⟨rfl,_,rfl⟩:=he
     obtain ⟨d0,d1,d2,d3,q0,q1,q2,q3⟩:=df_old hr1 k (by rw [renS_length];exact hkx)
     rw [renS_get xs k hkx] at d0 d1 d2 d3
     have hbd:=hrow.2.1 _ (List.getElem_mem (by rw [renS_length];exact hkx:k<(renS s t xs k).length))
     rw [renS_get xs k hkx] at hbd
     obtain ⟨va,vc,hvs⟩:=hbd.slice
     rw [hvs] at d3
     have hbl:xs[k].1.body.length≤1048576:=by
      have:xs[k].1 ∈ L:=by rw [← HX.out];exact List.mem_map_of_mem (List.getElem_mem _)
      exact (hs _ this).2.2
     have HV:=Lib.hid hvs
     clear hvs
     by_cases hnm:xs[k].1.name=s
     ·have hrow1:DfsRow (wr.setCell ⟨g,k * 4,none⟩ (.string t)) w2.heap.size (.slice (some ⟨g,0,none⟩) L.length c4) (renC s t xs k 0 hkx):=by
       have h1:=hrow.setName (by rw [renS_length,HXL.out]) (by rw [renS_length];exact hkx:k<(renS s t xs k).length) t
       rw [renS_get xs k hkx] at h1
       rw [renC_named xs k hkx hnm]
       exact h1
      have hbel1:Below w.heap.size w (wr.setCell ⟨g,k * 4,none⟩ (.string t)):=hbel.setCell (by show w.heap.size≤g;omega) _
      have hgt:=str_eq_true hnm
      clear hnm
      go_wp2_with fail
      generalize wr.setCell ⟨g,k * 4,none⟩ (.string t)=W at hrow1 hbel1
      go_loopw [47] (fun qv W=>∃ q:Nat,q≤xs[k].1.body.length∧qv=.int .i64 q∧DfsRow W w2.heap.size (.slice (some ⟨g,0,none⟩) L.length c4) (renC s t xs k q hkx)∧Below w.heap.size w W) (fun qv _=>xs[k].1.body.length - (intOf qv).toNat)
      case atStart=>exact ⟨0,by omega,rfl,hrow1,hbel1⟩
      case round =>
       clear hrow1 hbel1 hbd hrow hr1 d0 d1 d2 d3 q0 q1 q2 q3 hbel hgs
       obtain ⟨q,hq,rfl,hrw,hbw⟩:=hrel
       have hr2:=hrw.1
       rw [renC_length,HXL.out] at hr2
       have hgz:=(World.ownsRow.lt hr2 g rfl).2
       obtain ⟨e0,e1,e2,e3,p0,p1,p2,p3⟩:=df_old hr2 k (by rw [renC_length];exact hkx)
       rw [renC_get xs k q hkx] at e0 e1 e2 e3
       simp only [HV.out] at e3
       by_cases hqt:q<xs[k].1.body.length
       ·obtain ⟨gb,hgb⟩:∃ gb,va=some ⟨gb,0,none⟩:=by
         have hb2:=hrw.2.1 _ (List.getElem_mem (by rw [renC_length];exact hkx:k<(renC s t xs k q hkx).length))
         rw [renC_get xs k q hkx] at hb2
         simp only [HV.out] at hb2
         rcases hb2.2 with ⟨h1,h2⟩|⟨gb,cap',cur,h1,_⟩
         ·rw [renB_length] at h2;omega
         ·simp only [Value.slice.injEq] at h1;exact ⟨gb,h1.1⟩
        subst hgb
        obtain ⟨c0,c1,c2,cf,cz,czB⟩:=renC_cells hkx hrw HV.out hqt
        by_cases hN:xs[k].1.body[q].kind=17∧xs[k].1.body[q].name=s
        ·have hst:=renC_step (b:=t) hkx hrw HV.out hqt hN
         have t1:(xs[k].1.body[q].kind == 17)=true:=by simp [hN.1]
         have t2:=str_eq_true hN.2
         clear hN
         go_wp2
         go_roundw
         case rel=>exact ⟨q+1,by omega,by go_num,hst.keep (alloc_below _ _),(hbw.setCell (by show w.heap.size≤gb;omega) _).alloc (by simp;exact hbw.size) _⟩
         case measure=>simp [intOf];omega
        ·have hsame:=renC_same (b:=t) xs k q hkx hqt (by unfold renN;rw [if_neg hN])
         have hN':(xs[k].1.body[q].kind == 17)=false∨((xs[k].1.body[q].kind == 17)=true∧(xs[k].1.body[q].name.toList == s.toList)=false):=by
          by_cases h17:xs[k].1.body[q].kind=17
          ·exact .inr ⟨by simp [h17],str_eq_false (fun e=>hN ⟨h17,e⟩)⟩
          ·exact .inl (by simp [h17])
         rw [← hsame] at hrw
         clear hN hsame
         rcases hN' with t1|⟨t1,t2⟩
         all_goals
          go_wp2
          go_roundw
          case rel=>exact ⟨q+1,by omega,by go_num,hrw.keep (alloc_below _ _),hbw.alloc hbw.size _⟩
          case measure=>simp [intOf];omega
       ·have hqe:q=xs[k].1.body.length:=by omega
        subst hqe
        rw [renS_step] at hrw
        clear e0 e1 e2 e3 p0 p1 p2 p3 hr2
        go_wp2
        go_roundw
        case rel=>exact ⟨k+1,by omega,by go_num,hrw,hbw⟩
        case measure=>simp [intOf];omega
     ·have hrow1:DfsRow wr w2.heap.size (.slice (some ⟨g,0,none⟩) L.length c4) (renC s t xs k 0 hkx):=by
       rw [renC_first xs k hkx hnm]
       exact hrow
      have hbel1:Below w.heap.size w wr:=hbel
      have hgt:=str_eq_false hnm
      clear hnm
      go_wp2_with fail
      go_loopw [47] (fun qv W=>∃ q:Nat,q≤xs[k].1.body.length∧qv=.int .i64 q∧DfsRow W w2.heap.size (.slice (some ⟨g,0,none⟩) L.length c4) (renC s t xs k q hkx)∧Below w.heap.size w W) (fun qv _=>xs[k].1.body.length - (intOf qv).toNat)
      case atStart=>exact ⟨0,by omega,rfl,hrow1,hbel1⟩
      case round =>
       clear hrow1 hbel1 hbd hrow hr1 d0 d1 d2 d3 q0 q1 q2 q3 hbel hgs
       obtain ⟨q,hq,rfl,hrw,hbw⟩:=hrel
       have hr2:=hrw.1
       rw [renC_length,HXL.out] at hr2
       have hgz:=(World.ownsRow.lt hr2 g rfl).2
       obtain ⟨e0,e1,e2,e3,p0,p1,p2,p3⟩:=df_old hr2 k (by rw [renC_length];exact hkx)
       rw [renC_get xs k q hkx] at e0 e1 e2 e3
       simp only [HV.out] at e3
       by_cases hqt:q<xs[k].1.body.length
       ·obtain ⟨gb,hgb⟩:∃ gb,va=some ⟨gb,0,none⟩:=by
         have hb2:=hrw.2.1 _ (List.getElem_mem (by rw [renC_length];exact hkx:k<(renC s t xs k q hkx).length))
         rw [renC_get xs k q hkx] at hb2
         simp only [HV.out] at hb2
         rcases hb2.2 with ⟨h1,h2⟩|⟨gb,cap',cur,h1,_⟩
         ·rw [renB_length] at h2;omega
         ·simp only [Value.slice.injEq] at h1;exact ⟨gb,h1.1⟩
        subst hgb
        obtain ⟨c0,c1,c2,cf,cz,czB⟩:=renC_cells hkx hrw HV.out hqt
        by_cases hN:xs[k].1.body[q].kind=17∧xs[k].1.body[q].name=s
        ·have hst:=renC_step (b:=t) hkx hrw HV.out hqt hN
         have t1:(xs[k].1.body[q].kind == 17)=true:=by simp [hN.1]
         have t2:=str_eq_true hN.2
         clear hN
         go_wp2
         go_roundw
         case rel=>exact ⟨q+1,by omega,by go_num,hst.keep (alloc_below _ _),(hbw.setCell (by show w.heap.size≤gb;omega) _).alloc (by simp;exact hbw.size) _⟩
         case measure=>simp [intOf];omega
        ·have hsame:=renC_same (b:=t) xs k q hkx hqt (by unfold renN;rw [if_neg hN])
         have hN':(xs[k].1.body[q].kind == 17)=false∨((xs[k].1.body[q].kind == 17)=true∧(xs[k].1.body[q].name.toList == s.toList)=false):=by
          by_cases h17:xs[k].1.body[q].kind=17
          ·exact .inr ⟨by simp [h17],str_eq_false (fun e=>hN ⟨h17,e⟩)⟩
          ·exact .inl (by simp [h17])
         rw [← hsame] at hrw
         clear hN hsame
         rcases hN' with t1|⟨t1,t2⟩
         all_goals
          go_wp2
          go_roundw
          case rel=>exact ⟨q+1,by omega,by go_num,hrw.keep (alloc_below _ _),hbw.alloc hbw.size _⟩
          case measure=>simp [intOf];omega
       ·have hqe:q=xs[k].1.body.length:=by omega
        subst hqe
        rw [renS_step] at hrw
        clear e0 e1 e2 e3 p0 p1 p2 p3 hr2
        go_wp2
        go_roundw
        case rel=>exact ⟨k+1,by omega,by go_num,hrw,hbw⟩
        case measure=>simp [intOf];omega
    ·have hke:k=xs.length:=by rw [HXL.out];omega
     subst hke
     have hdone:=hrow.at
     rw [renS_all,HX.out] at hdone
     have hown:=hrow.own
     rw [renS_all,HX.out] at hown
     cases hg2:good (L.map (renD s t))
     ·have HO:Hid (okL (L.map (renD s t))=none):=(show okL _=none by unfold okL;rw [hg2];rfl)
      have HG2:=Lib.hid hg2
      clear hg2
      go_wp2_with (go_at_call 185;refine (validLibrary_no _ (L.map (renD s t)) _ hdone hlm hokm HG2.out).mono ?_;rintro e w6 ⟨rfl,hb6⟩)
      go_ret2
      exact ⟨_,by rw [HA.out,HO.out];rfl,by rw [HA.out,HO.out];exact dfsOwn_nil _ _,hbel.trans (hb6.mono hbel.size)⟩
     ·have HO:Hid (okL (L.map (renD s t))=some (L.map (renD s t))):=(show okL _=some _ by unfold okL;rw [hg2];rfl)
      have HG2:=Lib.hid hg2
      clear hg2
      go_wp2_with (go_at_call 185;refine (validLibrary_yes _ (L.map (renD s t)) _ hdone hlm hokm HG2.out).mono ?_;rintro e w6 ⟨rfl,hb6⟩)
      go_ret2
      refine ⟨_,by rw [HA.out,HO.out];rfl,?_,hbel.trans (hb6.mono hbel.size)⟩
      rw [HA.out,HO.out]
      exact (hown.mono hzw2).keep hb6
end Go.Proofs.YtldhpaflmnlcaaaGreatDoor
/-
  An entry's definition, and the program's ApplyEntry. Own work.
-/
namespace Go.Proofs.YtldhpaflmnlcaaaGreatDoor
open Go.RowKit
theorem definition_any (v vb:Value) (L:List Df) (e:En) (w:World) (hv:DfsAt w v L) (hn:L.length≤1048576) (hs:∀ x ∈ L,DfOk x) (hg:good L=true) (hvb:NdsAt w vb e.body) (he:EnOk e) :
  Calls Tryz.prog 135 #[.agg #[.int .i64 e.kind,.string e.name,.string e.to,vb],v] w fun r w'=>∃ x:W2,r=.returned (.agg #[.string e.name,.int .i64 x.1,.int .i64 x.2,vb])∧(∀ t,typedL (leafIn L) e.body=some t → x=t)∧Below w.heap.size w w':=by
 obtain ⟨a,cap,rfl⟩:∃ a cap,v=.slice a L.length cap:=by obtain ⟨a,cap,rfl,_⟩:=hv;exact ⟨a,cap,rfl⟩
 obtain ⟨ab,cb,rfl⟩:=hvb.slice
 have hgg:goodGo [] L=true:=by simp only [good,Bool.and_eq_true] at hg;exact hg.2
 have hsm:=good_sm hgg
 have huq:=good_uniq hgg
 clear hg hgg
 go_enter Tryz.func135,Tryz.ntmps135
 go_wp2_with fail
 have b2:Below w.heap.size w ((w.alloc (.cells #[.int .i64 e.kind,.string e.name,.string e.to,.slice ab e.body.length cb] 54)).alloc (.cells #[.string ⟨#[]⟩,.int .i64 0,.int .i64 0,.slice none 0 0] 28)):=((Below.refl _ _).alloc (Nat.le_refl _) _).alloc (by simp) _
 refine region_acts (C:=Exc (NoT) _) 2 [0,1,2,3,4,5,6,7,8,9,10,11] (by kernel_rfl) (by kernel_rfl) (Exc.grows _ _) (Exc.refl _ _) ?_
 have up:∀ {w':World},Exc NoT (((w.alloc (.cells #[.int .i64 e.kind,.string e.name,.string e.to,.slice ab e.body.length cb] 54)).alloc (.cells #[.string ⟨#[]⟩,.int .i64 0,.int .i64 0,.slice none 0 0] 28)).drew) w' → Below w.heap.size w w':=fun h=>b2.trans (Below.mono (B:=w.heap.size+1+1) ((Below.refl (w.heap.size+1+1) _).drew.trans (h.toBelow.mono (by simp))) (by omega))
 iterate 4 (apply x_st rfl rfl rfl;(focus intro u hc' hf';go_simp <;> rfl);intro K hK;go_simp;apply hK;clear hK K)
 refine x_call rfl rfl rfl (Exc.grows _ _) (Exc.refl _ _) 108 (fun K hK=>?_);apply Exists.intro;refine ⟨fun w' hw'=>?_,fun wa hwa hbwa=>?_⟩;(focus go_simp;rfl);refine (typingIn_any _ L _ (hv.keep (up hwa)) hn (fun d hd=>(hs d hd).1)).mono ?_;rintro e w3 ⟨bc,rfl,ht3,hbc,hb3⟩;refine ⟨_,rfl,hb3,fun hx=>?_⟩;go_simp;apply hK;clear hK K
 refine x_call rfl rfl rfl (Exc.grows _ _) (hx) 107 (fun K hK=>?_);apply Exists.intro;refine ⟨fun w' hw'=>?_,fun wb hwb hbwb=>?_⟩;(focus go_simp;rfl);refine (typed_any _ e.body L bc _ (hvb.keep (up hwb)) (ht3.keep hbwb) he.2.2.2 he.2.2.1 hsm).mono ?_;rintro e w4 ⟨x,rfl,hx4,hb4⟩;refine ⟨_,rfl,hb4,fun hx=>?_⟩;go_simp;apply hK;clear hK K
 rw [typedL_uniq huq] at *
 iterate 3 (apply x_st rfl rfl rfl;(focus intro u hc' hf';go_simp <;> rfl);intro K hK;go_simp;apply hK;clear hK K)
 refine x_make rfl rfl rfl (Exc.grows _ _) (hx) (fun b=>.pointer (some ⟨b,0,none⟩)) (fun K hK=>?_)
 apply Exists.intro
 refine ⟨fun w' hw'=>?_,fun bb w5 hw5 hb5 hbo hNb hnb=>?_⟩
 ·obtain ⟨hc',hf'⟩:=hw'.cell
  try simp only [World.size_drew] at hc' hf'
  go_simp
  rfl
 go_simp
 refine hK _ _ _ ?_
 clear hK K
 refine x_do rfl rfl rfl (Exc.grows _ _) hw5 (fun K hK=>?_)
 intro w6 hw6 hb6
 obtain ⟨m0,m1,m2⟩:=made_cell ((hb6.block bb (made_cell hbo).2.2).trans hbo)
 refine ⟨(w6.setCell ⟨bb,0,none⟩ (.int .i64 x.1)).setCell ⟨bb,1,none⟩ (.int .i64 x.2),?_,⟨exc_set (exc_set hw6 (.inl hNb) _) (.inl hNb) _,by simp,fun j _ hj _=>by rw [Below.heap_setCell _ _ _ _ (fun h=>hj (by simp [h])),Below.heap_setCell _ _ _ _ (fun h=>hj (by simp [h]))]⟩,?_⟩
 ·go_simp
 go_simp
 refine hK _ _ _ ?_
 clear hK K
 iterate 1 (apply x_st rfl rfl rfl;(focus intro u hc' hf';go_simp <;> rfl);intro K hK;go_simp;apply hK;clear hK K)
 refine x_nil ?_
 have hbb:w.heap.size+1+1≤bb:=by simpa using hNb
 have hw6':Below (w.heap.size+1+1) ((w.alloc (.cells #[.int .i64 e.kind,.string e.name,.string e.to,.slice ab e.body.length cb] 54)).alloc (.cells #[.string ⟨#[]⟩,.int .i64 0,.int .i64 0,.slice none 0 0] 28)) w6:=(Below.refl (w.heap.size+1+1) _).drew.trans (hw6.toBelow.mono (by simp))
 generalize hW:(w6.setCell ⟨bb,0,none⟩ (.int .i64 x.1)).setCell ⟨bb,1,none⟩ (.int .i64 x.2)=W
 have hbW:Below (w.heap.size+1+1) ((w.alloc (.cells #[.int .i64 e.kind,.string e.name,.string e.to,.slice ab e.body.length cb] 54)).alloc (.cells #[.string ⟨#[]⟩,.int .i64 0,.int .i64 0,.slice none 0 0] 28)) W:=by
  rw [← hW];exact (hw6'.setCell hbb _).setCell hbb _
 have n0:W.cell? ⟨bb,0,none⟩=some (.int .i64 x.1):=by rw [← hW];clear hW;go_simp
 have n1:W.cell? ⟨bb,1,none⟩=some (.int .i64 x.2):=by rw [← hW];clear hW;go_simp
 have e1:W.cell? ⟨w.heap.size,1,none⟩=some (.string e.name):=by rw [hbW.cell (p:=⟨w.heap.size,1,none⟩) (by simp;omega)];go_simp
 have e3:W.cell? ⟨w.heap.size,3,none⟩=some (.slice ab e.body.length cb):=by rw [hbW.cell (p:=⟨w.heap.size,3,none⟩) (by simp;omega)];go_simp
 have r0:W.cell? ⟨w.heap.size+1,0,none⟩=some (.string ⟨#[]⟩):=by rw [hbW.cell (p:=⟨w.heap.size+1,0,none⟩) (by simp)];go_simp
 have r1:W.cell? ⟨w.heap.size+1,1,none⟩=some (.int .i64 0):=by rw [hbW.cell (p:=⟨w.heap.size+1,1,none⟩) (by simp)];go_simp
 have r2:W.cell? ⟨w.heap.size+1,2,none⟩=some (.int .i64 0):=by rw [hbW.cell (p:=⟨w.heap.size+1,2,none⟩) (by simp)];go_simp
 have r3:W.cell? ⟨w.heap.size+1,3,none⟩=some (.slice none 0 0):=by rw [hbW.cell (p:=⟨w.heap.size+1,3,none⟩) (by simp)];go_simp
 have rf:∀ j,W.frozen? ⟨w.heap.size+1,j,none⟩=false:=fun j=>by rw [hbW.frozen (p:=⟨w.heap.size+1,j,none⟩) (by simp)];go_simp
 have hbw':Below w.heap.size w W:=(((Below.refl _ _).alloc (Nat.le_refl _) _).alloc (by simp) _).trans (hbW.mono (by omega))
 clear hW hw6' hw6 hb6 hw5 hb5 hbo hNb hnb hx hb3 hwa hbwa m0 m1 m2 hbW up b2 ht3 hbc hb4 hwb hbwb
 go_wp2
 exact bodyPost_ret (v:=.agg #[.string e.name,.int .i64 x.1,.int .i64 x.2,.slice ab e.body.length cb]) (by simp [results,Tryz.results135,go_sem,r0,r1,r2,r3]) rfl ⟨x,rfl,hx4,(((hbw'.setCell (by simp) _).setCell (by simp) _).setCell (by simp) _).setCell (by simp) _⟩
end Go.Proofs.YtldhpaflmnlcaaaGreatDoor
