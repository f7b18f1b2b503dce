/-
  The walk of isLibrary. Own work.
-/
import Derived.Test.YtikgblkfmpecfaaGreatDoorKF
import Derived.Test.YtikgblkfmpecfaaGreatDoorKA
import Derived.Test.YtikgblkfmpecfaaGreatDoorKB
import Derived.Test.YtikgblkfmpecfaaGreatDoorKC
import Derived.WalkSpells
set_option linter.all false
set_option maxRecDepth 100000
set_option maxHeartbeats 8000000
namespace Go.Proofs.YtikgblkfmpecfaaGreatDoor
open Go.RowKit
theorem dfs_take {w:World} {a:Option Addr} {n cap:Nat} {L:List Df} (h:DfsAt w (.slice a n cap) L) (k:Nat) (hk:k≤L.length):DfsAt w (.slice a k cap) (L.take k):=by
 obtain ⟨a',cap',he,hc,hat⟩:=h
 simp only [Value.slice.injEq] at he
 obtain ⟨rfl,rfl,rfl⟩:=he
 have hl:(L.take k).length=k:=by rw [List.length_take];omega
 refine ⟨a,cap,by rw [hl],by omega,?_⟩
 intro i hi
 rw [hl] at hi
 obtain ⟨b,o,h1,h2,h3⟩:=hat i (by omega)
 refine ⟨b,o,h1,by omega,?_⟩
 rw [List.getElem_take]
 exact h3
theorem isLibrary_any (v:Value) (L:List Df) (w:World) (hv:DfsAt w v L) (hn:L.length≤1048576) (hs:∀ d ∈ L,DfOk d) :
  Calls Tryz.prog 46 #[v] w fun e w'=>e=.returned (.bool (good L))∧Below w.heap.size w w':=by
 have hv0:=hv
 obtain ⟨a,cap,rfl,hc,hat⟩:=hv
 by_cases hl:L.length≤12
 ·go_enter Tryz.func46,Tryz.ntmps46
  go_wp2
  go_loopw [12] (fun i wr=>∃ k:Nat,k≤L.length∧i=.int .i64 k∧Hid (goodGo [] (L.take k)=true)∧Hid (good L=goodGo (L.take k) (L.drop k))∧Below w.heap.size w wr) (fun i _=>L.length - (intOf i).toNat)
  case atStart=>exact ⟨0,by omega,rfl,(by simp [Hid,goodGo]:Hid (goodGo [] (L.take 0)=true)),(by simp [Hid,good,hl]:Hid (good L=goodGo (L.take 0) (L.drop 0))),Below.refl _ _⟩
  case round =>
   obtain ⟨k,hk,rfl,HG,HF,hbel⟩:=hrel
   by_cases hlt:k<L.length
   ·have hvk:=dfs_take (hv0.keep hbel) k hk
    obtain ⟨b,o,rfl,_,hnd⟩:=hat k hlt
    obtain ⟨c0,c1,c2,vb,c3,hvb⟩:=hnd.keep hbel
    obtain ⟨va,vc,rfl⟩:=hvb.slice
    have hsz:=hbel.size
    have hok:=hs L[k] (List.getElem_mem _)
    have hnm:∀ d ∈ L.take k,d.name.size≤1048576:=fun d hd=>(hs d (List.mem_of_mem_take hd)).1
    have hsm:=good_sm HG.out
    have huq:=good_uniq HG.out
    have htl:(L.take k).length≤1048576:=by rw [List.length_take];omega
    have hkc:k≤cap:=by omega
    clear hat hnd hs
    go_wp2_with fail
    refine region_acts (C:=Exc (NoT) _) 2 [0,1,2,3,4,5,6,7,8,9,10,11,12,13] (by kernel_rfl) (by kernel_rfl) (Exc.grows _ _) (Exc.refl _ _) ?_
    iterate 6 (apply x_st rfl rfl rfl;(focus intro u hc' hf';go_simp <;> rfl);intro K hK;go_simp;apply hK;clear hK K)
    have up:∀ {o:Obj} {w':World},Exc NoT (wr.alloc o).drew w' → Below wr.heap.size wr w':=fun h=>(((Below.refl _ _).alloc (Nat.le_refl _) _).drew).trans (h.toBelow.mono (by simp))
    refine x_call rfl rfl rfl (Exc.grows _ _) (Exc.refl _ _) 82 (fun K hK=>?_);apply Exists.intro;refine ⟨fun w' hw'=>?_,fun w' hw' hbw=>?_⟩;(focus go_simp;rfl);refine (typingIn_any _ (L.take k) _ (hvk.keep (up hw')) htl hnm).mono ?_;rintro e w3 ⟨bc,rfl,ht3,hbc,hb3⟩;refine ⟨_,rfl,hb3,fun hx=>?_⟩;go_simp;apply hK;clear hK K
    refine x_call rfl rfl rfl (Exc.grows _ _) (hx) 81 (fun K hK=>?_);apply Exists.intro;refine ⟨fun w' hw'=>?_,fun w' hw' hbw=>?_⟩;(focus go_simp;rfl);refine (typed_any _ L[k].body (L.take k) bc _ (hvb.keep (up hw')) (ht3.keep hbw) hok.2.2 hok.2.1 hsm).mono ?_;rintro e w4 ⟨x,rfl,hx4,hb4⟩;refine ⟨_,rfl,hb4,fun hx=>?_⟩;go_simp;apply hK;clear hK K
    rw [typedL_uniq huq] at *
    iterate 3 (apply x_st rfl rfl rfl;(focus intro u hc' hf';go_simp <;> rfl);intro K hK;go_simp;apply hK;clear hK K)
    refine x_make rfl rfl rfl (Exc.grows _ _) hx (fun b=>.pointer (some ⟨b,0,none⟩)) (fun K hK=>?_)
    apply Exists.intro
    refine ⟨fun w' hw'=>?_,fun bb w5 hw5 hb5 hbo hNb hnb=>?_⟩
    ·go_simp
     rfl
    go_simp
    refine hK _ _ _ ?_
    clear hK K
    refine x_do rfl rfl rfl (Exc.grows _ _) hw5 (fun K hK=>?_)
    intro w6 hw6 hb6
    obtain ⟨m0,m1,m2⟩:=made_cell ((hb6.block bb (made_cell hbo).2.2).trans hbo)
    refine ⟨(w6.setCell ⟨bb,0,none⟩ (.int .i64 x.1)).setCell ⟨bb,1,none⟩ (.int .i64 x.2),?_,⟨exc_set (exc_set hw6 (.inl hNb) _) (.inl hNb) _,by simp,fun j _ hj _=>by rw [Below.heap_setCell _ _ _ _ (fun h=>hj (by simp [h])),Below.heap_setCell _ _ _ _ (fun h=>hj (by simp [h]))]⟩,?_⟩
    ·go_simp
    go_simp
    refine hK _ _ _ ?_
    clear hK K
    iterate 1 (apply x_st rfl rfl rfl;(focus intro u hc' hf';go_simp <;> rfl);intro K hK;go_simp;apply hK;clear hK K)
    refine x_nil ?_
    have hbb:wr.heap.size<bb:=by simp at hNb;omega
    obtain ⟨hc7,hf7,hs7⟩:=bcell hw6.toBelow
    simp only [World.size_alloc,World.drew] at hs7
    have hgt:¬ bb=wr.heap.size:=by omega
    generalize hW:(w6.setCell ⟨bb,0,none⟩ (.int .i64 x.1)).setCell ⟨bb,1,none⟩ (.int .i64 x.2)=W
    have n0:W.cell? ⟨bb,0,none⟩=some (.int .i64 x.1):=by rw [← hW];clear hW;go_simp
    have n1:W.cell? ⟨bb,1,none⟩=some (.int .i64 x.2):=by rw [← hW];clear hW;go_simp
    have e0:W.cell? ⟨wr.heap.size,0,none⟩=some (.string L[k].name):=by rw [← hW];clear hW;go_simp
    have e1:W.cell? ⟨wr.heap.size,1,none⟩=some (.int .i64 L[k].inn):=by rw [← hW];clear hW;go_simp
    have e2:W.cell? ⟨wr.heap.size,2,none⟩=some (.int .i64 L[k].out):=by rw [← hW];clear hW;go_simp
    have hbW:Below wr.heap.size wr W:=by rw [← hW];exact (((up hw6).setCell (by simp;omega) _).setCell (by simp;omega) _)
    have hsW:bb<W.heap.size:=by rw [← hW];simpa using m2
    have hsW2:wr.heap.size<W.heap.size:=by omega
    clear hW hc7 hf7 hs7 m0 m1 m2 hw6 hb6 hw5 hb5 hbo hNb hnb hx hb4 ht3 hb3
    have hag:goodAt (L.take k) L[k]=(decide (typedL (leafIn (L.take k)) L[k].body=some (L[k].inn,L[k].out)) && nameB L[k].name && (findD (L.take k) L[k].name).isNone):=rfl
    have hfn:=findFrom_neg L[k].name (L.take k)
    have hgo:good L=(goodAt (L.take k) L[k] && goodGo (L.take (k+1)) (L.drop (k+1))):=by
     rw [HF.out,List.drop_eq_getElem_cons hlt,goodGo,List.take_succ_eq_append_getElem hlt]
    have hgg:goodGo [] (L.take (k+1))=goodAt (L.take k) L[k]:=by
     rw [List.take_succ_eq_append_getElem hlt,goodGo_append,HG.out];simp [goodGo]
    cases hR:typedL (leafIn (L.take k)) L[k].body with
    | none =>
     have HT:Hid (good L=false):=(show good L=false by rw [hgo,hag,hR];simp)
     clear hag hfn hgo hgg hR
     go_wp2_with fail
     refine region_acts (C:=Exc (NoT) _) 2 [0,1,2,3,4,5,6,7,8,9,10,11,12,13,14,15,16,17,18,19,20,21,22,23,24,25] (by kernel_rfl) (by kernel_rfl) (Exc.grows _ _) (Exc.refl _ _) ?_
     iterate 3 (apply x_st rfl rfl rfl;(focus intro u hc' hf';go_simp <;> rfl);intro K hK;go_simp;apply hK;clear hK K)
     iterate 7 (refine x_skip rfl fun K hK=>⟨by first|rfl|(simp [Region.wanted,yielded,go_sem]),?_⟩;go_simp;apply hK;clear hK K)
     iterate 2 (apply x_st rfl rfl rfl;(focus intro u hc' hf';go_simp <;> rfl);intro K hK;go_simp;apply hK;clear hK K)
     iterate 4 (refine x_skip rfl fun K hK=>⟨by first|rfl|(simp [Region.wanted,yielded,go_sem]),?_⟩;go_simp;apply hK;clear hK K)
     iterate 2 (apply x_st rfl rfl rfl;(focus intro u hc' hf';go_simp <;> rfl);intro K hK;go_simp;apply hK;clear hK K)
     iterate 7 (refine x_skip rfl fun K hK=>⟨by first|rfl|(simp [Region.wanted,yielded,go_sem]),?_⟩;go_simp;apply hK;clear hK K)
     iterate 1 (apply x_st rfl rfl rfl;(focus intro u hc' hf';go_simp <;> rfl);intro K hK;go_simp;apply hK;clear hK K)
     refine x_nil ?_
     go_wp2
     go_ret
     exact ⟨ret_bool HT.out.symm,hbel.trans (hbW.drew.mono (by omega))⟩
    | some t =>
     obtain rfl:=hx4 t hR
     have hWd:Below wr.heap.size wr W.drew:=hbW.drew
     have hnmk:=hok.1
     by_cases p1:x.1=L[k].inn∧x.2=L[k].out
     ·obtain ⟨p1,p2⟩:=p1
      have hdt:decide (typedL (leafIn (L.take k)) L[k].body=some (L[k].inn,L[k].out))=true:=by rw [hR];simp [← p1,← p2]
      rw [hdt] at hag
      clear hdt hR
      cases hnb:nameB L[k].name
      ·have HT:Hid (good L=false):=(show good L=false by rw [hgo,hag,hnb];simp)
       clear hag hfn hgo hgg
       go_wp2_with fail
       refine region_acts (C:=Exc (NoT) _) 2 [0,1,2,3,4,5,6,7,8,9,10,11,12,13,14,15,16,17,18,19,20,21,22,23,24,25] (by kernel_rfl) (by kernel_rfl) (Exc.grows _ _) (Exc.refl _ _) ?_
       iterate 3 (apply x_st rfl rfl rfl;(focus intro u hc' hf';go_simp <;> rfl);intro K hK;go_simp;apply hK;clear hK K)
       iterate 7 (apply x_sg rfl rfl (by first|rfl|(simp [Region.wanted,yielded,go_sem]));(focus intro u hc' hf';go_simp <;> rfl);intro K hK;go_simp;apply hK;clear hK K)
       iterate 2 (apply x_st rfl rfl rfl;(focus intro u hc' hf';go_simp <;> rfl);intro K hK;go_simp;apply hK;clear hK K)
       iterate 2 (apply x_sg rfl rfl (by first|rfl|(simp [Region.wanted,yielded,go_sem]));(focus intro u hc' hf';go_simp <;> rfl);intro K hK;go_simp;apply hK;clear hK K)
       refine x_callg rfl rfl (Exc.grows _ _) (Exc.refl _ _) 89 (fun K hK=>?_);refine ⟨by first|rfl|(simp [Region.wanted,yielded,go_sem]),?_⟩;apply Exists.intro;refine ⟨fun w' hw'=>?_,fun w' hw' hbw=>?_⟩;(focus go_simp;rfl);refine (isName_any L[k].name _ hnmk).mono ?_;rintro e w8 ⟨rfl,hb8⟩;refine ⟨_,rfl,hb8,fun hx=>?_⟩;go_simp;apply hK;clear hK K
       iterate 1 (apply x_sg rfl rfl (by first|rfl|(simp [Region.wanted,yielded,go_sem]));(focus intro u hc' hf';go_simp <;> rfl);intro K hK;go_simp;apply hK;clear hK K)
       iterate 2 (apply x_st rfl rfl rfl;(focus intro u hc' hf';go_simp <;> rfl);intro K hK;go_simp;apply hK;clear hK K)
       iterate 7 (refine x_skip rfl fun K hK=>⟨by first|rfl|(simp [Region.wanted,yielded,go_sem]),?_⟩;go_simp;apply hK;clear hK K)
       iterate 1 (apply x_st rfl rfl rfl;(focus intro u hc' hf';go_simp <;> rfl);intro K hK;go_simp;apply hK;clear hK K)
       refine x_nil ?_
       go_wp2
       go_ret
       exact ⟨ret_bool HT.out.symm,hbel.trans ((hWd.trans (hx.toBelow.mono (by simp;omega))).mono (by omega))⟩
      ·rw [hnb] at hag
       rcases findFrom_cases L[k].name (L.take k) 0 with ⟨f1,f2⟩|⟨i,hi,f1,f2⟩
       ·rw [f2] at hag
        have HG':Hid (goodGo [] (L.take (k+1))=true):=(show _ by rw [hgg,hag];rfl)
        have HF':Hid (good L=goodGo (L.take (k+1)) (L.drop (k+1))):=(show good L=_ by rw [hgo,hag];rfl)
        clear hag hfn hgo hgg f2 HF HG
        go_wp2_with fail
        refine region_acts (C:=Exc (NoT) _) 2 [0,1,2,3,4,5,6,7,8,9,10,11,12,13,14,15,16,17,18,19,20,21,22,23,24,25] (by kernel_rfl) (by kernel_rfl) (Exc.grows _ _) (Exc.refl _ _) ?_
        iterate 3 (apply x_st rfl rfl rfl;(focus intro u hc' hf';go_simp <;> rfl);intro K hK;go_simp;apply hK;clear hK K)
        iterate 7 (apply x_sg rfl rfl (by first|rfl|(simp [Region.wanted,yielded,go_sem]));(focus intro u hc' hf';go_simp <;> rfl);intro K hK;go_simp;apply hK;clear hK K)
        iterate 2 (apply x_st rfl rfl rfl;(focus intro u hc' hf';go_simp <;> rfl);intro K hK;go_simp;apply hK;clear hK K)
        iterate 2 (apply x_sg rfl rfl (by first|rfl|(simp [Region.wanted,yielded,go_sem]));(focus intro u hc' hf';go_simp <;> rfl);intro K hK;go_simp;apply hK;clear hK K)
        refine x_callg rfl rfl (Exc.grows _ _) (Exc.refl _ _) 89 (fun K hK=>?_);refine ⟨by first|rfl|(simp [Region.wanted,yielded,go_sem]),?_⟩;apply Exists.intro;refine ⟨fun w' hw'=>?_,fun w' hw' hbw=>?_⟩;(focus go_simp;rfl);refine (isName_any L[k].name _ hnmk).mono ?_;rintro e w8 ⟨rfl,hb8⟩;refine ⟨_,rfl,hb8,fun hx=>?_⟩;go_simp;apply hK;clear hK K
        iterate 1 (apply x_sg rfl rfl (by first|rfl|(simp [Region.wanted,yielded,go_sem]));(focus intro u hc' hf';go_simp <;> rfl);intro K hK;go_simp;apply hK;clear hK K)
        iterate 2 (apply x_st rfl rfl rfl;(focus intro u hc' hf';go_simp <;> rfl);intro K hK;go_simp;apply hK;clear hK K)
        iterate 5 (apply x_sg rfl rfl (by first|rfl|(simp [Region.wanted,yielded,go_sem]));(focus intro u hc' hf';go_simp <;> rfl);intro K hK;go_simp;apply hK;clear hK K)
        refine x_callg rfl rfl (Exc.grows _ _) (hx) 90 (fun K hK=>?_);refine ⟨by first|rfl|(simp [Region.wanted,yielded,go_sem]),?_⟩;apply Exists.intro;refine ⟨fun w' hw'=>?_,fun w' hw' hbw=>?_⟩;(focus go_simp;rfl);refine (indexOf_any _ (L.take k) _ _ (hvk.keep (hWd.trans (hw'.toBelow.mono (by simp;omega)))) htl).mono ?_;rintro e w9 ⟨rfl,hb9⟩;refine ⟨_,rfl,hb9,fun hx=>?_⟩;go_simp;apply hK;clear hK K
        iterate 1 (apply x_sg rfl rfl (by first|rfl|(simp [Region.wanted,yielded,go_sem]));(focus intro u hc' hf';go_simp <;> rfl);intro K hK;go_simp;apply hK;clear hK K)
        iterate 1 (apply x_st rfl rfl rfl;(focus intro u hc' hf';go_simp <;> rfl);intro K hK;go_simp;apply hK;clear hK K)
        refine x_nil ?_
        go_wp2
        go_roundw
        case rel=>exact ⟨k+1,by omega,by go_num,HG',HF',hbel.trans ((hWd.trans (hx.toBelow.mono (by simp;omega))).mono (by omega))⟩
        case measure=>simp [intOf];omega
       ·rw [f2] at hag
        have HT:Hid (good L=false):=(show good L=false by rw [hgo,hag];simp)
        rw [Nat.zero_add] at f1
        clear hag hfn hgo hgg f2
        go_wp2_with fail
        refine region_acts (C:=Exc (NoT) _) 2 [0,1,2,3,4,5,6,7,8,9,10,11,12,13,14,15,16,17,18,19,20,21,22,23,24,25] (by kernel_rfl) (by kernel_rfl) (Exc.grows _ _) (Exc.refl _ _) ?_
        iterate 3 (apply x_st rfl rfl rfl;(focus intro u hc' hf';go_simp <;> rfl);intro K hK;go_simp;apply hK;clear hK K)
        iterate 7 (apply x_sg rfl rfl (by first|rfl|(simp [Region.wanted,yielded,go_sem]));(focus intro u hc' hf';go_simp <;> rfl);intro K hK;go_simp;apply hK;clear hK K)
        iterate 2 (apply x_st rfl rfl rfl;(focus intro u hc' hf';go_simp <;> rfl);intro K hK;go_simp;apply hK;clear hK K)
        iterate 2 (apply x_sg rfl rfl (by first|rfl|(simp [Region.wanted,yielded,go_sem]));(focus intro u hc' hf';go_simp <;> rfl);intro K hK;go_simp;apply hK;clear hK K)
        refine x_callg rfl rfl (Exc.grows _ _) (Exc.refl _ _) 89 (fun K hK=>?_);refine ⟨by first|rfl|(simp [Region.wanted,yielded,go_sem]),?_⟩;apply Exists.intro;refine ⟨fun w' hw'=>?_,fun w' hw' hbw=>?_⟩;(focus go_simp;rfl);refine (isName_any L[k].name _ hnmk).mono ?_;rintro e w8 ⟨rfl,hb8⟩;refine ⟨_,rfl,hb8,fun hx=>?_⟩;go_simp;apply hK;clear hK K
        iterate 1 (apply x_sg rfl rfl (by first|rfl|(simp [Region.wanted,yielded,go_sem]));(focus intro u hc' hf';go_simp <;> rfl);intro K hK;go_simp;apply hK;clear hK K)
        iterate 2 (apply x_st rfl rfl rfl;(focus intro u hc' hf';go_simp <;> rfl);intro K hK;go_simp;apply hK;clear hK K)
        iterate 5 (apply x_sg rfl rfl (by first|rfl|(simp [Region.wanted,yielded,go_sem]));(focus intro u hc' hf';go_simp <;> rfl);intro K hK;go_simp;apply hK;clear hK K)
        refine x_callg rfl rfl (Exc.grows _ _) (hx) 90 (fun K hK=>?_);refine ⟨by first|rfl|(simp [Region.wanted,yielded,go_sem]),?_⟩;apply Exists.intro;refine ⟨fun w' hw'=>?_,fun w' hw' hbw=>?_⟩;(focus go_simp;rfl);refine (indexOf_any _ (L.take k) _ _ (hvk.keep (hWd.trans (hw'.toBelow.mono (by simp;omega)))) htl).mono ?_;rintro e w9 ⟨rfl,hb9⟩;refine ⟨_,rfl,hb9,fun hx=>?_⟩;go_simp;apply hK;clear hK K
        iterate 1 (apply x_sg rfl rfl (by first|rfl|(simp [Region.wanted,yielded,go_sem]));(focus intro u hc' hf';go_simp <;> rfl);intro K hK;go_simp;apply hK;clear hK K)
        iterate 1 (apply x_st rfl rfl rfl;(focus intro u hc' hf';go_simp <;> rfl);intro K hK;go_simp;apply hK;clear hK K)
        refine x_nil ?_
        go_wp2
        go_ret
        exact ⟨ret_bool HT.out.symm,hbel.trans ((hWd.trans (hx.toBelow.mono (by simp;omega))).mono (by omega))⟩
     ·have HT:Hid (good L=false):=(show good L=false by
       rw [hgo,hag,hR]
       have:¬ (some x=some (L[k].inn,L[k].out)):=fun e=>p1 (by have:=Option.some.inj e;rw [this];simp)
       simp [this])
      clear hag hfn hgo hgg hR
      have p3:¬ x.1=L[k].inn∨(x.1=L[k].inn∧¬ x.2=L[k].out):=by by_cases h:x.1=L[k].inn;exact .inr ⟨h,fun h'=>p1 ⟨h,h'⟩⟩;exact .inl h
      clear p1
      rcases p3 with p1|⟨p1,p2⟩
      all_goals
       go_wp2_with fail
       refine region_acts (C:=Exc (NoT) _) 2 [0,1,2,3,4,5,6,7,8,9,10,11,12,13,14,15,16,17,18,19,20,21,22,23,24,25] (by kernel_rfl) (by kernel_rfl) (Exc.grows _ _) (Exc.refl _ _) ?_
       iterate 3 (apply x_st rfl rfl rfl;(focus intro u hc' hf';go_simp <;> rfl);intro K hK;go_simp;apply hK;clear hK K)
       iterate 7 (apply x_sg rfl rfl (by first|rfl|(simp [Region.wanted,yielded,go_sem]));(focus intro u hc' hf';go_simp <;> rfl);intro K hK;go_simp;apply hK;clear hK K)
       iterate 2 (apply x_st rfl rfl rfl;(focus intro u hc' hf';go_simp <;> rfl);intro K hK;go_simp;apply hK;clear hK K)
       iterate 4 (refine x_skip rfl fun K hK=>⟨by first|rfl|(simp [Region.wanted,yielded,go_sem]),?_⟩;go_simp;apply hK;clear hK K)
       iterate 2 (apply x_st rfl rfl rfl;(focus intro u hc' hf';go_simp <;> rfl);intro K hK;go_simp;apply hK;clear hK K)
       iterate 7 (refine x_skip rfl fun K hK=>⟨by first|rfl|(simp [Region.wanted,yielded,go_sem]),?_⟩;go_simp;apply hK;clear hK K)
       iterate 1 (apply x_st rfl rfl rfl;(focus intro u hc' hf';go_simp <;> rfl);intro K hK;go_simp;apply hK;clear hK K)
       refine x_nil ?_
       go_wp2
       go_ret
       exact ⟨ret_bool HT.out.symm,hbel.trans (hWd.mono (by omega))⟩
   ·go_wp2
    go_ret
    exact ⟨ret_bool (by rw [HF.out,List.drop_eq_nil_of_le (by omega)];rfl),hbel⟩
 ·have HR:=Lib.hid (show good L=false by simp [good,hl])
  go_enter Tryz.func46,Tryz.ntmps46
  go_wp2
  go_ret
  exact ⟨ret_bool HR.out.symm,Below.refl _ _⟩
end Go.Proofs.YtikgblkfmpecfaaGreatDoor
/-
  Copies of nodes, terms and definitions (program and reference). Own work.
-/
namespace Go.Proofs.YtikgblkfmpecfaaGreatDoor
open Go.RowKit
theorem hd_src {w:World} {v:Value} {ns:List Nd} (h:NdsAt w v ns) (hn:ns.length≤1048576) {ops:Array Oper} {rest:List Oper} {o:Oper} {a:Act} {Q:Exit → Act → World → Prop} (hgd:o.guard=none) (s x:Operand)
  (ho:o.op=.call { callee:=.builtin .append,args:=#[s,x],argTypes:=#[25,25] })
  (B:Nat) (u:Value) (xs:List Nd) (hs:a.eval s=u) (hx:a.eval x=v) (hown:NdsOwn w B u xs) (hB:B≤w.heap.size) (hl:xs.length≤1048576)
  (H:∀ v' w',NdsOwn w' B v' (xs ++ ns) → w.grownBy w' u.ownBlock → (v'.ownBlock=u.ownBlock∨v'.ownBlock=some w.heap.size) → wpList Tryz.prog ops Q rest (a.put o.dst v') w'):wpList Tryz.prog ops Q (o :: rest) a w:=by
 obtain ⟨i0,hi,hz0,hz1,hz2⟩:=info_parts info170
 refine wpList_append_src hgd s x 25 ho B 87 i0 _ 3 32 Tryz.underlying25 hi hz0 hz1 hz2 rfl (by decide) u xs.length _ hs hown v ns.length _ hx (nds_src h) (ndCells_one ns) (by unfold maxLen;omega) (by omega) hB ?_
 intro v' w' h1 h2 h3
 refine H v' w' ?_ h2 h3
 unfold NdsOwn
 rw [List.length_append,List.flatMap_append]
 exact h1
theorem nds_empty (w:World) (g B:Nat) (hg:g=w.heap.size) (hB:B≤w.heap.size):NdsOwn (w.alloc (.cells #[] 87)) B (.slice (some ⟨g,0,none⟩) 0 0) []:=by
 subst hg
 have:=World.ownsRow_made (base:=B) (size:=3) (e:=87) w #[] 0 hB (by unfold maxLen;omega) rfl
 simpa [NdsOwn] using this
theorem tmOwn_any (v:Value) (ns:List Nd) (w:World) (hv:NdsAt w v ns) (hn:ns.length≤1048576) :
  Calls Tryz.prog 79 #[v] w fun e w'=>∃ v',e=.returned (.agg #[v'])∧NdsOwn w' w.heap.size v' ns∧Below w.heap.size w w':=by
 obtain ⟨a,cap,rfl⟩:=hv.slice
 go_enter Tryz.func79,Tryz.ntmps79
 go_wp2_with (at_builtin;refine hd_src (hv.keep (((Below.refl _ _).alloc (Nat.le_refl _) _).alloc (by simp) _)) hn rfl (.tmp 3) (.tmp 4) rfl (w.heap.size+1) (.slice (some ⟨w.heap.size+1,0,none⟩) 0 0) [] rfl rfl (nds_empty (w.alloc (.cells #[.slice none 0 0] 27)) _ _ (by simp) (by simp)) (by simp) (by simp) ?_;intro v' w' h1 h2 h3;obtain ⟨ao,cp,rfl⟩:=h1.slice;have hb1:Below (w.heap.size+1) (w.alloc (.cells #[.slice none 0 0] 27)) w':=((Below.refl _ _).alloc (by simp) _).grown h2 (by simp) (fun k hk=>by simp [Value.ownBlock] at hk;omega);have q0:=hb1.cell (p:=⟨w.heap.size,0,none⟩) (by simp);have q1:=hb1.frozen (p:=⟨w.heap.size,0,none⟩) (by simp);simp [go_sem] at q0 q1)
 refine bodyPost_ret (v:=.agg #[.slice ao ns.length cp]) (by simp [results,Tryz.results79,go_sem,q0]) rfl ⟨_,rfl,?_,?_⟩
 ·have h1':NdsOwn w' (w.heap.size+1) (.slice ao ns.length cp) ns:=by simpa using h1
  exact (h1'.setLow (by simp) _).mono (by omega)
 ·exact (((Below.refl _ _).alloc (Nat.le_refl _) _).trans (hb1.mono (by omega))).setCell (by simp) _
end Go.Proofs.YtikgblkfmpecfaaGreatDoor
/-
  copyLibrary and lbOwn: libraries that share nothing. Own work.
-/
namespace Go.Proofs.YtikgblkfmpecfaaGreatDoor
open Go.RowKit
def CpSt (w wr:World) (B:Nat) (v:Value) (L:List Df) (k:Nat):Prop:=∃ xs:List (Df × Value),xs.map Prod.fst=L.take k∧DfsRow wr B v xs∧Below w.heap.size w wr∧w.heap.size≤B∧B≤wr.heap.size
theorem CpSt.step {w wr w2 w':World} {B k:Nat} {v v' vb:Value} {L:List Df} {xs:List (Df × Value)} {o:Obj} (e:xs.map Prod.fst=L.take k) (hbel:Below w.heap.size w wr) (hwB:w.heap.size≤B) (hB:B≤wr.heap.size) (hk:k<L.length)
  (hb2:Below wr.heap.size wr w2) (hr:DfsRow w' B v' (xs ++ [(L[k],vb)])) (hv:∀ j,v.ownBlock=some j → w.heap.size≤j) (hg:(w2.alloc o).grownBy w' v.ownBlock):CpSt w w' B v' L (k+1):=by
 have h2:=hb2.size
 have h3:=hg.size
 have h1:=hbel.size
 simp only [World.size_alloc] at h3
 refine ⟨_,?_,hr,?_,hwB,by omega⟩
 ·rw [List.map_append,e,List.take_succ_eq_append_getElem hk];rfl
 ·exact ((hbel.trans (hb2.mono h1)).alloc (by omega) o).grown hg (by simp;omega) hv
end Go.Proofs.YtikgblkfmpecfaaGreatDoor
/-
  The program's AddDef, RemoveDef and validLibrary. Own work.
-/
namespace Go.Proofs.YtikgblkfmpecfaaGreatDoor
open Go.RowKit
def LibPost (o:Option (List Df)) (w:World) (e:Ending) (w':World):Prop :=
 ∃ v',e=.returned (.tuple #[v',.bool o.isSome])∧DfsOwn w' w.heap.size v' (o.getD [])∧Below w.heap.size w w'
theorem good_ok {L:List Df} (h:good L=true):(∀ d ∈ L,DfOk d)∧L.length≤1048576:=by
 have hb:=good_bnd h
 have hl:=good_len h
 refine ⟨fun d hd=>?_,by omega⟩
 obtain ⟨h1,h2,h3⟩:=hb d hd
 exact ⟨by omega,fun n hn=>by have:=h3 n hn;omega,by omega⟩
end Go.Proofs.YtikgblkfmpecfaaGreatDoor
/-
  slices.Delete of one definition, and the program's RemoveDef. Own work.
-/
namespace Go.Proofs.YtikgblkfmpecfaaGreatDoor
open Go.RowKit
end Go.Proofs.YtikgblkfmpecfaaGreatDoor
/-
  The program's RemoveDef. Own work.
-/
namespace Go.Proofs.YtikgblkfmpecfaaGreatDoor
open Go.RowKit
end Go.Proofs.YtikgblkfmpecfaaGreatDoor
/-
  The program's RenameDef. Own work.
-/
namespace Go.Proofs.YtikgblkfmpecfaaGreatDoor
open Go.RowKit
end Go.Proofs.YtikgblkfmpecfaaGreatDoor
/-
  An entry's definition, and the program's ApplyEntry. Own work.
-/
namespace Go.Proofs.YtikgblkfmpecfaaGreatDoor
open Go.RowKit
end Go.Proofs.YtikgblkfmpecfaaGreatDoor
