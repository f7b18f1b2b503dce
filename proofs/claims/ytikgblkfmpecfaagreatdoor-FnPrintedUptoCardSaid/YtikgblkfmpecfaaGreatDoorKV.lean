/-
  The walk of printed, the program's printer of trees. Own work.
-/
import Derived.Test.YtikgblkfmpecfaaGreatDoorKU
set_option linter.all false
set_option maxRecDepth 100000
set_option maxHeartbeats 8000000
namespace Go.Proofs.YtikgblkfmpecfaaGreatDoor
open Go.RowKit
theorem leafText_any (n:Nd) (w:World) (hok:LeafOk n) :
  Calls Tryz.prog 86 #[.agg #[.int .i64 n.kind,.int .i64 n.value,.string n.name]] w fun e w'=>e=.returned (.string (leafTxt n))∧Below w.heap.size w w':=by
 by_cases h17:n.kind=17
 ·have g1:(n.kind == 17)=true:=by simp [h17]
  have HR:Hid (leafTxt n=n.name):=(show _=_ by simp [leafTxt,h17])
  clear h17 hok
  go_enter Tryz.func86,Tryz.ntmps86
  go_wp2
  go_ret
  exact ⟨by rw [HR.out];rfl,alloc_below _ _⟩
 ·obtain ⟨h1,h2,h3,h4⟩:1≤n.kind∧n.kind≤14∧0≤n.value∧n.value≤96:=by
   rcases hok with ⟨h,_⟩|h
   ·exact absurd h h17
   ·exact h
  obtain ⟨nk,nv,nn⟩:=n
  simp only at h17 h1 h2 h3 h4
  obtain ⟨k,rfl⟩:=Int.eq_ofNat_of_zero_le (show 0≤nk by omega)
  by_cases hv:(k:Int)=1∨(k:Int)=7∨(k:Int)=13
  ·rw [show leafTxt ⟨k,nv,nn⟩=word k ++ bSp ++ numT nv by unfold leafTxt;rw [if_neg h17,if_pos hv]]
   exact leafText_num k nv nn w (by omega) (by omega) hv h3 h4
  ·rw [show leafTxt ⟨k,nv,nn⟩=word k by unfold leafTxt;rw [if_neg h17,if_neg hv]]
   exact leafText_word k nv nn w (by omega) (by omega) hv
theorem printed_leaf (n:Nd) (full:Bool) (w:World) (hok:LeafOk n) :
  Calls Tryz.prog 42 #[trV (.leaf n),.bool full] w fun e w'=>e=.returned (.string (prT full (.leaf n)))∧Below w.heap.size w w':=by
 have h1:=ta_leaf_seq
 have h2:=ta_leaf_par
 have h3:=ta_leaf_leaf
 rw [trV]
 go_enter Tryz.func42,Tryz.ntmps42
 go_wp2_with (go_at_call 86;refine (leafText_any n _ hok).mono ?_;rintro e w1 ⟨rfl,hb1⟩)
 go_ret
 exact ⟨rfl,(alloc_below _ _).trans (hb1.mono (by simp))⟩
theorem printed_seq_no (a b:Tr) (w:World) (iha:∀ w,Calls Tryz.prog 42 #[trV a,.bool false] w fun e w'=>e=.returned (.string (prT false a))∧Below w.heap.size w w')
  (ihb:∀ w,Calls Tryz.prog 42 #[trV b,.bool false] w fun e w'=>e=.returned (.string (prT false b))∧Below w.heap.size w w')
  (hsa:(prT false a).size≤65536) (hsb:(prT false b).size≤65536) :
  Calls Tryz.prog 42 #[trV (.seq a b),.bool false] w fun e w'=>e=.returned (.string (prT false (.seq a b)))∧Below w.heap.size w w':=by
 have h1:=ta_seq_seq
 rw [trV]
 obtain ⟨Ta,xa,ha⟩:=trV_iface a
 obtain ⟨Tb,xb,hb⟩:=trV_iface b
 have isa:=isSeq_any a
 have ipa:=isPar_any a
 have isb:=isSeq_any b
 have ipb:=isPar_any b
 rw [ha] at iha isa ipa ⊢
 rw [hb] at ihb isb ipb ⊢
 clear ha hb
 have za1:=brk_size (prT false a) true
 have za2:=brk_size (prT false a) false
 have za3:=brk_size (prT false a) a.isPar
 have zb1:=brk_size (prT false b) true
 have zb2:=brk_size (prT false b) false
 have zb3:=brk_size (prT false b) b.isPar
 have zs:bSeq.size=3:=rfl
 have zc1:(brk (prT false a) true ++ bSeq).size≤65541:=by rw [bsize];omega
 have zc2:(brk (prT false a) false ++ bSeq).size≤65541:=by rw [bsize];omega
 have zc3:(brk (prT false a) a.isPar ++ bSeq).size≤65541:=by rw [bsize];omega
 clear zs
 cases hq:b.isSeq
 ·have HQ:=Lib.hid hq
  have HA:Hid (True=True):=Lib.hid rfl
  clear hq
  go_enter Tryz.func42,Tryz.ntmps42
  go_wp2_with (first|(go_at_call 42;refine (iha _).mono ?_;rintro e w1 ⟨rfl,hb1⟩;obtain ⟨hc1,hf1,hs1⟩:=bcell hb1;have hzz:w.heap.size<w1.heap.size:=by (have:=hb1.size;simp at this;omega))|(go_at_call 84;refine (isa _).mono ?_;rintro e w1b ⟨rfl,hb1b⟩;rw [HA.out];obtain ⟨hc1b,hf1b,hs1b⟩:=bcell hb1b;have hzb:w.heap.size<w1b.heap.size:=by omega)|(go_at_call 85;refine (ipa _).mono ?_;rintro e w1c ⟨rfl,hb1c⟩;obtain ⟨hc1c,hf1c,hs1c⟩:=bcell hb1c)|(go_at_call 83;refine (bracketed_any _ _ _ (by omega)).mono ?_;rintro e w2 ⟨rfl,rfl⟩))
  have hz1:=hb1.size
  have c1:w1.cell? ⟨w.heap.size,1,none⟩=some (.iface Tb (.agg xb)):=by rw [hc1 _ _ (by simp)];simp
  have hz:w.heap.size<w1.heap.size:=by simp at hz1;omega
  have hB1:Below w.heap.size w w1:=(alloc_below _ _).trans (hb1.mono (by simp))
  clear hc1 hf1 hs1 hb1 hz1
  refine region_acts (C:=Exc (NoT) _) 6 [0,1,2,3,4,5,6,7,8,9,10,11,12,13,14,15,16] (by kernel_rfl) (by kernel_rfl) (Exc.grows _ _) (Exc.refl _ _) ?_
  iterate 3 (apply x_st rfl rfl rfl;(focus intro u hc' hf';go_simp <;> rfl);intro K hK;go_simp;apply hK;clear hK K)
  refine x_call rfl rfl rfl (Exc.grows _ _) (Exc.refl _ _) 42 (fun K hK=>?_);apply Exists.intro;refine ⟨fun w' hw'=>?_,fun wa hwa hbwa=>?_⟩;(focus go_simp;rfl);refine (ihb _).mono ?_;rintro e w3 ⟨rfl,hb3⟩;refine ⟨_,rfl,hb3,fun hx=>?_⟩;go_simp;apply hK;clear hK K
  iterate 2 (apply x_st rfl rfl rfl;(focus intro u hc' hf';go_simp <;> rfl);intro K hK;go_simp;apply hK;clear hK K)
  refine x_call rfl rfl rfl (Exc.grows _ _) (hx) 84 (fun K hK=>?_);apply Exists.intro;refine ⟨fun w' hw'=>?_,fun wb hwb hbwb=>?_⟩;(focus go_simp;rfl);refine (isb _).mono ?_;rintro e w4 ⟨rfl,hb4⟩;refine ⟨_,rfl,hb4,fun hx=>?_⟩;go_simp;apply hK;clear hK K
  rw [HQ.out]
  iterate 1 (apply x_st rfl rfl rfl;(focus intro u hc' hf';go_simp <;> rfl);intro K hK;go_simp;apply hK;clear hK K)
  iterate 2 (apply x_sg rfl rfl (by first|rfl|(simp [Region.wanted,yielded,go_sem]));(focus intro u hc' hf';go_simp <;> rfl);intro K hK;go_simp;apply hK;clear hK K)
  iterate 3 (refine x_skip rfl fun K hK=>⟨by first|rfl|(simp [Region.wanted,yielded,go_sem]),?_⟩;go_simp;apply hK;clear hK K)
  iterate 1 (apply x_sg rfl rfl (by first|rfl|(simp [Region.wanted,yielded,go_sem]));(focus intro u hc' hf';go_simp <;> rfl);intro K hK;go_simp;apply hK;clear hK K)
  iterate 1 (apply x_st rfl rfl rfl;(focus intro u hc' hf';go_simp <;> rfl);intro K hK;go_simp;apply hK;clear hK K)
  refine x_call rfl rfl rfl (Exc.grows _ _) (hx) 83 (fun K hK=>?_);apply Exists.intro;refine ⟨fun w' hw'=>?_,fun wc hwc hbwc=>?_⟩;(focus go_simp;rfl);refine (bracketed_any _ _ _ (by omega)).mono ?_;rintro e w5 ⟨rfl,rfl⟩;refine ⟨_,rfl,Below.refl _ _,fun hx=>?_⟩;go_simp;apply hK;clear hK K
  iterate 1 (apply x_st rfl rfl rfl;(focus intro u hc' hf';go_simp <;> rfl);intro K hK;go_simp;apply hK;clear hK K)
  refine x_nil ?_
  go_wp2
  go_ret
  exact ⟨by rw [prT];simp only [HA.out,HQ.out,Bool.false_and,Bool.true_and,Bool.false_or,Bool.true_or,Bool.or_false,Bool.or_true,Bool.and_false,Bool.and_true];rfl,hB1.trans ((Below.refl w1.heap.size w1).drew.trans ((hx.toBelow).mono (by simp)) |>.mono (by have:=hB1.size;omega))⟩
 ·have HQ:=Lib.hid hq
  have HA:Hid (True=True):=Lib.hid rfl
  clear hq
  go_enter Tryz.func42,Tryz.ntmps42
  go_wp2_with (first|(go_at_call 42;refine (iha _).mono ?_;rintro e w1 ⟨rfl,hb1⟩;obtain ⟨hc1,hf1,hs1⟩:=bcell hb1;have hzz:w.heap.size<w1.heap.size:=by (have:=hb1.size;simp at this;omega))|(go_at_call 84;refine (isa _).mono ?_;rintro e w1b ⟨rfl,hb1b⟩;rw [HA.out];obtain ⟨hc1b,hf1b,hs1b⟩:=bcell hb1b;have hzb:w.heap.size<w1b.heap.size:=by omega)|(go_at_call 85;refine (ipa _).mono ?_;rintro e w1c ⟨rfl,hb1c⟩;obtain ⟨hc1c,hf1c,hs1c⟩:=bcell hb1c)|(go_at_call 83;refine (bracketed_any _ _ _ (by omega)).mono ?_;rintro e w2 ⟨rfl,rfl⟩))
  have hz1:=hb1.size
  have c1:w1.cell? ⟨w.heap.size,1,none⟩=some (.iface Tb (.agg xb)):=by rw [hc1 _ _ (by simp)];simp
  have hz:w.heap.size<w1.heap.size:=by simp at hz1;omega
  have hB1:Below w.heap.size w w1:=(alloc_below _ _).trans (hb1.mono (by simp))
  clear hc1 hf1 hs1 hb1 hz1
  refine region_acts (C:=Exc (NoT) _) 6 [0,1,2,3,4,5,6,7,8,9,10,11,12,13,14,15,16] (by kernel_rfl) (by kernel_rfl) (Exc.grows _ _) (Exc.refl _ _) ?_
  iterate 3 (apply x_st rfl rfl rfl;(focus intro u hc' hf';go_simp <;> rfl);intro K hK;go_simp;apply hK;clear hK K)
  refine x_call rfl rfl rfl (Exc.grows _ _) (Exc.refl _ _) 42 (fun K hK=>?_);apply Exists.intro;refine ⟨fun w' hw'=>?_,fun wa hwa hbwa=>?_⟩;(focus go_simp;rfl);refine (ihb _).mono ?_;rintro e w3 ⟨rfl,hb3⟩;refine ⟨_,rfl,hb3,fun hx=>?_⟩;go_simp;apply hK;clear hK K
  iterate 2 (apply x_st rfl rfl rfl;(focus intro u hc' hf';go_simp <;> rfl);intro K hK;go_simp;apply hK;clear hK K)
  refine x_call rfl rfl rfl (Exc.grows _ _) (hx) 84 (fun K hK=>?_);apply Exists.intro;refine ⟨fun w' hw'=>?_,fun wb hwb hbwb=>?_⟩;(focus go_simp;rfl);refine (isb _).mono ?_;rintro e w4 ⟨rfl,hb4⟩;refine ⟨_,rfl,hb4,fun hx=>?_⟩;go_simp;apply hK;clear hK K
  rw [HQ.out]
  iterate 1 (apply x_st rfl rfl rfl;(focus intro u hc' hf';go_simp <;> rfl);intro K hK;go_simp;apply hK;clear hK K)
  iterate 6 (refine x_skip rfl fun K hK=>⟨by first|rfl|(simp [Region.wanted,yielded,go_sem]),?_⟩;go_simp;apply hK;clear hK K)
  iterate 1 (apply x_st rfl rfl rfl;(focus intro u hc' hf';go_simp <;> rfl);intro K hK;go_simp;apply hK;clear hK K)
  refine x_call rfl rfl rfl (Exc.grows _ _) (hx) 83 (fun K hK=>?_);apply Exists.intro;refine ⟨fun w' hw'=>?_,fun wc hwc hbwc=>?_⟩;(focus go_simp;rfl);refine (bracketed_any _ _ _ (by omega)).mono ?_;rintro e w5 ⟨rfl,rfl⟩;refine ⟨_,rfl,Below.refl _ _,fun hx=>?_⟩;go_simp;apply hK;clear hK K
  iterate 1 (apply x_st rfl rfl rfl;(focus intro u hc' hf';go_simp <;> rfl);intro K hK;go_simp;apply hK;clear hK K)
  refine x_nil ?_
  go_wp2
  go_ret
  exact ⟨by rw [prT];simp only [HA.out,HQ.out,Bool.false_and,Bool.true_and,Bool.false_or,Bool.true_or,Bool.or_false,Bool.or_true,Bool.and_false,Bool.and_true];rfl,hB1.trans ((Below.refl w1.heap.size w1).drew.trans ((hx.toBelow).mono (by simp)) |>.mono (by have:=hB1.size;omega))⟩
theorem printed_seq_yes (a b:Tr) (w:World) (iha:∀ w,Calls Tryz.prog 42 #[trV a,.bool true] w fun e w'=>e=.returned (.string (prT true a))∧Below w.heap.size w w')
  (ihb:∀ w,Calls Tryz.prog 42 #[trV b,.bool true] w fun e w'=>e=.returned (.string (prT true b))∧Below w.heap.size w w')
  (hsa:(prT true a).size≤65536) (hsb:(prT true b).size≤65536) :
  Calls Tryz.prog 42 #[trV (.seq a b),.bool true] w fun e w'=>e=.returned (.string (prT true (.seq a b)))∧Below w.heap.size w w':=by
 have h1:=ta_seq_seq
 rw [trV]
 obtain ⟨Ta,xa,ha⟩:=trV_iface a
 obtain ⟨Tb,xb,hb⟩:=trV_iface b
 have isa:=isSeq_any a
 have ipa:=isPar_any a
 have isb:=isSeq_any b
 have ipb:=isPar_any b
 rw [ha] at iha isa ipa ⊢
 rw [hb] at ihb isb ipb ⊢
 clear ha hb
 have za1:=brk_size (prT true a) true
 have za2:=brk_size (prT true a) false
 have za3:=brk_size (prT true a) a.isPar
 have zb1:=brk_size (prT true b) true
 have zb2:=brk_size (prT true b) false
 have zb3:=brk_size (prT true b) b.isPar
 have zs:bSeq.size=3:=rfl
 have zc1:(brk (prT true a) true ++ bSeq).size≤65541:=by rw [bsize];omega
 have zc2:(brk (prT true a) false ++ bSeq).size≤65541:=by rw [bsize];omega
 have zc3:(brk (prT true a) a.isPar ++ bSeq).size≤65541:=by rw [bsize];omega
 clear zs
 cases hp:a.isSeq <;> cases hq:b.isSeq
 ·have HQ:=Lib.hid hq
  have HA:=Lib.hid hp
  clear hq hp
  go_enter Tryz.func42,Tryz.ntmps42
  go_wp2_with (first|(go_at_call 42;refine (iha _).mono ?_;rintro e w1 ⟨rfl,hb1⟩;obtain ⟨hc1,hf1,hs1⟩:=bcell hb1;have hzz:w.heap.size<w1.heap.size:=by (have:=hb1.size;simp at this;omega))|(go_at_call 84;refine (isa _).mono ?_;rintro e w1b ⟨rfl,hb1b⟩;rw [HA.out];obtain ⟨hc1b,hf1b,hs1b⟩:=bcell hb1b;have hzb:w.heap.size<w1b.heap.size:=by omega)|(go_at_call 85;refine (ipa _).mono ?_;rintro e w1c ⟨rfl,hb1c⟩;obtain ⟨hc1c,hf1c,hs1c⟩:=bcell hb1c)|(go_at_call 83;refine (bracketed_any _ _ _ (by omega)).mono ?_;rintro e w2 ⟨rfl,rfl⟩))
  have hz1:=hb1.size
  have hz2:=hb1b.size
  have hz3:=hb1c.size
  have hB1:Below w.heap.size w w1c:=(alloc_below _ _).trans ((hb1.trans ((hb1b.trans (hb1c.mono (by omega))).mono (by simp at hz1;simp;omega))).mono (by simp))
  have c1:w1c.cell? ⟨w.heap.size,1,none⟩=some (.iface Tb (.agg xb)):=by rw [(hc1c _ _ (by simp at hz1;omega)),(hc1b _ _ (by simp at hz1;omega)),hc1 _ _ (by simp)];simp
  have hz:w.heap.size<w1c.heap.size:=by simp at hz1;omega
  clear hc1 hf1 hs1 hb1 hz1 hc1b hf1b hs1b hb1b hz2
  clear hc1c hf1c hs1c hb1c hz3
  have W1:=hB1
  refine region_acts (C:=Exc (NoT) _) 6 [0,1,2,3,4,5,6,7,8,9,10,11,12,13,14,15,16] (by kernel_rfl) (by kernel_rfl) (Exc.grows _ _) (Exc.refl _ _) ?_
  iterate 3 (apply x_st rfl rfl rfl;(focus intro u hc' hf';go_simp <;> rfl);intro K hK;go_simp;apply hK;clear hK K)
  refine x_call rfl rfl rfl (Exc.grows _ _) (Exc.refl _ _) 42 (fun K hK=>?_);apply Exists.intro;refine ⟨fun w' hw'=>?_,fun wa hwa hbwa=>?_⟩;(focus go_simp;rfl);refine (ihb _).mono ?_;rintro e w3 ⟨rfl,hb3⟩;refine ⟨_,rfl,hb3,fun hx=>?_⟩;go_simp;apply hK;clear hK K
  iterate 2 (apply x_st rfl rfl rfl;(focus intro u hc' hf';go_simp <;> rfl);intro K hK;go_simp;apply hK;clear hK K)
  refine x_call rfl rfl rfl (Exc.grows _ _) (hx) 84 (fun K hK=>?_);apply Exists.intro;refine ⟨fun w' hw'=>?_,fun wb hwb hbwb=>?_⟩;(focus go_simp;rfl);refine (isb _).mono ?_;rintro e w4 ⟨rfl,hb4⟩;refine ⟨_,rfl,hb4,fun hx=>?_⟩;go_simp;apply hK;clear hK K
  rw [HQ.out]
  iterate 1 (apply x_st rfl rfl rfl;(focus intro u hc' hf';go_simp <;> rfl);intro K hK;go_simp;apply hK;clear hK K)
  iterate 4 (apply x_sg rfl rfl (by first|rfl|(simp [Region.wanted,yielded,go_sem]));(focus intro u hc' hf';go_simp <;> rfl);intro K hK;go_simp;apply hK;clear hK K)
  refine x_callg rfl rfl (Exc.grows _ _) (hx) 85 (fun K hK=>?_);refine ⟨by first|rfl|(simp [Region.wanted,yielded,go_sem]),?_⟩;apply Exists.intro;refine ⟨fun w' hw'=>?_,fun w' hw' hbw=>?_⟩;(focus go_simp;rfl);refine (ipb _).mono ?_;rintro e w6 ⟨rfl,hb6⟩;refine ⟨_,rfl,hb6,fun hx=>?_⟩;go_simp;apply hK;clear hK K
  iterate 1 (apply x_sg rfl rfl (by first|rfl|(simp [Region.wanted,yielded,go_sem]));(focus intro u hc' hf';go_simp <;> rfl);intro K hK;go_simp;apply hK;clear hK K)
  iterate 1 (apply x_st rfl rfl rfl;(focus intro u hc' hf';go_simp <;> rfl);intro K hK;go_simp;apply hK;clear hK K)
  refine x_call rfl rfl rfl (Exc.grows _ _) (hx) 83 (fun K hK=>?_);apply Exists.intro;refine ⟨fun w' hw'=>?_,fun wc hwc hbwc=>?_⟩;(focus go_simp;rfl);refine (bracketed_any _ _ _ (by omega)).mono ?_;rintro e w5 ⟨rfl,rfl⟩;refine ⟨_,rfl,Below.refl _ _,fun hx=>?_⟩;go_simp;apply hK;clear hK K
  iterate 1 (apply x_st rfl rfl rfl;(focus intro u hc' hf';go_simp <;> rfl);intro K hK;go_simp;apply hK;clear hK K)
  refine x_nil ?_
  go_wp2
  go_ret
  exact ⟨by rw [prT];simp only [HA.out,HQ.out,Bool.false_and,Bool.true_and,Bool.false_or,Bool.true_or,Bool.or_false,Bool.or_true,Bool.and_false,Bool.and_true];rfl,hB1.trans ((Below.refl w1c.heap.size w1c).drew.trans ((hx.toBelow).mono (by simp)) |>.mono (by have:=hB1.size;omega))⟩
 ·have HQ:=Lib.hid hq
  have HA:=Lib.hid hp
  clear hq hp
  go_enter Tryz.func42,Tryz.ntmps42
  go_wp2_with (first|(go_at_call 42;refine (iha _).mono ?_;rintro e w1 ⟨rfl,hb1⟩;obtain ⟨hc1,hf1,hs1⟩:=bcell hb1;have hzz:w.heap.size<w1.heap.size:=by (have:=hb1.size;simp at this;omega))|(go_at_call 84;refine (isa _).mono ?_;rintro e w1b ⟨rfl,hb1b⟩;rw [HA.out];obtain ⟨hc1b,hf1b,hs1b⟩:=bcell hb1b;have hzb:w.heap.size<w1b.heap.size:=by omega)|(go_at_call 85;refine (ipa _).mono ?_;rintro e w1c ⟨rfl,hb1c⟩;obtain ⟨hc1c,hf1c,hs1c⟩:=bcell hb1c)|(go_at_call 83;refine (bracketed_any _ _ _ (by omega)).mono ?_;rintro e w2 ⟨rfl,rfl⟩))
  have hz1:=hb1.size
  have hz2:=hb1b.size
  have hz3:=hb1c.size
  have hB1:Below w.heap.size w w1c:=(alloc_below _ _).trans ((hb1.trans ((hb1b.trans (hb1c.mono (by omega))).mono (by simp at hz1;simp;omega))).mono (by simp))
  have c1:w1c.cell? ⟨w.heap.size,1,none⟩=some (.iface Tb (.agg xb)):=by rw [(hc1c _ _ (by simp at hz1;omega)),(hc1b _ _ (by simp at hz1;omega)),hc1 _ _ (by simp)];simp
  have hz:w.heap.size<w1c.heap.size:=by simp at hz1;omega
  clear hc1 hf1 hs1 hb1 hz1 hc1b hf1b hs1b hb1b hz2
  clear hc1c hf1c hs1c hb1c hz3
  have W1:=hB1
  refine region_acts (C:=Exc (NoT) _) 6 [0,1,2,3,4,5,6,7,8,9,10,11,12,13,14,15,16] (by kernel_rfl) (by kernel_rfl) (Exc.grows _ _) (Exc.refl _ _) ?_
  iterate 3 (apply x_st rfl rfl rfl;(focus intro u hc' hf';go_simp <;> rfl);intro K hK;go_simp;apply hK;clear hK K)
  refine x_call rfl rfl rfl (Exc.grows _ _) (Exc.refl _ _) 42 (fun K hK=>?_);apply Exists.intro;refine ⟨fun w' hw'=>?_,fun wa hwa hbwa=>?_⟩;(focus go_simp;rfl);refine (ihb _).mono ?_;rintro e w3 ⟨rfl,hb3⟩;refine ⟨_,rfl,hb3,fun hx=>?_⟩;go_simp;apply hK;clear hK K
  iterate 2 (apply x_st rfl rfl rfl;(focus intro u hc' hf';go_simp <;> rfl);intro K hK;go_simp;apply hK;clear hK K)
  refine x_call rfl rfl rfl (Exc.grows _ _) (hx) 84 (fun K hK=>?_);apply Exists.intro;refine ⟨fun w' hw'=>?_,fun wb hwb hbwb=>?_⟩;(focus go_simp;rfl);refine (isb _).mono ?_;rintro e w4 ⟨rfl,hb4⟩;refine ⟨_,rfl,hb4,fun hx=>?_⟩;go_simp;apply hK;clear hK K
  rw [HQ.out]
  iterate 1 (apply x_st rfl rfl rfl;(focus intro u hc' hf';go_simp <;> rfl);intro K hK;go_simp;apply hK;clear hK K)
  iterate 6 (refine x_skip rfl fun K hK=>⟨by first|rfl|(simp [Region.wanted,yielded,go_sem]),?_⟩;go_simp;apply hK;clear hK K)
  iterate 1 (apply x_st rfl rfl rfl;(focus intro u hc' hf';go_simp <;> rfl);intro K hK;go_simp;apply hK;clear hK K)
  refine x_call rfl rfl rfl (Exc.grows _ _) (hx) 83 (fun K hK=>?_);apply Exists.intro;refine ⟨fun w' hw'=>?_,fun wc hwc hbwc=>?_⟩;(focus go_simp;rfl);refine (bracketed_any _ _ _ (by omega)).mono ?_;rintro e w5 ⟨rfl,rfl⟩;refine ⟨_,rfl,Below.refl _ _,fun hx=>?_⟩;go_simp;apply hK;clear hK K
  iterate 1 (apply x_st rfl rfl rfl;(focus intro u hc' hf';go_simp <;> rfl);intro K hK;go_simp;apply hK;clear hK K)
  refine x_nil ?_
  go_wp2
  go_ret
  exact ⟨by rw [prT];simp only [HA.out,HQ.out,Bool.false_and,Bool.true_and,Bool.false_or,Bool.true_or,Bool.or_false,Bool.or_true,Bool.and_false,Bool.and_true];rfl,hB1.trans ((Below.refl w1c.heap.size w1c).drew.trans ((hx.toBelow).mono (by simp)) |>.mono (by have:=hB1.size;omega))⟩
 ·have HQ:=Lib.hid hq
  have HA:=Lib.hid hp
  clear hq hp
  go_enter Tryz.func42,Tryz.ntmps42
  go_wp2_with (first|(go_at_call 42;refine (iha _).mono ?_;rintro e w1 ⟨rfl,hb1⟩;obtain ⟨hc1,hf1,hs1⟩:=bcell hb1;have hzz:w.heap.size<w1.heap.size:=by (have:=hb1.size;simp at this;omega))|(go_at_call 84;refine (isa _).mono ?_;rintro e w1b ⟨rfl,hb1b⟩;rw [HA.out];obtain ⟨hc1b,hf1b,hs1b⟩:=bcell hb1b;have hzb:w.heap.size<w1b.heap.size:=by omega)|(go_at_call 85;refine (ipa _).mono ?_;rintro e w1c ⟨rfl,hb1c⟩;obtain ⟨hc1c,hf1c,hs1c⟩:=bcell hb1c)|(go_at_call 83;refine (bracketed_any _ _ _ (by omega)).mono ?_;rintro e w2 ⟨rfl,rfl⟩))
  have hz1:=hb1.size
  have hz2:=hb1b.size
  have hB1:Below w.heap.size w w1b:=(alloc_below _ _).trans ((hb1.trans (hb1b.mono (by simp at hz1;simp;omega))).mono (by simp))
  have c1:w1b.cell? ⟨w.heap.size,1,none⟩=some (.iface Tb (.agg xb)):=by rw [(hc1b _ _ (by simp at hz1;omega)),hc1 _ _ (by simp)];simp
  have hz:w.heap.size<w1b.heap.size:=by simp at hz1;omega
  clear hc1 hf1 hs1 hb1 hz1 hc1b hf1b hs1b hb1b hz2
  have W1:=hB1
  refine region_acts (C:=Exc (NoT) _) 6 [0,1,2,3,4,5,6,7,8,9,10,11,12,13,14,15,16] (by kernel_rfl) (by kernel_rfl) (Exc.grows _ _) (Exc.refl _ _) ?_
  iterate 3 (apply x_st rfl rfl rfl;(focus intro u hc' hf';go_simp <;> rfl);intro K hK;go_simp;apply hK;clear hK K)
  refine x_call rfl rfl rfl (Exc.grows _ _) (Exc.refl _ _) 42 (fun K hK=>?_);apply Exists.intro;refine ⟨fun w' hw'=>?_,fun wa hwa hbwa=>?_⟩;(focus go_simp;rfl);refine (ihb _).mono ?_;rintro e w3 ⟨rfl,hb3⟩;refine ⟨_,rfl,hb3,fun hx=>?_⟩;go_simp;apply hK;clear hK K
  iterate 2 (apply x_st rfl rfl rfl;(focus intro u hc' hf';go_simp <;> rfl);intro K hK;go_simp;apply hK;clear hK K)
  refine x_call rfl rfl rfl (Exc.grows _ _) (hx) 84 (fun K hK=>?_);apply Exists.intro;refine ⟨fun w' hw'=>?_,fun wb hwb hbwb=>?_⟩;(focus go_simp;rfl);refine (isb _).mono ?_;rintro e w4 ⟨rfl,hb4⟩;refine ⟨_,rfl,hb4,fun hx=>?_⟩;go_simp;apply hK;clear hK K
  rw [HQ.out]
  iterate 1 (apply x_st rfl rfl rfl;(focus intro u hc' hf';go_simp <;> rfl);intro K hK;go_simp;apply hK;clear hK K)
  iterate 4 (apply x_sg rfl rfl (by first|rfl|(simp [Region.wanted,yielded,go_sem]));(focus intro u hc' hf';go_simp <;> rfl);intro K hK;go_simp;apply hK;clear hK K)
  refine x_callg rfl rfl (Exc.grows _ _) (hx) 85 (fun K hK=>?_);refine ⟨by first|rfl|(simp [Region.wanted,yielded,go_sem]),?_⟩;apply Exists.intro;refine ⟨fun w' hw'=>?_,fun w' hw' hbw=>?_⟩;(focus go_simp;rfl);refine (ipb _).mono ?_;rintro e w6 ⟨rfl,hb6⟩;refine ⟨_,rfl,hb6,fun hx=>?_⟩;go_simp;apply hK;clear hK K
  iterate 1 (apply x_sg rfl rfl (by first|rfl|(simp [Region.wanted,yielded,go_sem]));(focus intro u hc' hf';go_simp <;> rfl);intro K hK;go_simp;apply hK;clear hK K)
  iterate 1 (apply x_st rfl rfl rfl;(focus intro u hc' hf';go_simp <;> rfl);intro K hK;go_simp;apply hK;clear hK K)
  refine x_call rfl rfl rfl (Exc.grows _ _) (hx) 83 (fun K hK=>?_);apply Exists.intro;refine ⟨fun w' hw'=>?_,fun wc hwc hbwc=>?_⟩;(focus go_simp;rfl);refine (bracketed_any _ _ _ (by omega)).mono ?_;rintro e w5 ⟨rfl,rfl⟩;refine ⟨_,rfl,Below.refl _ _,fun hx=>?_⟩;go_simp;apply hK;clear hK K
  iterate 1 (apply x_st rfl rfl rfl;(focus intro u hc' hf';go_simp <;> rfl);intro K hK;go_simp;apply hK;clear hK K)
  refine x_nil ?_
  go_wp2
  go_ret
  exact ⟨by rw [prT];simp only [HA.out,HQ.out,Bool.false_and,Bool.true_and,Bool.false_or,Bool.true_or,Bool.or_false,Bool.or_true,Bool.and_false,Bool.and_true];rfl,hB1.trans ((Below.refl w1b.heap.size w1b).drew.trans ((hx.toBelow).mono (by simp)) |>.mono (by have:=hB1.size;omega))⟩
 ·have HQ:=Lib.hid hq
  have HA:=Lib.hid hp
  clear hq hp
  go_enter Tryz.func42,Tryz.ntmps42
  go_wp2_with (first|(go_at_call 42;refine (iha _).mono ?_;rintro e w1 ⟨rfl,hb1⟩;obtain ⟨hc1,hf1,hs1⟩:=bcell hb1;have hzz:w.heap.size<w1.heap.size:=by (have:=hb1.size;simp at this;omega))|(go_at_call 84;refine (isa _).mono ?_;rintro e w1b ⟨rfl,hb1b⟩;rw [HA.out];obtain ⟨hc1b,hf1b,hs1b⟩:=bcell hb1b;have hzb:w.heap.size<w1b.heap.size:=by omega)|(go_at_call 85;refine (ipa _).mono ?_;rintro e w1c ⟨rfl,hb1c⟩;obtain ⟨hc1c,hf1c,hs1c⟩:=bcell hb1c)|(go_at_call 83;refine (bracketed_any _ _ _ (by omega)).mono ?_;rintro e w2 ⟨rfl,rfl⟩))
  have hz1:=hb1.size
  have hz2:=hb1b.size
  have hB1:Below w.heap.size w w1b:=(alloc_below _ _).trans ((hb1.trans (hb1b.mono (by simp at hz1;simp;omega))).mono (by simp))
  have c1:w1b.cell? ⟨w.heap.size,1,none⟩=some (.iface Tb (.agg xb)):=by rw [(hc1b _ _ (by simp at hz1;omega)),hc1 _ _ (by simp)];simp
  have hz:w.heap.size<w1b.heap.size:=by simp at hz1;omega
  clear hc1 hf1 hs1 hb1 hz1 hc1b hf1b hs1b hb1b hz2
  have W1:=hB1
  refine region_acts (C:=Exc (NoT) _) 6 [0,1,2,3,4,5,6,7,8,9,10,11,12,13,14,15,16] (by kernel_rfl) (by kernel_rfl) (Exc.grows _ _) (Exc.refl _ _) ?_
  iterate 3 (apply x_st rfl rfl rfl;(focus intro u hc' hf';go_simp <;> rfl);intro K hK;go_simp;apply hK;clear hK K)
  refine x_call rfl rfl rfl (Exc.grows _ _) (Exc.refl _ _) 42 (fun K hK=>?_);apply Exists.intro;refine ⟨fun w' hw'=>?_,fun wa hwa hbwa=>?_⟩;(focus go_simp;rfl);refine (ihb _).mono ?_;rintro e w3 ⟨rfl,hb3⟩;refine ⟨_,rfl,hb3,fun hx=>?_⟩;go_simp;apply hK;clear hK K
  iterate 2 (apply x_st rfl rfl rfl;(focus intro u hc' hf';go_simp <;> rfl);intro K hK;go_simp;apply hK;clear hK K)
  refine x_call rfl rfl rfl (Exc.grows _ _) (hx) 84 (fun K hK=>?_);apply Exists.intro;refine ⟨fun w' hw'=>?_,fun wb hwb hbwb=>?_⟩;(focus go_simp;rfl);refine (isb _).mono ?_;rintro e w4 ⟨rfl,hb4⟩;refine ⟨_,rfl,hb4,fun hx=>?_⟩;go_simp;apply hK;clear hK K
  rw [HQ.out]
  iterate 1 (apply x_st rfl rfl rfl;(focus intro u hc' hf';go_simp <;> rfl);intro K hK;go_simp;apply hK;clear hK K)
  iterate 6 (refine x_skip rfl fun K hK=>⟨by first|rfl|(simp [Region.wanted,yielded,go_sem]),?_⟩;go_simp;apply hK;clear hK K)
  iterate 1 (apply x_st rfl rfl rfl;(focus intro u hc' hf';go_simp <;> rfl);intro K hK;go_simp;apply hK;clear hK K)
  refine x_call rfl rfl rfl (Exc.grows _ _) (hx) 83 (fun K hK=>?_);apply Exists.intro;refine ⟨fun w' hw'=>?_,fun wc hwc hbwc=>?_⟩;(focus go_simp;rfl);refine (bracketed_any _ _ _ (by omega)).mono ?_;rintro e w5 ⟨rfl,rfl⟩;refine ⟨_,rfl,Below.refl _ _,fun hx=>?_⟩;go_simp;apply hK;clear hK K
  iterate 1 (apply x_st rfl rfl rfl;(focus intro u hc' hf';go_simp <;> rfl);intro K hK;go_simp;apply hK;clear hK K)
  refine x_nil ?_
  go_wp2
  go_ret
  exact ⟨by rw [prT];simp only [HA.out,HQ.out,Bool.false_and,Bool.true_and,Bool.false_or,Bool.true_or,Bool.or_false,Bool.or_true,Bool.and_false,Bool.and_true];rfl,hB1.trans ((Below.refl w1b.heap.size w1b).drew.trans ((hx.toBelow).mono (by simp)) |>.mono (by have:=hB1.size;omega))⟩
end Go.Proofs.YtikgblkfmpecfaaGreatDoor
/-
  The walk of printed at juxtapositions, and printed whole. Own work.
-/
namespace Go.Proofs.YtikgblkfmpecfaaGreatDoor
open Go.RowKit
theorem printed_par_no (a b:Tr) (w:World) (iha:∀ w,Calls Tryz.prog 42 #[trV a,.bool false] w fun e w'=>e=.returned (.string (prT false a))∧Below w.heap.size w w')
  (ihb:∀ w,Calls Tryz.prog 42 #[trV b,.bool false] w fun e w'=>e=.returned (.string (prT false b))∧Below w.heap.size w w')
  (hsa:(prT false a).size≤65536) (hsb:(prT false b).size≤65536) :
  Calls Tryz.prog 42 #[trV (.par a b),.bool false] w fun e w'=>e=.returned (.string (prT false (.par a b)))∧Below w.heap.size w w':=by
 have h1:=ta_par_seq
 have h2:=ta_par_par
 rw [trV]
 obtain ⟨Ta,xa,ha⟩:=trV_iface a
 obtain ⟨Tb,xb,hb⟩:=trV_iface b
 have isa:=isSeq_any a
 have ipa:=isPar_any a
 have isb:=isSeq_any b
 have ipb:=isPar_any b
 rw [ha] at iha isa ipa ⊢
 rw [hb] at ihb isb ipb ⊢
 clear ha hb
 have za1:=brk_size (prT false a) true
 have za2:=brk_size (prT false a) false
 have za3:=brk_size (prT false a) a.isPar
 have zb1:=brk_size (prT false b) true
 have zb2:=brk_size (prT false b) false
 have zb3:=brk_size (prT false b) b.isPar
 have zs:bPar.size=3:=rfl
 have zc1:(brk (prT false a) true ++ bPar).size≤65541:=by rw [bsize];omega
 have zc2:(brk (prT false a) false ++ bPar).size≤65541:=by rw [bsize];omega
 have zc3:(brk (prT false a) a.isPar ++ bPar).size≤65541:=by rw [bsize];omega
 clear zs
 cases hp:a.isSeq <;> cases hq:b.isSeq
 ·have HQ:=Lib.hid hq
  have HA:=Lib.hid hp
  clear hq hp
  go_enter Tryz.func42,Tryz.ntmps42
  go_wp2_with fail
  have c0:(w.alloc (.cells #[.iface Ta (.agg xa),.iface Tb (.agg xb)] 142)).cell? ⟨w.heap.size,0,none⟩=some (.iface Ta (.agg xa)):=by simp
  have c1:(w.alloc (.cells #[.iface Ta (.agg xa),.iface Tb (.agg xb)] 142)).cell? ⟨w.heap.size,1,none⟩=some (.iface Tb (.agg xb)):=by simp
  have hz:w.heap.size<(w.alloc (.cells #[.iface Ta (.agg xa),.iface Tb (.agg xb)] 142)).heap.size:=by simp
  have hB0:Below w.heap.size w (w.alloc (.cells #[.iface Ta (.agg xa),.iface Tb (.agg xb)] 142)):=alloc_below _ _
  generalize w.alloc (.cells #[.iface Ta (.agg xa),.iface Tb (.agg xb)] 142)=w0 at *
  refine region_acts (C:=Exc (NoT) _) 6 [0,1,2,3,4,5,6,7,8,9,10,11,12,13,14,15,16] (by kernel_rfl) (by kernel_rfl) (Exc.grows _ _) (Exc.refl _ _) ?_
  iterate 3 (apply x_st rfl rfl rfl;(focus intro u hc' hf';go_simp <;> rfl);intro K hK;go_simp;apply hK;clear hK K)
  refine x_call rfl rfl rfl (Exc.grows _ _) (Exc.refl _ _) 42 (fun K hK=>?_);apply Exists.intro;refine ⟨fun w' hw'=>?_,fun wa hwa hbwa=>?_⟩;(focus go_simp;rfl);refine (iha _).mono ?_;rintro e w3 ⟨rfl,hb3⟩;refine ⟨_,rfl,hb3,fun hx=>?_⟩;go_simp;apply hK;clear hK K
  iterate 2 (apply x_st rfl rfl rfl;(focus intro u hc' hf';go_simp <;> rfl);intro K hK;go_simp;apply hK;clear hK K)
  refine x_call rfl rfl rfl (Exc.grows _ _) (hx) 84 (fun K hK=>?_);apply Exists.intro;refine ⟨fun w' hw'=>?_,fun wb hwb hbwb=>?_⟩;(focus go_simp;rfl);refine (isa _).mono ?_;rintro e w4 ⟨rfl,hb4⟩;refine ⟨_,rfl,hb4,fun hx=>?_⟩;go_simp;apply hK;clear hK K
  rw [HA.out]
  iterate 1 (apply x_st rfl rfl rfl;(focus intro u hc' hf';go_simp <;> rfl);intro K hK;go_simp;apply hK;clear hK K)
  iterate 2 (apply x_sg rfl rfl (by first|rfl|(simp [Region.wanted,yielded,go_sem]));(focus intro u hc' hf';go_simp <;> rfl);intro K hK;go_simp;apply hK;clear hK K)
  iterate 3 (refine x_skip rfl fun K hK=>⟨by first|rfl|(simp [Region.wanted,yielded,go_sem]),?_⟩;go_simp;apply hK;clear hK K)
  iterate 1 (apply x_sg rfl rfl (by first|rfl|(simp [Region.wanted,yielded,go_sem]));(focus intro u hc' hf';go_simp <;> rfl);intro K hK;go_simp;apply hK;clear hK K)
  iterate 1 (apply x_st rfl rfl rfl;(focus intro u hc' hf';go_simp <;> rfl);intro K hK;go_simp;apply hK;clear hK K)
  refine x_call rfl rfl rfl (Exc.grows _ _) (hx) 83 (fun K hK=>?_);apply Exists.intro;refine ⟨fun w' hw'=>?_,fun wc hwc hbwc=>?_⟩;(focus go_simp;rfl);refine (bracketed_any _ _ _ (by omega)).mono ?_;rintro e w5 ⟨rfl,rfl⟩;refine ⟨_,rfl,Below.refl _ _,fun hx=>?_⟩;go_simp;apply hK;clear hK K
  iterate 1 (apply x_st rfl rfl rfl;(focus intro u hc' hf';go_simp <;> rfl);intro K hK;go_simp;apply hK;clear hK K)
  refine x_nil ?_
  have hB:Below w0.heap.size w0 wc:=(Below.refl w0.heap.size w0).drew.trans ((hx.toBelow).mono (by simp))
  have c1b:=cell_keep hB c1
  have hzb:w.heap.size<wc.heap.size:=by have:=hB.size;omega
  have hB1:Below w.heap.size w wc:=hB0.trans (hB.mono (by omega))
  clear hx hwc hbwc hwb hbwb hwa hbwa c0 c1 hz hB0 hB hb3 hb4
  go_wp2_with fail
  refine region_acts (C:=Exc (NoT) _) 6 [0,1,2,3,4,5,6,7,8,9,10,11,12,13] (by kernel_rfl) (by kernel_rfl) (Exc.grows _ _) (Exc.refl _ _) ?_
  iterate 3 (apply x_st rfl rfl rfl;(focus intro u hc' hf';go_simp <;> rfl);intro K hK;go_simp;apply hK;clear hK K)
  refine x_call rfl rfl rfl (Exc.grows _ _) (Exc.refl _ _) 42 (fun K hK=>?_);apply Exists.intro;refine ⟨fun w' hw'=>?_,fun wd hwd hbwd=>?_⟩;(focus go_simp;rfl);refine (ihb _).mono ?_;rintro e w3 ⟨rfl,hb3⟩;refine ⟨_,rfl,hb3,fun hx=>?_⟩;go_simp;apply hK;clear hK K
  iterate 2 (apply x_st rfl rfl rfl;(focus intro u hc' hf';go_simp <;> rfl);intro K hK;go_simp;apply hK;clear hK K)
  refine x_call rfl rfl rfl (Exc.grows _ _) (hx) 84 (fun K hK=>?_);apply Exists.intro;refine ⟨fun w' hw'=>?_,fun we hwe hbwe=>?_⟩;(focus go_simp;rfl);refine (isb _).mono ?_;rintro e w4 ⟨rfl,hb4⟩;refine ⟨_,rfl,hb4,fun hx=>?_⟩;go_simp;apply hK;clear hK K
  rw [HQ.out]
  iterate 1 (apply x_st rfl rfl rfl;(focus intro u hc' hf';go_simp <;> rfl);intro K hK;go_simp;apply hK;clear hK K)
  iterate 2 (apply x_sg rfl rfl (by first|rfl|(simp [Region.wanted,yielded,go_sem]));(focus intro u hc' hf';go_simp <;> rfl);intro K hK;go_simp;apply hK;clear hK K)
  refine x_callg rfl rfl (Exc.grows _ _) (hx) 85 (fun K hK=>?_);refine ⟨by first|rfl|(simp [Region.wanted,yielded,go_sem]),?_⟩;apply Exists.intro;refine ⟨fun w' hw'=>?_,fun w' hw' hbw=>?_⟩;(focus go_simp;rfl);refine (ipb _).mono ?_;rintro e w6 ⟨rfl,hb6⟩;refine ⟨_,rfl,hb6,fun hx=>?_⟩;go_simp;apply hK;clear hK K
  iterate 1 (apply x_st rfl rfl rfl;(focus intro u hc' hf';go_simp <;> rfl);intro K hK;go_simp;apply hK;clear hK K)
  refine x_call rfl rfl rfl (Exc.grows _ _) (hx) 83 (fun K hK=>?_);apply Exists.intro;refine ⟨fun w' hw'=>?_,fun wf hwf hbwf=>?_⟩;(focus go_simp;rfl);refine (bracketed_any _ _ _ (by omega)).mono ?_;rintro e w5 ⟨rfl,rfl⟩;refine ⟨_,rfl,Below.refl _ _,fun hx=>?_⟩;go_simp;apply hK;clear hK K
  iterate 1 (apply x_st rfl rfl rfl;(focus intro u hc' hf';go_simp <;> rfl);intro K hK;go_simp;apply hK;clear hK K)
  refine x_nil ?_
  go_wp2
  go_ret
  exact ⟨by rw [prT];simp only [HA.out,HQ.out,Bool.false_and,Bool.true_and,Bool.false_or,Bool.true_or,Bool.or_false,Bool.or_true,Bool.and_false,Bool.and_true];rfl,hB1.trans ((Below.refl wc.heap.size wc).drew.trans ((hx.toBelow).mono (by simp)) |>.mono (by have:=hB1.size;omega))⟩
 ·have HQ:=Lib.hid hq
  have HA:=Lib.hid hp
  clear hq hp
  go_enter Tryz.func42,Tryz.ntmps42
  go_wp2_with fail
  have c0:(w.alloc (.cells #[.iface Ta (.agg xa),.iface Tb (.agg xb)] 142)).cell? ⟨w.heap.size,0,none⟩=some (.iface Ta (.agg xa)):=by simp
  have c1:(w.alloc (.cells #[.iface Ta (.agg xa),.iface Tb (.agg xb)] 142)).cell? ⟨w.heap.size,1,none⟩=some (.iface Tb (.agg xb)):=by simp
  have hz:w.heap.size<(w.alloc (.cells #[.iface Ta (.agg xa),.iface Tb (.agg xb)] 142)).heap.size:=by simp
  have hB0:Below w.heap.size w (w.alloc (.cells #[.iface Ta (.agg xa),.iface Tb (.agg xb)] 142)):=alloc_below _ _
  generalize w.alloc (.cells #[.iface Ta (.agg xa),.iface Tb (.agg xb)] 142)=w0 at *
  refine region_acts (C:=Exc (NoT) _) 6 [0,1,2,3,4,5,6,7,8,9,10,11,12,13,14,15,16] (by kernel_rfl) (by kernel_rfl) (Exc.grows _ _) (Exc.refl _ _) ?_
  iterate 3 (apply x_st rfl rfl rfl;(focus intro u hc' hf';go_simp <;> rfl);intro K hK;go_simp;apply hK;clear hK K)
  refine x_call rfl rfl rfl (Exc.grows _ _) (Exc.refl _ _) 42 (fun K hK=>?_);apply Exists.intro;refine ⟨fun w' hw'=>?_,fun wa hwa hbwa=>?_⟩;(focus go_simp;rfl);refine (iha _).mono ?_;rintro e w3 ⟨rfl,hb3⟩;refine ⟨_,rfl,hb3,fun hx=>?_⟩;go_simp;apply hK;clear hK K
  iterate 2 (apply x_st rfl rfl rfl;(focus intro u hc' hf';go_simp <;> rfl);intro K hK;go_simp;apply hK;clear hK K)
  refine x_call rfl rfl rfl (Exc.grows _ _) (hx) 84 (fun K hK=>?_);apply Exists.intro;refine ⟨fun w' hw'=>?_,fun wb hwb hbwb=>?_⟩;(focus go_simp;rfl);refine (isa _).mono ?_;rintro e w4 ⟨rfl,hb4⟩;refine ⟨_,rfl,hb4,fun hx=>?_⟩;go_simp;apply hK;clear hK K
  rw [HA.out]
  iterate 1 (apply x_st rfl rfl rfl;(focus intro u hc' hf';go_simp <;> rfl);intro K hK;go_simp;apply hK;clear hK K)
  iterate 2 (apply x_sg rfl rfl (by first|rfl|(simp [Region.wanted,yielded,go_sem]));(focus intro u hc' hf';go_simp <;> rfl);intro K hK;go_simp;apply hK;clear hK K)
  iterate 3 (refine x_skip rfl fun K hK=>⟨by first|rfl|(simp [Region.wanted,yielded,go_sem]),?_⟩;go_simp;apply hK;clear hK K)
  iterate 1 (apply x_sg rfl rfl (by first|rfl|(simp [Region.wanted,yielded,go_sem]));(focus intro u hc' hf';go_simp <;> rfl);intro K hK;go_simp;apply hK;clear hK K)
  iterate 1 (apply x_st rfl rfl rfl;(focus intro u hc' hf';go_simp <;> rfl);intro K hK;go_simp;apply hK;clear hK K)
  refine x_call rfl rfl rfl (Exc.grows _ _) (hx) 83 (fun K hK=>?_);apply Exists.intro;refine ⟨fun w' hw'=>?_,fun wc hwc hbwc=>?_⟩;(focus go_simp;rfl);refine (bracketed_any _ _ _ (by omega)).mono ?_;rintro e w5 ⟨rfl,rfl⟩;refine ⟨_,rfl,Below.refl _ _,fun hx=>?_⟩;go_simp;apply hK;clear hK K
  iterate 1 (apply x_st rfl rfl rfl;(focus intro u hc' hf';go_simp <;> rfl);intro K hK;go_simp;apply hK;clear hK K)
  refine x_nil ?_
  have hB:Below w0.heap.size w0 wc:=(Below.refl w0.heap.size w0).drew.trans ((hx.toBelow).mono (by simp))
  have c1b:=cell_keep hB c1
  have hzb:w.heap.size<wc.heap.size:=by have:=hB.size;omega
  have hB1:Below w.heap.size w wc:=hB0.trans (hB.mono (by omega))
  clear hx hwc hbwc hwb hbwb hwa hbwa c0 c1 hz hB0 hB hb3 hb4
  go_wp2_with fail
  refine region_acts (C:=Exc (NoT) _) 6 [0,1,2,3,4,5,6,7,8,9,10,11,12,13] (by kernel_rfl) (by kernel_rfl) (Exc.grows _ _) (Exc.refl _ _) ?_
  iterate 3 (apply x_st rfl rfl rfl;(focus intro u hc' hf';go_simp <;> rfl);intro K hK;go_simp;apply hK;clear hK K)
  refine x_call rfl rfl rfl (Exc.grows _ _) (Exc.refl _ _) 42 (fun K hK=>?_);apply Exists.intro;refine ⟨fun w' hw'=>?_,fun wd hwd hbwd=>?_⟩;(focus go_simp;rfl);refine (ihb _).mono ?_;rintro e w3 ⟨rfl,hb3⟩;refine ⟨_,rfl,hb3,fun hx=>?_⟩;go_simp;apply hK;clear hK K
  iterate 2 (apply x_st rfl rfl rfl;(focus intro u hc' hf';go_simp <;> rfl);intro K hK;go_simp;apply hK;clear hK K)
  refine x_call rfl rfl rfl (Exc.grows _ _) (hx) 84 (fun K hK=>?_);apply Exists.intro;refine ⟨fun w' hw'=>?_,fun we hwe hbwe=>?_⟩;(focus go_simp;rfl);refine (isb _).mono ?_;rintro e w4 ⟨rfl,hb4⟩;refine ⟨_,rfl,hb4,fun hx=>?_⟩;go_simp;apply hK;clear hK K
  rw [HQ.out]
  iterate 1 (apply x_st rfl rfl rfl;(focus intro u hc' hf';go_simp <;> rfl);intro K hK;go_simp;apply hK;clear hK K)
  iterate 3 (refine x_skip rfl fun K hK=>⟨by first|rfl|(simp [Region.wanted,yielded,go_sem]),?_⟩;go_simp;apply hK;clear hK K)
  iterate 1 (apply x_st rfl rfl rfl;(focus intro u hc' hf';go_simp <;> rfl);intro K hK;go_simp;apply hK;clear hK K)
  refine x_call rfl rfl rfl (Exc.grows _ _) (hx) 83 (fun K hK=>?_);apply Exists.intro;refine ⟨fun w' hw'=>?_,fun wf hwf hbwf=>?_⟩;(focus go_simp;rfl);refine (bracketed_any _ _ _ (by omega)).mono ?_;rintro e w5 ⟨rfl,rfl⟩;refine ⟨_,rfl,Below.refl _ _,fun hx=>?_⟩;go_simp;apply hK;clear hK K
  iterate 1 (apply x_st rfl rfl rfl;(focus intro u hc' hf';go_simp <;> rfl);intro K hK;go_simp;apply hK;clear hK K)
  refine x_nil ?_
  go_wp2
  go_ret
  exact ⟨by rw [prT];simp only [HA.out,HQ.out,Bool.false_and,Bool.true_and,Bool.false_or,Bool.true_or,Bool.or_false,Bool.or_true,Bool.and_false,Bool.and_true];rfl,hB1.trans ((Below.refl wc.heap.size wc).drew.trans ((hx.toBelow).mono (by simp)) |>.mono (by have:=hB1.size;omega))⟩
 ·have HQ:=Lib.hid hq
  have HA:=Lib.hid hp
  clear hq hp
  go_enter Tryz.func42,Tryz.ntmps42
  go_wp2_with fail
  have c0:(w.alloc (.cells #[.iface Ta (.agg xa),.iface Tb (.agg xb)] 142)).cell? ⟨w.heap.size,0,none⟩=some (.iface Ta (.agg xa)):=by simp
  have c1:(w.alloc (.cells #[.iface Ta (.agg xa),.iface Tb (.agg xb)] 142)).cell? ⟨w.heap.size,1,none⟩=some (.iface Tb (.agg xb)):=by simp
  have hz:w.heap.size<(w.alloc (.cells #[.iface Ta (.agg xa),.iface Tb (.agg xb)] 142)).heap.size:=by simp
  have hB0:Below w.heap.size w (w.alloc (.cells #[.iface Ta (.agg xa),.iface Tb (.agg xb)] 142)):=alloc_below _ _
  generalize w.alloc (.cells #[.iface Ta (.agg xa),.iface Tb (.agg xb)] 142)=w0 at *
  refine region_acts (C:=Exc (NoT) _) 6 [0,1,2,3,4,5,6,7,8,9,10,11,12,13,14,15,16] (by kernel_rfl) (by kernel_rfl) (Exc.grows _ _) (Exc.refl _ _) ?_
  iterate 3 (apply x_st rfl rfl rfl;(focus intro u hc' hf';go_simp <;> rfl);intro K hK;go_simp;apply hK;clear hK K)
  refine x_call rfl rfl rfl (Exc.grows _ _) (Exc.refl _ _) 42 (fun K hK=>?_);apply Exists.intro;refine ⟨fun w' hw'=>?_,fun wa hwa hbwa=>?_⟩;(focus go_simp;rfl);refine (iha _).mono ?_;rintro e w3 ⟨rfl,hb3⟩;refine ⟨_,rfl,hb3,fun hx=>?_⟩;go_simp;apply hK;clear hK K
  iterate 2 (apply x_st rfl rfl rfl;(focus intro u hc' hf';go_simp <;> rfl);intro K hK;go_simp;apply hK;clear hK K)
  refine x_call rfl rfl rfl (Exc.grows _ _) (hx) 84 (fun K hK=>?_);apply Exists.intro;refine ⟨fun w' hw'=>?_,fun wb hwb hbwb=>?_⟩;(focus go_simp;rfl);refine (isa _).mono ?_;rintro e w4 ⟨rfl,hb4⟩;refine ⟨_,rfl,hb4,fun hx=>?_⟩;go_simp;apply hK;clear hK K
  rw [HA.out]
  iterate 1 (apply x_st rfl rfl rfl;(focus intro u hc' hf';go_simp <;> rfl);intro K hK;go_simp;apply hK;clear hK K)
  iterate 6 (refine x_skip rfl fun K hK=>⟨by first|rfl|(simp [Region.wanted,yielded,go_sem]),?_⟩;go_simp;apply hK;clear hK K)
  iterate 1 (apply x_st rfl rfl rfl;(focus intro u hc' hf';go_simp <;> rfl);intro K hK;go_simp;apply hK;clear hK K)
  refine x_call rfl rfl rfl (Exc.grows _ _) (hx) 83 (fun K hK=>?_);apply Exists.intro;refine ⟨fun w' hw'=>?_,fun wc hwc hbwc=>?_⟩;(focus go_simp;rfl);refine (bracketed_any _ _ _ (by omega)).mono ?_;rintro e w5 ⟨rfl,rfl⟩;refine ⟨_,rfl,Below.refl _ _,fun hx=>?_⟩;go_simp;apply hK;clear hK K
  iterate 1 (apply x_st rfl rfl rfl;(focus intro u hc' hf';go_simp <;> rfl);intro K hK;go_simp;apply hK;clear hK K)
  refine x_nil ?_
  have hB:Below w0.heap.size w0 wc:=(Below.refl w0.heap.size w0).drew.trans ((hx.toBelow).mono (by simp))
  have c1b:=cell_keep hB c1
  have hzb:w.heap.size<wc.heap.size:=by have:=hB.size;omega
  have hB1:Below w.heap.size w wc:=hB0.trans (hB.mono (by omega))
  clear hx hwc hbwc hwb hbwb hwa hbwa c0 c1 hz hB0 hB hb3 hb4
  go_wp2_with fail
  refine region_acts (C:=Exc (NoT) _) 6 [0,1,2,3,4,5,6,7,8,9,10,11,12,13] (by kernel_rfl) (by kernel_rfl) (Exc.grows _ _) (Exc.refl _ _) ?_
  iterate 3 (apply x_st rfl rfl rfl;(focus intro u hc' hf';go_simp <;> rfl);intro K hK;go_simp;apply hK;clear hK K)
  refine x_call rfl rfl rfl (Exc.grows _ _) (Exc.refl _ _) 42 (fun K hK=>?_);apply Exists.intro;refine ⟨fun w' hw'=>?_,fun wd hwd hbwd=>?_⟩;(focus go_simp;rfl);refine (ihb _).mono ?_;rintro e w3 ⟨rfl,hb3⟩;refine ⟨_,rfl,hb3,fun hx=>?_⟩;go_simp;apply hK;clear hK K
  iterate 2 (apply x_st rfl rfl rfl;(focus intro u hc' hf';go_simp <;> rfl);intro K hK;go_simp;apply hK;clear hK K)
  refine x_call rfl rfl rfl (Exc.grows _ _) (hx) 84 (fun K hK=>?_);apply Exists.intro;refine ⟨fun w' hw'=>?_,fun we hwe hbwe=>?_⟩;(focus go_simp;rfl);refine (isb _).mono ?_;rintro e w4 ⟨rfl,hb4⟩;refine ⟨_,rfl,hb4,fun hx=>?_⟩;go_simp;apply hK;clear hK K
  rw [HQ.out]
  iterate 1 (apply x_st rfl rfl rfl;(focus intro u hc' hf';go_simp <;> rfl);intro K hK;go_simp;apply hK;clear hK K)
  iterate 2 (apply x_sg rfl rfl (by first|rfl|(simp [Region.wanted,yielded,go_sem]));(focus intro u hc' hf';go_simp <;> rfl);intro K hK;go_simp;apply hK;clear hK K)
  refine x_callg rfl rfl (Exc.grows _ _) (hx) 85 (fun K hK=>?_);refine ⟨by first|rfl|(simp [Region.wanted,yielded,go_sem]),?_⟩;apply Exists.intro;refine ⟨fun w' hw'=>?_,fun w' hw' hbw=>?_⟩;(focus go_simp;rfl);refine (ipb _).mono ?_;rintro e w6 ⟨rfl,hb6⟩;refine ⟨_,rfl,hb6,fun hx=>?_⟩;go_simp;apply hK;clear hK K
  iterate 1 (apply x_st rfl rfl rfl;(focus intro u hc' hf';go_simp <;> rfl);intro K hK;go_simp;apply hK;clear hK K)
  refine x_call rfl rfl rfl (Exc.grows _ _) (hx) 83 (fun K hK=>?_);apply Exists.intro;refine ⟨fun w' hw'=>?_,fun wf hwf hbwf=>?_⟩;(focus go_simp;rfl);refine (bracketed_any _ _ _ (by omega)).mono ?_;rintro e w5 ⟨rfl,rfl⟩;refine ⟨_,rfl,Below.refl _ _,fun hx=>?_⟩;go_simp;apply hK;clear hK K
  iterate 1 (apply x_st rfl rfl rfl;(focus intro u hc' hf';go_simp <;> rfl);intro K hK;go_simp;apply hK;clear hK K)
  refine x_nil ?_
  go_wp2
  go_ret
  exact ⟨by rw [prT];simp only [HA.out,HQ.out,Bool.false_and,Bool.true_and,Bool.false_or,Bool.true_or,Bool.or_false,Bool.or_true,Bool.and_false,Bool.and_true];rfl,hB1.trans ((Below.refl wc.heap.size wc).drew.trans ((hx.toBelow).mono (by simp)) |>.mono (by have:=hB1.size;omega))⟩
 ·have HQ:=Lib.hid hq
  have HA:=Lib.hid hp
  clear hq hp
  go_enter Tryz.func42,Tryz.ntmps42
  go_wp2_with fail
  have c0:(w.alloc (.cells #[.iface Ta (.agg xa),.iface Tb (.agg xb)] 142)).cell? ⟨w.heap.size,0,none⟩=some (.iface Ta (.agg xa)):=by simp
  have c1:(w.alloc (.cells #[.iface Ta (.agg xa),.iface Tb (.agg xb)] 142)).cell? ⟨w.heap.size,1,none⟩=some (.iface Tb (.agg xb)):=by simp
  have hz:w.heap.size<(w.alloc (.cells #[.iface Ta (.agg xa),.iface Tb (.agg xb)] 142)).heap.size:=by simp
  have hB0:Below w.heap.size w (w.alloc (.cells #[.iface Ta (.agg xa),.iface Tb (.agg xb)] 142)):=alloc_below _ _
  generalize w.alloc (.cells #[.iface Ta (.agg xa),.iface Tb (.agg xb)] 142)=w0 at *
  refine region_acts (C:=Exc (NoT) _) 6 [0,1,2,3,4,5,6,7,8,9,10,11,12,13,14,15,16] (by kernel_rfl) (by kernel_rfl) (Exc.grows _ _) (Exc.refl _ _) ?_
  iterate 3 (apply x_st rfl rfl rfl;(focus intro u hc' hf';go_simp <;> rfl);intro K hK;go_simp;apply hK;clear hK K)
  refine x_call rfl rfl rfl (Exc.grows _ _) (Exc.refl _ _) 42 (fun K hK=>?_);apply Exists.intro;refine ⟨fun w' hw'=>?_,fun wa hwa hbwa=>?_⟩;(focus go_simp;rfl);refine (iha _).mono ?_;rintro e w3 ⟨rfl,hb3⟩;refine ⟨_,rfl,hb3,fun hx=>?_⟩;go_simp;apply hK;clear hK K
  iterate 2 (apply x_st rfl rfl rfl;(focus intro u hc' hf';go_simp <;> rfl);intro K hK;go_simp;apply hK;clear hK K)
  refine x_call rfl rfl rfl (Exc.grows _ _) (hx) 84 (fun K hK=>?_);apply Exists.intro;refine ⟨fun w' hw'=>?_,fun wb hwb hbwb=>?_⟩;(focus go_simp;rfl);refine (isa _).mono ?_;rintro e w4 ⟨rfl,hb4⟩;refine ⟨_,rfl,hb4,fun hx=>?_⟩;go_simp;apply hK;clear hK K
  rw [HA.out]
  iterate 1 (apply x_st rfl rfl rfl;(focus intro u hc' hf';go_simp <;> rfl);intro K hK;go_simp;apply hK;clear hK K)
  iterate 6 (refine x_skip rfl fun K hK=>⟨by first|rfl|(simp [Region.wanted,yielded,go_sem]),?_⟩;go_simp;apply hK;clear hK K)
  iterate 1 (apply x_st rfl rfl rfl;(focus intro u hc' hf';go_simp <;> rfl);intro K hK;go_simp;apply hK;clear hK K)
  refine x_call rfl rfl rfl (Exc.grows _ _) (hx) 83 (fun K hK=>?_);apply Exists.intro;refine ⟨fun w' hw'=>?_,fun wc hwc hbwc=>?_⟩;(focus go_simp;rfl);refine (bracketed_any _ _ _ (by omega)).mono ?_;rintro e w5 ⟨rfl,rfl⟩;refine ⟨_,rfl,Below.refl _ _,fun hx=>?_⟩;go_simp;apply hK;clear hK K
  iterate 1 (apply x_st rfl rfl rfl;(focus intro u hc' hf';go_simp <;> rfl);intro K hK;go_simp;apply hK;clear hK K)
  refine x_nil ?_
  have hB:Below w0.heap.size w0 wc:=(Below.refl w0.heap.size w0).drew.trans ((hx.toBelow).mono (by simp))
  have c1b:=cell_keep hB c1
  have hzb:w.heap.size<wc.heap.size:=by have:=hB.size;omega
  have hB1:Below w.heap.size w wc:=hB0.trans (hB.mono (by omega))
  clear hx hwc hbwc hwb hbwb hwa hbwa c0 c1 hz hB0 hB hb3 hb4
  go_wp2_with fail
  refine region_acts (C:=Exc (NoT) _) 6 [0,1,2,3,4,5,6,7,8,9,10,11,12,13] (by kernel_rfl) (by kernel_rfl) (Exc.grows _ _) (Exc.refl _ _) ?_
  iterate 3 (apply x_st rfl rfl rfl;(focus intro u hc' hf';go_simp <;> rfl);intro K hK;go_simp;apply hK;clear hK K)
  refine x_call rfl rfl rfl (Exc.grows _ _) (Exc.refl _ _) 42 (fun K hK=>?_);apply Exists.intro;refine ⟨fun w' hw'=>?_,fun wd hwd hbwd=>?_⟩;(focus go_simp;rfl);refine (ihb _).mono ?_;rintro e w3 ⟨rfl,hb3⟩;refine ⟨_,rfl,hb3,fun hx=>?_⟩;go_simp;apply hK;clear hK K
  iterate 2 (apply x_st rfl rfl rfl;(focus intro u hc' hf';go_simp <;> rfl);intro K hK;go_simp;apply hK;clear hK K)
  refine x_call rfl rfl rfl (Exc.grows _ _) (hx) 84 (fun K hK=>?_);apply Exists.intro;refine ⟨fun w' hw'=>?_,fun we hwe hbwe=>?_⟩;(focus go_simp;rfl);refine (isb _).mono ?_;rintro e w4 ⟨rfl,hb4⟩;refine ⟨_,rfl,hb4,fun hx=>?_⟩;go_simp;apply hK;clear hK K
  rw [HQ.out]
  iterate 1 (apply x_st rfl rfl rfl;(focus intro u hc' hf';go_simp <;> rfl);intro K hK;go_simp;apply hK;clear hK K)
  iterate 3 (refine x_skip rfl fun K hK=>⟨by first|rfl|(simp [Region.wanted,yielded,go_sem]),?_⟩;go_simp;apply hK;clear hK K)
  iterate 1 (apply x_st rfl rfl rfl;(focus intro u hc' hf';go_simp <;> rfl);intro K hK;go_simp;apply hK;clear hK K)
  refine x_call rfl rfl rfl (Exc.grows _ _) (hx) 83 (fun K hK=>?_);apply Exists.intro;refine ⟨fun w' hw'=>?_,fun wf hwf hbwf=>?_⟩;(focus go_simp;rfl);refine (bracketed_any _ _ _ (by omega)).mono ?_;rintro e w5 ⟨rfl,rfl⟩;refine ⟨_,rfl,Below.refl _ _,fun hx=>?_⟩;go_simp;apply hK;clear hK K
  iterate 1 (apply x_st rfl rfl rfl;(focus intro u hc' hf';go_simp <;> rfl);intro K hK;go_simp;apply hK;clear hK K)
  refine x_nil ?_
  go_wp2
  go_ret
  exact ⟨by rw [prT];simp only [HA.out,HQ.out,Bool.false_and,Bool.true_and,Bool.false_or,Bool.true_or,Bool.or_false,Bool.or_true,Bool.and_false,Bool.and_true];rfl,hB1.trans ((Below.refl wc.heap.size wc).drew.trans ((hx.toBelow).mono (by simp)) |>.mono (by have:=hB1.size;omega))⟩
theorem printed_par_yes (a b:Tr) (w:World) (iha:∀ w,Calls Tryz.prog 42 #[trV a,.bool true] w fun e w'=>e=.returned (.string (prT true a))∧Below w.heap.size w w')
  (ihb:∀ w,Calls Tryz.prog 42 #[trV b,.bool true] w fun e w'=>e=.returned (.string (prT true b))∧Below w.heap.size w w')
  (hsa:(prT true a).size≤65536) (hsb:(prT true b).size≤65536) :
  Calls Tryz.prog 42 #[trV (.par a b),.bool true] w fun e w'=>e=.returned (.string (prT true (.par a b)))∧Below w.heap.size w w':=by
 have h1:=ta_par_seq
 have h2:=ta_par_par
 rw [trV]
 obtain ⟨Ta,xa,ha⟩:=trV_iface a
 obtain ⟨Tb,xb,hb⟩:=trV_iface b
 have isa:=isSeq_any a
 have ipa:=isPar_any a
 have isb:=isSeq_any b
 have ipb:=isPar_any b
 rw [ha] at iha isa ipa ⊢
 rw [hb] at ihb isb ipb ⊢
 clear ha hb
 have za1:=brk_size (prT true a) true
 have za2:=brk_size (prT true a) false
 have za3:=brk_size (prT true a) a.isPar
 have zb1:=brk_size (prT true b) true
 have zb2:=brk_size (prT true b) false
 have zb3:=brk_size (prT true b) b.isPar
 have zs:bPar.size=3:=rfl
 have zc1:(brk (prT true a) true ++ bPar).size≤65541:=by rw [bsize];omega
 have zc2:(brk (prT true a) false ++ bPar).size≤65541:=by rw [bsize];omega
 have zc3:(brk (prT true a) a.isPar ++ bPar).size≤65541:=by rw [bsize];omega
 clear zs
 cases hp:a.isSeq <;> cases hq:b.isSeq
 ·have HQ:=Lib.hid hq
  have HA:=Lib.hid hp
  clear hq hp
  go_enter Tryz.func42,Tryz.ntmps42
  go_wp2_with fail
  have c0:(w.alloc (.cells #[.iface Ta (.agg xa),.iface Tb (.agg xb)] 142)).cell? ⟨w.heap.size,0,none⟩=some (.iface Ta (.agg xa)):=by simp
  have c1:(w.alloc (.cells #[.iface Ta (.agg xa),.iface Tb (.agg xb)] 142)).cell? ⟨w.heap.size,1,none⟩=some (.iface Tb (.agg xb)):=by simp
  have hz:w.heap.size<(w.alloc (.cells #[.iface Ta (.agg xa),.iface Tb (.agg xb)] 142)).heap.size:=by simp
  have hB0:Below w.heap.size w (w.alloc (.cells #[.iface Ta (.agg xa),.iface Tb (.agg xb)] 142)):=alloc_below _ _
  generalize w.alloc (.cells #[.iface Ta (.agg xa),.iface Tb (.agg xb)] 142)=w0 at *
  refine region_acts (C:=Exc (NoT) _) 6 [0,1,2,3,4,5,6,7,8,9,10,11,12,13,14,15,16] (by kernel_rfl) (by kernel_rfl) (Exc.grows _ _) (Exc.refl _ _) ?_
  iterate 3 (apply x_st rfl rfl rfl;(focus intro u hc' hf';go_simp <;> rfl);intro K hK;go_simp;apply hK;clear hK K)
  refine x_call rfl rfl rfl (Exc.grows _ _) (Exc.refl _ _) 42 (fun K hK=>?_);apply Exists.intro;refine ⟨fun w' hw'=>?_,fun wa hwa hbwa=>?_⟩;(focus go_simp;rfl);refine (iha _).mono ?_;rintro e w3 ⟨rfl,hb3⟩;refine ⟨_,rfl,hb3,fun hx=>?_⟩;go_simp;apply hK;clear hK K
  iterate 2 (apply x_st rfl rfl rfl;(focus intro u hc' hf';go_simp <;> rfl);intro K hK;go_simp;apply hK;clear hK K)
  refine x_call rfl rfl rfl (Exc.grows _ _) (hx) 84 (fun K hK=>?_);apply Exists.intro;refine ⟨fun w' hw'=>?_,fun wb hwb hbwb=>?_⟩;(focus go_simp;rfl);refine (isa _).mono ?_;rintro e w4 ⟨rfl,hb4⟩;refine ⟨_,rfl,hb4,fun hx=>?_⟩;go_simp;apply hK;clear hK K
  rw [HA.out]
  iterate 1 (apply x_st rfl rfl rfl;(focus intro u hc' hf';go_simp <;> rfl);intro K hK;go_simp;apply hK;clear hK K)
  iterate 4 (apply x_sg rfl rfl (by first|rfl|(simp [Region.wanted,yielded,go_sem]));(focus intro u hc' hf';go_simp <;> rfl);intro K hK;go_simp;apply hK;clear hK K)
  refine x_callg rfl rfl (Exc.grows _ _) (hx) 85 (fun K hK=>?_);refine ⟨by first|rfl|(simp [Region.wanted,yielded,go_sem]),?_⟩;apply Exists.intro;refine ⟨fun w' hw'=>?_,fun w' hw' hbw=>?_⟩;(focus go_simp;rfl);refine (ipa _).mono ?_;rintro e w6 ⟨rfl,hb6⟩;refine ⟨_,rfl,hb6,fun hx=>?_⟩;go_simp;apply hK;clear hK K
  iterate 1 (apply x_sg rfl rfl (by first|rfl|(simp [Region.wanted,yielded,go_sem]));(focus intro u hc' hf';go_simp <;> rfl);intro K hK;go_simp;apply hK;clear hK K)
  iterate 1 (apply x_st rfl rfl rfl;(focus intro u hc' hf';go_simp <;> rfl);intro K hK;go_simp;apply hK;clear hK K)
  refine x_call rfl rfl rfl (Exc.grows _ _) (hx) 83 (fun K hK=>?_);apply Exists.intro;refine ⟨fun w' hw'=>?_,fun wc hwc hbwc=>?_⟩;(focus go_simp;rfl);refine (bracketed_any _ _ _ (by omega)).mono ?_;rintro e w5 ⟨rfl,rfl⟩;refine ⟨_,rfl,Below.refl _ _,fun hx=>?_⟩;go_simp;apply hK;clear hK K
  iterate 1 (apply x_st rfl rfl rfl;(focus intro u hc' hf';go_simp <;> rfl);intro K hK;go_simp;apply hK;clear hK K)
  refine x_nil ?_
  have hB:Below w0.heap.size w0 wc:=(Below.refl w0.heap.size w0).drew.trans ((hx.toBelow).mono (by simp))
  have c1b:=cell_keep hB c1
  have hzb:w.heap.size<wc.heap.size:=by have:=hB.size;omega
  have hB1:Below w.heap.size w wc:=hB0.trans (hB.mono (by omega))
  clear hx hwc hbwc hwb hbwb hwa hbwa c0 c1 hz hB0 hB hb3 hb4
  go_wp2_with fail
  refine region_acts (C:=Exc (NoT) _) 6 [0,1,2,3,4,5,6,7,8,9,10,11,12,13] (by kernel_rfl) (by kernel_rfl) (Exc.grows _ _) (Exc.refl _ _) ?_
  iterate 3 (apply x_st rfl rfl rfl;(focus intro u hc' hf';go_simp <;> rfl);intro K hK;go_simp;apply hK;clear hK K)
  refine x_call rfl rfl rfl (Exc.grows _ _) (Exc.refl _ _) 42 (fun K hK=>?_);apply Exists.intro;refine ⟨fun w' hw'=>?_,fun wd hwd hbwd=>?_⟩;(focus go_simp;rfl);refine (ihb _).mono ?_;rintro e w3 ⟨rfl,hb3⟩;refine ⟨_,rfl,hb3,fun hx=>?_⟩;go_simp;apply hK;clear hK K
  iterate 2 (apply x_st rfl rfl rfl;(focus intro u hc' hf';go_simp <;> rfl);intro K hK;go_simp;apply hK;clear hK K)
  refine x_call rfl rfl rfl (Exc.grows _ _) (hx) 84 (fun K hK=>?_);apply Exists.intro;refine ⟨fun w' hw'=>?_,fun we hwe hbwe=>?_⟩;(focus go_simp;rfl);refine (isb _).mono ?_;rintro e w4 ⟨rfl,hb4⟩;refine ⟨_,rfl,hb4,fun hx=>?_⟩;go_simp;apply hK;clear hK K
  rw [HQ.out]
  iterate 1 (apply x_st rfl rfl rfl;(focus intro u hc' hf';go_simp <;> rfl);intro K hK;go_simp;apply hK;clear hK K)
  iterate 2 (apply x_sg rfl rfl (by first|rfl|(simp [Region.wanted,yielded,go_sem]));(focus intro u hc' hf';go_simp <;> rfl);intro K hK;go_simp;apply hK;clear hK K)
  refine x_callg rfl rfl (Exc.grows _ _) (hx) 85 (fun K hK=>?_);refine ⟨by first|rfl|(simp [Region.wanted,yielded,go_sem]),?_⟩;apply Exists.intro;refine ⟨fun w' hw'=>?_,fun w' hw' hbw=>?_⟩;(focus go_simp;rfl);refine (ipb _).mono ?_;rintro e w6 ⟨rfl,hb6⟩;refine ⟨_,rfl,hb6,fun hx=>?_⟩;go_simp;apply hK;clear hK K
  iterate 1 (apply x_st rfl rfl rfl;(focus intro u hc' hf';go_simp <;> rfl);intro K hK;go_simp;apply hK;clear hK K)
  refine x_call rfl rfl rfl (Exc.grows _ _) (hx) 83 (fun K hK=>?_);apply Exists.intro;refine ⟨fun w' hw'=>?_,fun wf hwf hbwf=>?_⟩;(focus go_simp;rfl);refine (bracketed_any _ _ _ (by omega)).mono ?_;rintro e w5 ⟨rfl,rfl⟩;refine ⟨_,rfl,Below.refl _ _,fun hx=>?_⟩;go_simp;apply hK;clear hK K
  iterate 1 (apply x_st rfl rfl rfl;(focus intro u hc' hf';go_simp <;> rfl);intro K hK;go_simp;apply hK;clear hK K)
  refine x_nil ?_
  go_wp2
  go_ret
  exact ⟨by rw [prT];simp only [HA.out,HQ.out,Bool.false_and,Bool.true_and,Bool.false_or,Bool.true_or,Bool.or_false,Bool.or_true,Bool.and_false,Bool.and_true];rfl,hB1.trans ((Below.refl wc.heap.size wc).drew.trans ((hx.toBelow).mono (by simp)) |>.mono (by have:=hB1.size;omega))⟩
 ·have HQ:=Lib.hid hq
  have HA:=Lib.hid hp
  clear hq hp
  go_enter Tryz.func42,Tryz.ntmps42
  go_wp2_with fail
  have c0:(w.alloc (.cells #[.iface Ta (.agg xa),.iface Tb (.agg xb)] 142)).cell? ⟨w.heap.size,0,none⟩=some (.iface Ta (.agg xa)):=by simp
  have c1:(w.alloc (.cells #[.iface Ta (.agg xa),.iface Tb (.agg xb)] 142)).cell? ⟨w.heap.size,1,none⟩=some (.iface Tb (.agg xb)):=by simp
  have hz:w.heap.size<(w.alloc (.cells #[.iface Ta (.agg xa),.iface Tb (.agg xb)] 142)).heap.size:=by simp
  have hB0:Below w.heap.size w (w.alloc (.cells #[.iface Ta (.agg xa),.iface Tb (.agg xb)] 142)):=alloc_below _ _
  generalize w.alloc (.cells #[.iface Ta (.agg xa),.iface Tb (.agg xb)] 142)=w0 at *
  refine region_acts (C:=Exc (NoT) _) 6 [0,1,2,3,4,5,6,7,8,9,10,11,12,13,14,15,16] (by kernel_rfl) (by kernel_rfl) (Exc.grows _ _) (Exc.refl _ _) ?_
  iterate 3 (apply x_st rfl rfl rfl;(focus intro u hc' hf';go_simp <;> rfl);intro K hK;go_simp;apply hK;clear hK K)
  refine x_call rfl rfl rfl (Exc.grows _ _) (Exc.refl _ _) 42 (fun K hK=>?_);apply Exists.intro;refine ⟨fun w' hw'=>?_,fun wa hwa hbwa=>?_⟩;(focus go_simp;rfl);refine (iha _).mono ?_;rintro e w3 ⟨rfl,hb3⟩;refine ⟨_,rfl,hb3,fun hx=>?_⟩;go_simp;apply hK;clear hK K
  iterate 2 (apply x_st rfl rfl rfl;(focus intro u hc' hf';go_simp <;> rfl);intro K hK;go_simp;apply hK;clear hK K)
  refine x_call rfl rfl rfl (Exc.grows _ _) (hx) 84 (fun K hK=>?_);apply Exists.intro;refine ⟨fun w' hw'=>?_,fun wb hwb hbwb=>?_⟩;(focus go_simp;rfl);refine (isa _).mono ?_;rintro e w4 ⟨rfl,hb4⟩;refine ⟨_,rfl,hb4,fun hx=>?_⟩;go_simp;apply hK;clear hK K
  rw [HA.out]
  iterate 1 (apply x_st rfl rfl rfl;(focus intro u hc' hf';go_simp <;> rfl);intro K hK;go_simp;apply hK;clear hK K)
  iterate 4 (apply x_sg rfl rfl (by first|rfl|(simp [Region.wanted,yielded,go_sem]));(focus intro u hc' hf';go_simp <;> rfl);intro K hK;go_simp;apply hK;clear hK K)
  refine x_callg rfl rfl (Exc.grows _ _) (hx) 85 (fun K hK=>?_);refine ⟨by first|rfl|(simp [Region.wanted,yielded,go_sem]),?_⟩;apply Exists.intro;refine ⟨fun w' hw'=>?_,fun w' hw' hbw=>?_⟩;(focus go_simp;rfl);refine (ipa _).mono ?_;rintro e w6 ⟨rfl,hb6⟩;refine ⟨_,rfl,hb6,fun hx=>?_⟩;go_simp;apply hK;clear hK K
  iterate 1 (apply x_sg rfl rfl (by first|rfl|(simp [Region.wanted,yielded,go_sem]));(focus intro u hc' hf';go_simp <;> rfl);intro K hK;go_simp;apply hK;clear hK K)
  iterate 1 (apply x_st rfl rfl rfl;(focus intro u hc' hf';go_simp <;> rfl);intro K hK;go_simp;apply hK;clear hK K)
  refine x_call rfl rfl rfl (Exc.grows _ _) (hx) 83 (fun K hK=>?_);apply Exists.intro;refine ⟨fun w' hw'=>?_,fun wc hwc hbwc=>?_⟩;(focus go_simp;rfl);refine (bracketed_any _ _ _ (by omega)).mono ?_;rintro e w5 ⟨rfl,rfl⟩;refine ⟨_,rfl,Below.refl _ _,fun hx=>?_⟩;go_simp;apply hK;clear hK K
  iterate 1 (apply x_st rfl rfl rfl;(focus intro u hc' hf';go_simp <;> rfl);intro K hK;go_simp;apply hK;clear hK K)
  refine x_nil ?_
  have hB:Below w0.heap.size w0 wc:=(Below.refl w0.heap.size w0).drew.trans ((hx.toBelow).mono (by simp))
  have c1b:=cell_keep hB c1
  have hzb:w.heap.size<wc.heap.size:=by have:=hB.size;omega
  have hB1:Below w.heap.size w wc:=hB0.trans (hB.mono (by omega))
  clear hx hwc hbwc hwb hbwb hwa hbwa c0 c1 hz hB0 hB hb3 hb4
  go_wp2_with fail
  refine region_acts (C:=Exc (NoT) _) 6 [0,1,2,3,4,5,6,7,8,9,10,11,12,13] (by kernel_rfl) (by kernel_rfl) (Exc.grows _ _) (Exc.refl _ _) ?_
  iterate 3 (apply x_st rfl rfl rfl;(focus intro u hc' hf';go_simp <;> rfl);intro K hK;go_simp;apply hK;clear hK K)
  refine x_call rfl rfl rfl (Exc.grows _ _) (Exc.refl _ _) 42 (fun K hK=>?_);apply Exists.intro;refine ⟨fun w' hw'=>?_,fun wd hwd hbwd=>?_⟩;(focus go_simp;rfl);refine (ihb _).mono ?_;rintro e w3 ⟨rfl,hb3⟩;refine ⟨_,rfl,hb3,fun hx=>?_⟩;go_simp;apply hK;clear hK K
  iterate 2 (apply x_st rfl rfl rfl;(focus intro u hc' hf';go_simp <;> rfl);intro K hK;go_simp;apply hK;clear hK K)
  refine x_call rfl rfl rfl (Exc.grows _ _) (hx) 84 (fun K hK=>?_);apply Exists.intro;refine ⟨fun w' hw'=>?_,fun we hwe hbwe=>?_⟩;(focus go_simp;rfl);refine (isb _).mono ?_;rintro e w4 ⟨rfl,hb4⟩;refine ⟨_,rfl,hb4,fun hx=>?_⟩;go_simp;apply hK;clear hK K
  rw [HQ.out]
  iterate 1 (apply x_st rfl rfl rfl;(focus intro u hc' hf';go_simp <;> rfl);intro K hK;go_simp;apply hK;clear hK K)
  iterate 3 (refine x_skip rfl fun K hK=>⟨by first|rfl|(simp [Region.wanted,yielded,go_sem]),?_⟩;go_simp;apply hK;clear hK K)
  iterate 1 (apply x_st rfl rfl rfl;(focus intro u hc' hf';go_simp <;> rfl);intro K hK;go_simp;apply hK;clear hK K)
  refine x_call rfl rfl rfl (Exc.grows _ _) (hx) 83 (fun K hK=>?_);apply Exists.intro;refine ⟨fun w' hw'=>?_,fun wf hwf hbwf=>?_⟩;(focus go_simp;rfl);refine (bracketed_any _ _ _ (by omega)).mono ?_;rintro e w5 ⟨rfl,rfl⟩;refine ⟨_,rfl,Below.refl _ _,fun hx=>?_⟩;go_simp;apply hK;clear hK K
  iterate 1 (apply x_st rfl rfl rfl;(focus intro u hc' hf';go_simp <;> rfl);intro K hK;go_simp;apply hK;clear hK K)
  refine x_nil ?_
  go_wp2
  go_ret
  exact ⟨by rw [prT];simp only [HA.out,HQ.out,Bool.false_and,Bool.true_and,Bool.false_or,Bool.true_or,Bool.or_false,Bool.or_true,Bool.and_false,Bool.and_true];rfl,hB1.trans ((Below.refl wc.heap.size wc).drew.trans ((hx.toBelow).mono (by simp)) |>.mono (by have:=hB1.size;omega))⟩
 ·have HQ:=Lib.hid hq
  have HA:=Lib.hid hp
  clear hq hp
  go_enter Tryz.func42,Tryz.ntmps42
  go_wp2_with fail
  have c0:(w.alloc (.cells #[.iface Ta (.agg xa),.iface Tb (.agg xb)] 142)).cell? ⟨w.heap.size,0,none⟩=some (.iface Ta (.agg xa)):=by simp
  have c1:(w.alloc (.cells #[.iface Ta (.agg xa),.iface Tb (.agg xb)] 142)).cell? ⟨w.heap.size,1,none⟩=some (.iface Tb (.agg xb)):=by simp
  have hz:w.heap.size<(w.alloc (.cells #[.iface Ta (.agg xa),.iface Tb (.agg xb)] 142)).heap.size:=by simp
  have hB0:Below w.heap.size w (w.alloc (.cells #[.iface Ta (.agg xa),.iface Tb (.agg xb)] 142)):=alloc_below _ _
  generalize w.alloc (.cells #[.iface Ta (.agg xa),.iface Tb (.agg xb)] 142)=w0 at *
  refine region_acts (C:=Exc (NoT) _) 6 [0,1,2,3,4,5,6,7,8,9,10,11,12,13,14,15,16] (by kernel_rfl) (by kernel_rfl) (Exc.grows _ _) (Exc.refl _ _) ?_
  iterate 3 (apply x_st rfl rfl rfl;(focus intro u hc' hf';go_simp <;> rfl);intro K hK;go_simp;apply hK;clear hK K)
  refine x_call rfl rfl rfl (Exc.grows _ _) (Exc.refl _ _) 42 (fun K hK=>?_);apply Exists.intro;refine ⟨fun w' hw'=>?_,fun wa hwa hbwa=>?_⟩;(focus go_simp;rfl);refine (iha _).mono ?_;rintro e w3 ⟨rfl,hb3⟩;refine ⟨_,rfl,hb3,fun hx=>?_⟩;go_simp;apply hK;clear hK K
  iterate 2 (apply x_st rfl rfl rfl;(focus intro u hc' hf';go_simp <;> rfl);intro K hK;go_simp;apply hK;clear hK K)
  refine x_call rfl rfl rfl (Exc.grows _ _) (hx) 84 (fun K hK=>?_);apply Exists.intro;refine ⟨fun w' hw'=>?_,fun wb hwb hbwb=>?_⟩;(focus go_simp;rfl);refine (isa _).mono ?_;rintro e w4 ⟨rfl,hb4⟩;refine ⟨_,rfl,hb4,fun hx=>?_⟩;go_simp;apply hK;clear hK K
  rw [HA.out]
  iterate 1 (apply x_st rfl rfl rfl;(focus intro u hc' hf';go_simp <;> rfl);intro K hK;go_simp;apply hK;clear hK K)
  iterate 6 (refine x_skip rfl fun K hK=>⟨by first|rfl|(simp [Region.wanted,yielded,go_sem]),?_⟩;go_simp;apply hK;clear hK K)
  iterate 1 (apply x_st rfl rfl rfl;(focus intro u hc' hf';go_simp <;> rfl);intro K hK;go_simp;apply hK;clear hK K)
  refine x_call rfl rfl rfl (Exc.grows _ _) (hx) 83 (fun K hK=>?_);apply Exists.intro;refine ⟨fun w' hw'=>?_,fun wc hwc hbwc=>?_⟩;(focus go_simp;rfl);refine (bracketed_any _ _ _ (by omega)).mono ?_;rintro e w5 ⟨rfl,rfl⟩;refine ⟨_,rfl,Below.refl _ _,fun hx=>?_⟩;go_simp;apply hK;clear hK K
  iterate 1 (apply x_st rfl rfl rfl;(focus intro u hc' hf';go_simp <;> rfl);intro K hK;go_simp;apply hK;clear hK K)
  refine x_nil ?_
  have hB:Below w0.heap.size w0 wc:=(Below.refl w0.heap.size w0).drew.trans ((hx.toBelow).mono (by simp))
  have c1b:=cell_keep hB c1
  have hzb:w.heap.size<wc.heap.size:=by have:=hB.size;omega
  have hB1:Below w.heap.size w wc:=hB0.trans (hB.mono (by omega))
  clear hx hwc hbwc hwb hbwb hwa hbwa c0 c1 hz hB0 hB hb3 hb4
  go_wp2_with fail
  refine region_acts (C:=Exc (NoT) _) 6 [0,1,2,3,4,5,6,7,8,9,10,11,12,13] (by kernel_rfl) (by kernel_rfl) (Exc.grows _ _) (Exc.refl _ _) ?_
  iterate 3 (apply x_st rfl rfl rfl;(focus intro u hc' hf';go_simp <;> rfl);intro K hK;go_simp;apply hK;clear hK K)
  refine x_call rfl rfl rfl (Exc.grows _ _) (Exc.refl _ _) 42 (fun K hK=>?_);apply Exists.intro;refine ⟨fun w' hw'=>?_,fun wd hwd hbwd=>?_⟩;(focus go_simp;rfl);refine (ihb _).mono ?_;rintro e w3 ⟨rfl,hb3⟩;refine ⟨_,rfl,hb3,fun hx=>?_⟩;go_simp;apply hK;clear hK K
  iterate 2 (apply x_st rfl rfl rfl;(focus intro u hc' hf';go_simp <;> rfl);intro K hK;go_simp;apply hK;clear hK K)
  refine x_call rfl rfl rfl (Exc.grows _ _) (hx) 84 (fun K hK=>?_);apply Exists.intro;refine ⟨fun w' hw'=>?_,fun we hwe hbwe=>?_⟩;(focus go_simp;rfl);refine (isb _).mono ?_;rintro e w4 ⟨rfl,hb4⟩;refine ⟨_,rfl,hb4,fun hx=>?_⟩;go_simp;apply hK;clear hK K
  rw [HQ.out]
  iterate 1 (apply x_st rfl rfl rfl;(focus intro u hc' hf';go_simp <;> rfl);intro K hK;go_simp;apply hK;clear hK K)
  iterate 2 (apply x_sg rfl rfl (by first|rfl|(simp [Region.wanted,yielded,go_sem]));(focus intro u hc' hf';go_simp <;> rfl);intro K hK;go_simp;apply hK;clear hK K)
  refine x_callg rfl rfl (Exc.grows _ _) (hx) 85 (fun K hK=>?_);refine ⟨by first|rfl|(simp [Region.wanted,yielded,go_sem]),?_⟩;apply Exists.intro;refine ⟨fun w' hw'=>?_,fun w' hw' hbw=>?_⟩;(focus go_simp;rfl);refine (ipb _).mono ?_;rintro e w6 ⟨rfl,hb6⟩;refine ⟨_,rfl,hb6,fun hx=>?_⟩;go_simp;apply hK;clear hK K
  iterate 1 (apply x_st rfl rfl rfl;(focus intro u hc' hf';go_simp <;> rfl);intro K hK;go_simp;apply hK;clear hK K)
  refine x_call rfl rfl rfl (Exc.grows _ _) (hx) 83 (fun K hK=>?_);apply Exists.intro;refine ⟨fun w' hw'=>?_,fun wf hwf hbwf=>?_⟩;(focus go_simp;rfl);refine (bracketed_any _ _ _ (by omega)).mono ?_;rintro e w5 ⟨rfl,rfl⟩;refine ⟨_,rfl,Below.refl _ _,fun hx=>?_⟩;go_simp;apply hK;clear hK K
  iterate 1 (apply x_st rfl rfl rfl;(focus intro u hc' hf';go_simp <;> rfl);intro K hK;go_simp;apply hK;clear hK K)
  refine x_nil ?_
  go_wp2
  go_ret
  exact ⟨by rw [prT];simp only [HA.out,HQ.out,Bool.false_and,Bool.true_and,Bool.false_or,Bool.true_or,Bool.or_false,Bool.or_true,Bool.and_false,Bool.and_true];rfl,hB1.trans ((Below.refl wc.heap.size wc).drew.trans ((hx.toBelow).mono (by simp)) |>.mono (by have:=hB1.size;omega))⟩
 ·have HQ:=Lib.hid hq
  have HA:=Lib.hid hp
  clear hq hp
  go_enter Tryz.func42,Tryz.ntmps42
  go_wp2_with fail
  have c0:(w.alloc (.cells #[.iface Ta (.agg xa),.iface Tb (.agg xb)] 142)).cell? ⟨w.heap.size,0,none⟩=some (.iface Ta (.agg xa)):=by simp
  have c1:(w.alloc (.cells #[.iface Ta (.agg xa),.iface Tb (.agg xb)] 142)).cell? ⟨w.heap.size,1,none⟩=some (.iface Tb (.agg xb)):=by simp
  have hz:w.heap.size<(w.alloc (.cells #[.iface Ta (.agg xa),.iface Tb (.agg xb)] 142)).heap.size:=by simp
  have hB0:Below w.heap.size w (w.alloc (.cells #[.iface Ta (.agg xa),.iface Tb (.agg xb)] 142)):=alloc_below _ _
  generalize w.alloc (.cells #[.iface Ta (.agg xa),.iface Tb (.agg xb)] 142)=w0 at *
  refine region_acts (C:=Exc (NoT) _) 6 [0,1,2,3,4,5,6,7,8,9,10,11,12,13,14,15,16] (by kernel_rfl) (by kernel_rfl) (Exc.grows _ _) (Exc.refl _ _) ?_
  iterate 3 (apply x_st rfl rfl rfl;(focus intro u hc' hf';go_simp <;> rfl);intro K hK;go_simp;apply hK;clear hK K)
  refine x_call rfl rfl rfl (Exc.grows _ _) (Exc.refl _ _) 42 (fun K hK=>?_);apply Exists.intro;refine ⟨fun w' hw'=>?_,fun wa hwa hbwa=>?_⟩;(focus go_simp;rfl);refine (iha _).mono ?_;rintro e w3 ⟨rfl,hb3⟩;refine ⟨_,rfl,hb3,fun hx=>?_⟩;go_simp;apply hK;clear hK K
  iterate 2 (apply x_st rfl rfl rfl;(focus intro u hc' hf';go_simp <;> rfl);intro K hK;go_simp;apply hK;clear hK K)
  refine x_call rfl rfl rfl (Exc.grows _ _) (hx) 84 (fun K hK=>?_);apply Exists.intro;refine ⟨fun w' hw'=>?_,fun wb hwb hbwb=>?_⟩;(focus go_simp;rfl);refine (isa _).mono ?_;rintro e w4 ⟨rfl,hb4⟩;refine ⟨_,rfl,hb4,fun hx=>?_⟩;go_simp;apply hK;clear hK K
  rw [HA.out]
  iterate 1 (apply x_st rfl rfl rfl;(focus intro u hc' hf';go_simp <;> rfl);intro K hK;go_simp;apply hK;clear hK K)
  iterate 6 (refine x_skip rfl fun K hK=>⟨by first|rfl|(simp [Region.wanted,yielded,go_sem]),?_⟩;go_simp;apply hK;clear hK K)
  iterate 1 (apply x_st rfl rfl rfl;(focus intro u hc' hf';go_simp <;> rfl);intro K hK;go_simp;apply hK;clear hK K)
  refine x_call rfl rfl rfl (Exc.grows _ _) (hx) 83 (fun K hK=>?_);apply Exists.intro;refine ⟨fun w' hw'=>?_,fun wc hwc hbwc=>?_⟩;(focus go_simp;rfl);refine (bracketed_any _ _ _ (by omega)).mono ?_;rintro e w5 ⟨rfl,rfl⟩;refine ⟨_,rfl,Below.refl _ _,fun hx=>?_⟩;go_simp;apply hK;clear hK K
  iterate 1 (apply x_st rfl rfl rfl;(focus intro u hc' hf';go_simp <;> rfl);intro K hK;go_simp;apply hK;clear hK K)
  refine x_nil ?_
  have hB:Below w0.heap.size w0 wc:=(Below.refl w0.heap.size w0).drew.trans ((hx.toBelow).mono (by simp))
  have c1b:=cell_keep hB c1
  have hzb:w.heap.size<wc.heap.size:=by have:=hB.size;omega
  have hB1:Below w.heap.size w wc:=hB0.trans (hB.mono (by omega))
  clear hx hwc hbwc hwb hbwb hwa hbwa c0 c1 hz hB0 hB hb3 hb4
  go_wp2_with fail
  refine region_acts (C:=Exc (NoT) _) 6 [0,1,2,3,4,5,6,7,8,9,10,11,12,13] (by kernel_rfl) (by kernel_rfl) (Exc.grows _ _) (Exc.refl _ _) ?_
  iterate 3 (apply x_st rfl rfl rfl;(focus intro u hc' hf';go_simp <;> rfl);intro K hK;go_simp;apply hK;clear hK K)
  refine x_call rfl rfl rfl (Exc.grows _ _) (Exc.refl _ _) 42 (fun K hK=>?_);apply Exists.intro;refine ⟨fun w' hw'=>?_,fun wd hwd hbwd=>?_⟩;(focus go_simp;rfl);refine (ihb _).mono ?_;rintro e w3 ⟨rfl,hb3⟩;refine ⟨_,rfl,hb3,fun hx=>?_⟩;go_simp;apply hK;clear hK K
  iterate 2 (apply x_st rfl rfl rfl;(focus intro u hc' hf';go_simp <;> rfl);intro K hK;go_simp;apply hK;clear hK K)
  refine x_call rfl rfl rfl (Exc.grows _ _) (hx) 84 (fun K hK=>?_);apply Exists.intro;refine ⟨fun w' hw'=>?_,fun we hwe hbwe=>?_⟩;(focus go_simp;rfl);refine (isb _).mono ?_;rintro e w4 ⟨rfl,hb4⟩;refine ⟨_,rfl,hb4,fun hx=>?_⟩;go_simp;apply hK;clear hK K
  rw [HQ.out]
  iterate 1 (apply x_st rfl rfl rfl;(focus intro u hc' hf';go_simp <;> rfl);intro K hK;go_simp;apply hK;clear hK K)
  iterate 3 (refine x_skip rfl fun K hK=>⟨by first|rfl|(simp [Region.wanted,yielded,go_sem]),?_⟩;go_simp;apply hK;clear hK K)
  iterate 1 (apply x_st rfl rfl rfl;(focus intro u hc' hf';go_simp <;> rfl);intro K hK;go_simp;apply hK;clear hK K)
  refine x_call rfl rfl rfl (Exc.grows _ _) (hx) 83 (fun K hK=>?_);apply Exists.intro;refine ⟨fun w' hw'=>?_,fun wf hwf hbwf=>?_⟩;(focus go_simp;rfl);refine (bracketed_any _ _ _ (by omega)).mono ?_;rintro e w5 ⟨rfl,rfl⟩;refine ⟨_,rfl,Below.refl _ _,fun hx=>?_⟩;go_simp;apply hK;clear hK K
  iterate 1 (apply x_st rfl rfl rfl;(focus intro u hc' hf';go_simp <;> rfl);intro K hK;go_simp;apply hK;clear hK K)
  refine x_nil ?_
  go_wp2
  go_ret
  exact ⟨by rw [prT];simp only [HA.out,HQ.out,Bool.false_and,Bool.true_and,Bool.false_or,Bool.true_or,Bool.or_false,Bool.or_true,Bool.and_false,Bool.and_true];rfl,hB1.trans ((Below.refl wc.heap.size wc).drew.trans ((hx.toBelow).mono (by simp)) |>.mono (by have:=hB1.size;omega))⟩
theorem printed_any (full:Bool):∀ (t:Tr) (w:World),t.Ok → t.count≤4000 → Calls Tryz.prog 42 #[trV t,.bool full] w fun e w'=>e=.returned (.string (prT full t))∧Below w.heap.size w w'
 | .leaf n,w,h,_=>printed_leaf n full w h
 | .seq a b,w,h,hc=>by
  simp only [Tr.count] at hc
  have ha:=prT_size full a h.1
  have hb:=prT_size full b h.2
  have iha:=fun w=>printed_any full a w h.1 (by omega)
  have ihb:=fun w=>printed_any full b w h.2 (by omega)
  cases full
  ·exact printed_seq_no a b w iha ihb (by omega) (by omega)
  ·exact printed_seq_yes a b w iha ihb (by omega) (by omega)
 | .par a b,w,h,hc=>by
  simp only [Tr.count] at hc
  have ha:=prT_size full a h.1
  have hb:=prT_size full b h.2
  have iha:=fun w=>printed_any full a w h.1 (by omega)
  have ihb:=fun w=>printed_any full b w h.2 (by omega)
  cases full
  ·exact printed_par_no a b w iha ihb (by omega) (by omega)
  ·exact printed_par_yes a b w iha ihb (by omega) (by omega)
end Go.Proofs.YtikgblkfmpecfaaGreatDoor
