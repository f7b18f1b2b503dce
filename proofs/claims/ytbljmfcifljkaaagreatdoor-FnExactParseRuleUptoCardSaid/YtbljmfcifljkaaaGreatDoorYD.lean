/-
  The walk of generatorWires, a case a kind. Own work.
-/
import Derived.Test.YtbljmfcifljkaaaGreatDoorProg
import Derived.Test.YtbljmfcifljkaaaGreatDoorYA
import Derived.Test.YtbljmfcifljkaaaGreatDoorYB
import Derived.Test.YtbljmfcifljkaaaGreatDoorYC
import Derived.WalkLawsBesides
import Derived.WalkSpells
import Derived.Deep.QuietTactic
import Derived.BigQuiet
import Derived.Deep.RegionWith
set_option linter.all false
set_option maxRecDepth 100000
set_option maxHeartbeats 8000000
namespace Go.Proofs.YtbljmfcifljkaaaGreatDoor
open Go.RowKit
theorem generatorWires_any (k:Int) (w:World) (h0:3≤k) (h1:k≤14) :
  Calls Tryz.prog 243 #[.int .i64 k] w fun e w'=>e=.returned (.agg #[.int .i64 (kindW k).1,.int .i64 (kindW k).2])∧Below w.heap.size w w':=by
 have hk:k=3∨k=4∨k=5∨k=6∨k=7∨k=8∨k=9∨k=10∨k=11∨k=12∨k=13∨k=14:=by omega
 rcases hk with rfl|rfl|rfl|rfl|rfl|rfl|rfl|rfl|rfl|rfl|rfl|rfl
 all_goals
  go_enter Tryz.func243,Tryz.ntmps243
  go_wp2
  refine bodyPost_ret (v:=.agg #[.int .i64 _,.int .i64 _]) (by simp [results,Tryz.results243,go_sem];exact ⟨rfl,rfl⟩) rfl ⟨by simp [kindW],?_⟩
  repeat (first|exact Below.refl _ _|refine Below.alloc ?_ (by simp <;> omega) _)
end Go.Proofs.YtbljmfcifljkaaaGreatDoor
/-
  The walk of leafWires. Own work.
-/
namespace Go.Proofs.YtbljmfcifljkaaaGreatDoor
open Go.RowKit
def leafRes (n:Nd):W2 × Bool :=
 if n.name ≠ ByteArray.empty then ((0,0),false) else if n.kind=1 then ((n.value,n.value),inB n.value 0 12) else if n.kind=2 then ((2,2),n.value == 0)
 else if 3≤n.kind∧n.kind≤14 then (kindW n.kind,genValB n.kind n.value) else ((0,0),false)
theorem leafWires_named (n:Nd) (w:World) (he:n.name ≠ ByteArray.empty) :
  Calls Tryz.prog 184 #[.agg #[.int .i64 n.kind,.int .i64 n.value,.string n.name]] w fun e w'=>e=.returned (.tuple #[.agg #[.int .i64 (leafRes n).1.1,.int .i64 (leafRes n).1.2],.bool (leafRes n).2])∧Below w.heap.size w w':=by
 have g0:(!n.name.toList.isEmpty)=true:=by simpa using fun h=>he ((toList_nil_iff_emptyBytes _).1 h)
 have HR:=Lib.hid (show leafRes n=((0,0),false) by simp [leafRes,he])
 clear he
 go_enter Tryz.func184,Tryz.ntmps184
 go_wp2
 refine bodyPost_ret (v:=.tuple #[.agg #[.int .i64 (leafRes n).1.1,.int .i64 (leafRes n).1.2],.bool (leafRes n).2]) (by simp [results,Tryz.results184,go_sem,HR.out]) rfl ⟨rfl,?_⟩
 repeat (first|exact Below.refl _ _|refine Below.alloc ?_ (by simp <;> omega) _)
theorem leafWires_id (n:Nd) (w:World) (he:n.name=ByteArray.empty) (h1:n.kind=1) :
  Calls Tryz.prog 184 #[.agg #[.int .i64 n.kind,.int .i64 n.value,.string n.name]] w fun e w'=>e=.returned (.tuple #[.agg #[.int .i64 (leafRes n).1.1,.int .i64 (leafRes n).1.2],.bool (leafRes n).2])∧Below w.heap.size w w':=by
 have h0:n.name.toList=[]:=(toList_nil_iff_emptyBytes _).2 he
 have g0:(!n.name.toList.isEmpty)=false:=by simp [h0]
 have g1:(n.kind == 1)=true:=by simp [h1]
 have HR:=Lib.hid (show leafRes n=((n.value,n.value),inB n.value 0 12) by simp [leafRes,he,h1])
 clear h0 h1 he
 go_enter Tryz.func184,Tryz.ntmps184
 go_wp2_with fail
 refine region_grow (C:=Grew ((w.alloc _).alloc _).drew) 8 (by kernel_rfl) (by kernel_rfl) (by kernel_rfl) (Grew.refl _) ?_
 simp only [List.take_succ_cons,List.take_zero,List.drop_succ_cons,List.drop_zero]
 iterate 7
  refine g_step (fun K hK=>?_)
  refine g_still rfl ?_
  apply Exists.intro
  refine ⟨fun w' hw'=>?_,?_⟩
  ·obtain ⟨hc',hf',_⟩:=bcell hw'
   go_simp
   rfl
  go_simp
  refine hK _ _ ?_
  clear hK K
 refine g_step (fun K hK=>?_);refine g_call rfl rfl 128 ?_;apply Exists.intro;refine ⟨fun w' hw'=>?_,?_⟩;(focus go_simp;rfl);refine (within_any _ _ _ _).mono ?_;rintro e w4 ⟨rfl,rfl⟩;refine ⟨_,rfl,Grew.refl _,?_⟩;go_simp;apply hK;clear hK K
 refine g_nil ?_
 go_wp2
 refine bodyPost_ret (v:=.tuple #[.agg #[.int .i64 (leafRes n).1.1,.int .i64 (leafRes n).1.2],.bool (leafRes n).2]) (by simp [results,Tryz.results184,go_sem,HR.out]) rfl ⟨rfl,?_⟩
 exact (((Below.refl _ _).alloc (Nat.le_refl _) _).alloc (by simp) _).drew
theorem leafWires_swap (n:Nd) (w:World) (he:n.name=ByteArray.empty) (h1:n.kind=2) :
  Calls Tryz.prog 184 #[.agg #[.int .i64 n.kind,.int .i64 n.value,.string n.name]] w fun e w'=>e=.returned (.tuple #[.agg #[.int .i64 (leafRes n).1.1,.int .i64 (leafRes n).1.2],.bool (leafRes n).2])∧Below w.heap.size w w':=by
 have h0:n.name.toList=[]:=(toList_nil_iff_emptyBytes _).2 he
 have g0:(!n.name.toList.isEmpty)=false:=by simp [h0]
 have g1:(n.kind == 1)=false:=by simp [h1]
 have g2:(n.kind == 2)=true:=by simp [h1]
 have HR:=Lib.hid (show leafRes n=((2,2),n.value == 0) by simp [leafRes,he,h1])
 clear h0 h1 he
 go_enter Tryz.func184,Tryz.ntmps184
 go_wp2_with fail
 go_region
 go_wp2
 refine bodyPost_ret (v:=.tuple #[.agg #[.int .i64 (leafRes n).1.1,.int .i64 (leafRes n).1.2],.bool (leafRes n).2]) (by simp [results,Tryz.results184,go_sem,HR.out]) rfl ⟨rfl,?_⟩
 exact (((Below.refl _ _).alloc (Nat.le_refl _) _).alloc (by simp) _).drew
theorem leafWires_gen (n:Nd) (w:World) (he:n.name=ByteArray.empty) (h1:3≤n.kind) (h2:n.kind≤14) :
  Calls Tryz.prog 184 #[.agg #[.int .i64 n.kind,.int .i64 n.value,.string n.name]] w fun e w'=>e=.returned (.tuple #[.agg #[.int .i64 (leafRes n).1.1,.int .i64 (leafRes n).1.2],.bool (leafRes n).2])∧Below w.heap.size w w':=by
 have h0:n.name.toList=[]:=(toList_nil_iff_emptyBytes _).2 he
 have g0:(!n.name.toList.isEmpty)=false:=by simp [h0]
 have g1:(n.kind == 1)=false:=by simp;omega
 have g2:(n.kind == 2)=false:=by simp;omega
 have g3:inB n.kind 3 14=true:=by simp [inB];omega
 have HR:=Lib.hid (show leafRes n=(kindW n.kind,genValB n.kind n.value) by unfold leafRes;rw [if_neg (by simp [he]),if_neg (by omega),if_neg (by omega),if_pos ⟨h1,h2⟩])
 clear h0 he
 go_enter Tryz.func184,Tryz.ntmps184
 go_wp2_with (go_at_call 242;refine (isGenerator_any _ _).mono ?_;rintro e w2 ⟨rfl,rfl⟩)
 refine region_grow (C:=Grew ((w.alloc _).alloc _).drew) 8 (by kernel_rfl) (by kernel_rfl) (by kernel_rfl) (Grew.refl _) ?_
 simp only [List.take_succ_cons,List.take_zero,List.drop_succ_cons,List.drop_zero]
 iterate 2
  refine g_step (fun K hK=>?_)
  refine g_still rfl ?_
  apply Exists.intro
  refine ⟨fun w' hw'=>?_,?_⟩
  ·obtain ⟨hc',hf',_⟩:=bcell hw'
   go_simp
   rfl
  go_simp
  refine hK _ _ ?_
  clear hK K
 refine g_step (fun K hK=>?_);refine g_call rfl rfl 243 ?_;apply Exists.intro;refine ⟨fun w' hw'=>?_,?_⟩;(focus go_simp;rfl);refine (generatorWires_any _ _ h1 h2).mono ?_;rintro e w3 ⟨rfl,hb3⟩;refine ⟨_,rfl,hb3,?_⟩;go_simp;apply hK;clear hK K
 iterate 4
  refine g_step (fun K hK=>?_)
  refine g_still rfl ?_
  apply Exists.intro
  refine ⟨fun w' hw'=>?_,?_⟩
  ·obtain ⟨hc',hf',_⟩:=bcell hw'
   go_simp
   rfl
  go_simp
  refine hK _ _ ?_
  clear hK K
 refine g_step (fun K hK=>?_);refine g_call rfl rfl 244 ?_;apply Exists.intro;refine ⟨fun w' hw'=>?_,?_⟩;(focus go_simp;rfl);refine (isGeneratorValue_any _ _ _).mono ?_;rintro e w4 ⟨rfl,rfl⟩;refine ⟨_,rfl,hb3,?_⟩;go_simp;apply hK;clear hK K
 refine g_nil ?_
 obtain ⟨hc3,hf3,hs3⟩:=bcell hb3
 simp only [World.size_alloc,World.size_drew] at hs3 hb3
 go_wp2
 refine bodyPost_ret (v:=.tuple #[.agg #[.int .i64 (leafRes n).1.1,.int .i64 (leafRes n).1.2],.bool (leafRes n).2]) (by simp [results,Tryz.results184,go_sem,HR.out,hc3]) rfl ⟨rfl,?_⟩
 exact (((((((Below.refl _ _).alloc (Nat.le_refl _) _).alloc (by simp) _).drew).trans (hb3.mono (by omega))).setCell (by simp) _).setCell (by simp) _)
theorem leafWires_none (n:Nd) (w:World) (he:n.name=ByteArray.empty) (h1:¬ (1≤n.kind∧n.kind≤14)) :
  Calls Tryz.prog 184 #[.agg #[.int .i64 n.kind,.int .i64 n.value,.string n.name]] w fun e w'=>e=.returned (.tuple #[.agg #[.int .i64 (leafRes n).1.1,.int .i64 (leafRes n).1.2],.bool (leafRes n).2])∧Below w.heap.size w w':=by
 have h0:n.name.toList=[]:=(toList_nil_iff_emptyBytes _).2 he
 have g0:(!n.name.toList.isEmpty)=false:=by simp [h0]
 have g1:(n.kind == 1)=false:=by simp;omega
 have g2:(n.kind == 2)=false:=by simp;omega
 have g3:inB n.kind 3 14=false:=by simp [inB];omega
 have HR:=Lib.hid (show leafRes n=((0,0),false) by unfold leafRes;rw [if_neg (by simp [he]),if_neg (by omega),if_neg (by omega),if_neg (by omega)])
 clear h0 he
 go_enter Tryz.func184,Tryz.ntmps184
 go_wp2_with (go_at_call 242;refine (isGenerator_any _ _).mono ?_;rintro e w2 ⟨rfl,rfl⟩)
 refine bodyPost_ret (v:=.tuple #[.agg #[.int .i64 (leafRes n).1.1,.int .i64 (leafRes n).1.2],.bool (leafRes n).2]) (by simp [results,Tryz.results184,go_sem,HR.out]) rfl ⟨rfl,?_⟩
 repeat (first|exact Below.refl _ _|refine Below.alloc ?_ (by simp <;> omega) _)
theorem leafWires_any (n:Nd) (w:World) :
  Calls Tryz.prog 184 #[.agg #[.int .i64 n.kind,.int .i64 n.value,.string n.name]] w fun e w'=>e=.returned (.tuple #[.agg #[.int .i64 (leafRes n).1.1,.int .i64 (leafRes n).1.2],.bool (leafRes n).2])∧Below w.heap.size w w':=by
 by_cases he:n.name=ByteArray.empty
 ·by_cases h1:n.kind=1
  ·exact leafWires_id n w he h1
  by_cases h2:n.kind=2
  ·exact leafWires_swap n w he h2
  by_cases h3:3≤n.kind∧n.kind≤14
  ·exact leafWires_gen n w he h3.1 h3.2
  ·exact leafWires_none n w he (by omega)
 ·exact leafWires_named n w he
theorem leafRes_ok (n:Nd) (h:n.kind ≠ 17) (h5:n.kind ≠ 15) (h6:n.kind ≠ 16):(if (leafRes n).2 then some (leafRes n).1 else none)=leafIn [] n:=by
 have key:∀ (x:W2) (b:Bool),leafRes n=(x,b) → leafB n=b → (b=true → arityW n=x) → (if (leafRes n).2 then some (leafRes n).1 else none)=leafIn [] n:=by
  intro x b e1 e2 e3
  unfold leafIn
  rw [if_neg h,e1,e2]
  cases b with
  | false=>rfl
  | true=>simp [e3 rfl]
 by_cases he:n.name=ByteArray.empty
 ·by_cases h1:n.kind=1
  ·exact key (n.value,n.value) (inB n.value 0 12) (by simp [leafRes,he,h1]) (by simp [leafB,he,h1,inB]) (by intro _;simp [arityW,h1])
  by_cases h2:n.kind=2
  ·exact key (2,2) (n.value == 0) (by simp [leafRes,he,h2]) (by simp [leafB,he,h2];rfl) (by intro _;simp [arityW,h2,kindW])
  by_cases h3:3≤n.kind∧n.kind≤14
  ·have a1:decide (1≤n.kind)=true:=by simp;omega
   have a2:decide (n.kind≤14)=true:=by simp;omega
   refine key (kindW n.kind) (genValB n.kind n.value) (by simp [leafRes,he,h1,h2,h3]) ?_ (by intro _;simp [arityW,h1])
   unfold leafB
   rw [a1,a2,if_neg h1]
   by_cases hv:n.kind=7∨n.kind=13
   ·rw [if_pos hv];rcases hv with hv|hv <;> simp [genValB,valB,hv,inB,he]
   ·rw [if_neg hv]
    have:valB n.kind=false:=by simp [valB];omega
    simp [genValB,this,he];rfl
  ·refine key (0,0) false (by simp [leafRes,he,h1,h2,h3]) ?_ (by simp)
   unfold leafB
   have a1:(decide (1≤n.kind) && decide (n.kind≤14))=false:=by simp;omega
   simp only [Bool.and_assoc]
   rw [← Bool.and_assoc (decide (1≤n.kind)),a1]
   simp
 ·exact key (0,0) false (by simp [leafRes,he]) (by simp [leafB,he]) (by simp)
end Go.Proofs.YtbljmfcifljkaaaGreatDoor
