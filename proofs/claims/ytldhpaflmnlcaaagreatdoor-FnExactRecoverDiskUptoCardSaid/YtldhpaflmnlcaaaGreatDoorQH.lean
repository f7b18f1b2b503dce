/-
  The kinds of entries: what the table holds, and what an entry's kind is. Own work.
-/
import Derived.Test.YtldhpaflmnlcaaaGreatDoorQG
import Derived.Laws.EntriesVeiled
set_option linter.all false
set_option maxRecDepth 100000
set_option maxHeartbeats 8000000
namespace Go.Proofs.YtldhpaflmnlcaaaGreatDoor
open Go.RowKit
def fv (n:Nat):Value:=.func (.func n) #[] #[]
def wLet:ByteArray:=⟨#[108,101,116,32]⟩
def wDrop:ByteArray:=⟨#[100,114,111,112,32]⟩
def wName:ByteArray:=⟨#[110,97,109,101,32]⟩
theorem kindsOfEntries_any (w:World) :
  Calls Tryz.prog 93 #[] w fun e w'=>e=.returned (.agg #[fv 132,fv 133,fv 136,fv 138,.string wLet,
   fv 139,fv 140,fv 142,fv 143,.string wDrop,
   fv 144,fv 145,fv 147,fv 148,.string wName])∧Below w.heap.size w w':=by
 go_enter Tryz.func93,Tryz.ntmps93
 go_wp2
 exact bodyPost_ret (v:=.agg #[fv 132,fv 133,fv 136,fv 138,.string wLet,
   fv 139,fv 140,fv 142,fv 143,.string wDrop,
   fv 144,fv 145,fv 147,fv 148,.string wName]) (by simp [results,Tryz.results93,go_sem,fv,wLet,wDrop,wName]) rfl ⟨rfl,(Below.refl _ _).alloc (Nat.le_refl _) _⟩
def kV1:Value:=.agg #[fv 132,fv 133,fv 136,fv 138,.string wLet]
def kV2:Value:=.agg #[fv 139,fv 140,fv 142,fv 143,.string wDrop]
def kV3:Value:=.agg #[fv 144,fv 145,fv 147,fv 148,.string wName]
def kV0:Value:=.agg #[.nilFunc,.nilFunc,.nilFunc,.nilFunc,.string ⟨#[]⟩]
theorem plain1_any (k:Int) (nm to:ByteArray) (v:Value) (n:Nat) (a:Option Addr) (c:Nat) (w:World) (hv:v=.slice a n c) :
  Calls Tryz.prog 132 #[.agg #[.int .i64 k,.string nm,.string to,v]] w fun e w'=>e=.returned (.bool (decide (to=ByteArray.empty)))∧Below w.heap.size w w':=by
 subst hv
 by_cases h:to=ByteArray.empty
 ·have g:to.toList.isEmpty=true:=by simpa using (toList_nil_iff_emptyBytes _).2 h
  have HH:=Lib.hid h
  clear h
  go_enter Tryz.func132,Tryz.ntmps132
  go_wp2
  go_ret
  exact ⟨yes_bool HH.out,alloc_below _ _⟩
 ·have g:to.toList.isEmpty=false:=by
   have:¬ to.toList=[]:=fun e=>h ((toList_nil_iff_emptyBytes _).1 e)
   simpa using this
  have HH:=Lib.hid h
  clear h
  go_enter Tryz.func132,Tryz.ntmps132
  go_wp2
  go_ret
  exact ⟨no_bool HH.out,alloc_below _ _⟩
theorem plain5_any (k:Int) (nm to:ByteArray) (v:Value) (n:Nat) (a:Option Addr) (c:Nat) (w:World) (hv:v=.slice a n c) :
  Calls Tryz.prog 139 #[.agg #[.int .i64 k,.string nm,.string to,v]] w fun e w'=>e=.returned (.bool (decide (to=ByteArray.empty∧n=0)))∧Below w.heap.size w w':=by
 subst hv
 by_cases h:to=ByteArray.empty
 ·have g:to.toList.isEmpty=true:=by simpa using (toList_nil_iff_emptyBytes _).2 h
  by_cases h2:n=0
  ·subst h2
   have HH:=Lib.hid h
   clear h
   go_enter Tryz.func139,Tryz.ntmps139
   go_wp2
   go_ret
   exact ⟨yes_bool ⟨HH.out,trivial⟩,alloc_below _ _⟩
  ·have g2:((n:Int) == 0)=false:=by simp;omega
   have HH:=Lib.hid h2
   clear h h2
   go_enter Tryz.func139,Tryz.ntmps139
   go_wp2
   go_ret
   exact ⟨no_bool (fun e=>HH.out e.2),alloc_below _ _⟩
 ·have g:to.toList.isEmpty=false:=by
   have:¬ to.toList=[]:=fun e=>h ((toList_nil_iff_emptyBytes _).1 e)
   simpa using this
  have HH:=Lib.hid h
  clear h
  go_enter Tryz.func139,Tryz.ntmps139
  go_wp2
  go_ret
  exact ⟨no_bool (fun e=>HH.out e.1),alloc_below _ _⟩
theorem plain9_any (k:Int) (nm to:ByteArray) (v:Value) (n:Nat) (a:Option Addr) (c:Nat) (w:World) (hv:v=.slice a n c) :
  Calls Tryz.prog 144 #[.agg #[.int .i64 k,.string nm,.string to,v]] w fun e w'=>e=.returned (.bool (decide (n=0)))∧Below w.heap.size w w':=by
 subst hv
 by_cases h2:n=0
 ·subst h2
  go_enter Tryz.func144,Tryz.ntmps144
  go_wp2
  go_ret
  exact ⟨yes_bool trivial,alloc_below _ _⟩
 ·have g2:((n:Int) == 0)=false:=by simp;omega
  have HH:=Lib.hid h2
  clear h2
  go_enter Tryz.func144,Tryz.ntmps144
  go_wp2
  go_ret
  exact ⟨no_bool HH.out,alloc_below _ _⟩
theorem kind_none (k:Int) (nm to:ByteArray) (n:Nat) (a:Option Addr) (c:Nat) (w:World) (h:¬ (1≤k∧k≤3)) :
  Calls Tryz.prog 84 #[.agg #[.int .i64 k,.string nm,.string to,.slice a n c]] w fun e w'=>e=.returned (.tuple #[kV0,.bool false])∧Below w.heap.size w w':=by
 have g1:inB k 1 3=false:=by simp [inB];omega
 go_enter Tryz.func84,Tryz.ntmps84
 go_wp2_with (go_at_call 113;refine (within_any _ _ _ _).mono ?_;rintro e w1 ⟨rfl,rfl⟩)
 exact bodyPost_ret (v:=.tuple #[kV0,.bool false]) (by simp [results,Tryz.results84,go_sem,kV0]) rfl ⟨rfl,((Below.refl _ _).alloc (Nat.le_refl _) _).alloc (by simp) _⟩
def kAll:List Value:=[fv 132,fv 133,fv 136,fv 138,.string wLet,
   fv 139,fv 140,fv 142,fv 143,.string wDrop,
   fv 144,fv 145,fv 147,fv 148,.string wName]
theorem kIndex (w:World):(Instr.index 121 (.agg kAll.toArray) (.int .i64 0)).run Tryz.prog w=.ok kV1 w∧(Instr.index 121 (.agg kAll.toArray) (.int .i64 1)).run Tryz.prog w=.ok kV2 w∧(Instr.index 121 (.agg kAll.toArray) (.int .i64 2)).run Tryz.prog w=.ok kV3 w:=by
 refine ⟨?_,?_,?_⟩ <;> kernel_rfl
theorem kinds_any (w:World):Calls Tryz.prog 93 #[] w fun e w'=>e=.returned (.agg kAll.toArray)∧Below w.heap.size w w':=kindsOfEntries_any w
theorem kind_1 (nm to:ByteArray) (n:Nat) (a:Option Addr) (c:Nat) (w:World) :
  Calls Tryz.prog 84 #[.agg #[.int .i64 1,.string nm,.string to,.slice a n c]] w fun e w'=>e=.returned (.tuple #[kV1,.bool (decide (to=ByteArray.empty))])∧Below w.heap.size w w':=by
 have g1:inB 1 1 3=true:=by simp [inB]
 go_enter Tryz.func84,Tryz.ntmps84
 go_wp2_with (go_at_call 113;refine (within_any _ _ _ _).mono ?_;rintro e w1 ⟨rfl,rfl⟩)
 have hwr:IntKind.i64.wrap 0=0:=by decide
 have hix:=fun w=>(kIndex w).1
 refine region_acts (C:=Exc (NoT) _) 2 [0,1,2,3,4,5,6] (by kernel_rfl) (by kernel_rfl) (Exc.grows _ _) (Exc.refl _ _) ?_
 refine x_call rfl rfl rfl (Exc.grows _ _) (Exc.refl _ _) 93 (fun K hK=>?_);apply Exists.intro;refine ⟨fun w' hw'=>?_,fun wa hwa hbwa=>?_⟩;(focus go_simp;rfl);refine (kinds_any _).mono ?_;rintro e w3 ⟨rfl,hb3⟩;refine ⟨_,rfl,hb3,fun hx=>?_⟩;go_simp;apply hK;clear hK K
 iterate 4 (apply x_st rfl rfl rfl;(focus intro u hc' hf';go_simp <;> rfl);intro K hK;go_simp;apply hK;clear hK K)
 refine x_make rfl rfl rfl (Exc.grows _ _) (hx) (fun b=>.pointer (some ⟨b,0,none⟩)) (fun K hK=>?_)
 apply Exists.intro
 refine ⟨fun w' hw'=>?_,fun bb w5 hw5 hb5 hbo hNb hnb=>?_⟩
 ·obtain ⟨hc',hf'⟩:=hw'.cell
  try simp only [World.size_drew] at hc' hf'
  go_simp
  rfl
 go_simp
 refine hK _ _ _ ?_
 clear hK K
 refine x_do rfl rfl rfl (Exc.grows _ _) hw5 (fun K hK=>?_)
 intro w6 hw6 hb6
 obtain ⟨m0,m1,m2⟩:=made_cell ((hb6.block bb (made_cell hbo).2.2).trans hbo)
 refine ⟨((((w6.setCell ⟨bb,0,none⟩ (fv 132)).setCell ⟨bb,1,none⟩ (fv 133)).setCell ⟨bb,2,none⟩ (fv 136)).setCell ⟨bb,3,none⟩ (fv 138)).setCell ⟨bb,4,none⟩ (.string wLet),?_,⟨exc_set (exc_set (exc_set (exc_set (exc_set hw6 (.inl hNb) _) (.inl hNb) _) (.inl hNb) _) (.inl hNb) _) (.inl hNb) _,by simp,fun j _ hj _=>by rw [Below.heap_setCell _ _ _ _ (fun h=>hj (by simp [h])),Below.heap_setCell _ _ _ _ (fun h=>hj (by simp [h])),Below.heap_setCell _ _ _ _ (fun h=>hj (by simp [h])),Below.heap_setCell _ _ _ _ (fun h=>hj (by simp [h])),Below.heap_setCell _ _ _ _ (fun h=>hj (by simp [h]))]⟩,?_⟩
 ·simp only [kV1,fv]
  go_simp
 go_simp
 refine hK _ _ _ ?_
 clear hK K
 refine x_nil ?_
 have up:∀ {w':World},Exc NoT (((w.alloc (.cells #[.int .i64 1,.string nm,.string to,.slice a n c] 54)).alloc (.cells #[.nilFunc,.nilFunc,.nilFunc,.nilFunc,.string ⟨#[]⟩] 113)).drew) w' → Below (w.heap.size+1+1) ((w.alloc (.cells #[.int .i64 1,.string nm,.string to,.slice a n c] 54)).alloc (.cells #[.nilFunc,.nilFunc,.nilFunc,.nilFunc,.string ⟨#[]⟩] 113)) w':=fun h=>(Below.refl _ _).drew.trans (h.toBelow.mono (by simp))
 have hbb:w.heap.size+1+1≤bb:=by simpa using hNb
 have hw6':=up hw6
 generalize hW:((((w6.setCell ⟨bb,0,none⟩ (fv 132)).setCell ⟨bb,1,none⟩ (fv 133)).setCell ⟨bb,2,none⟩ (fv 136)).setCell ⟨bb,3,none⟩ (fv 138)).setCell ⟨bb,4,none⟩ (.string wLet)=W
 have hbW:Below (w.heap.size+1+1) ((w.alloc (.cells #[.int .i64 1,.string nm,.string to,.slice a n c] 54)).alloc (.cells #[.nilFunc,.nilFunc,.nilFunc,.nilFunc,.string ⟨#[]⟩] 113)) W:=by
  rw [← hW];exact ((((hw6'.setCell hbb _).setCell hbb _).setCell hbb _).setCell hbb _).setCell hbb _
 have n0:W.cell? ⟨bb,0,none⟩=some (fv 132):=by rw [← hW];clear hW;go_simp
 have n1:W.cell? ⟨bb,1,none⟩=some (fv 133):=by rw [← hW];clear hW;go_simp
 have n2:W.cell? ⟨bb,2,none⟩=some (fv 136):=by rw [← hW];clear hW;go_simp
 have n3:W.cell? ⟨bb,3,none⟩=some (fv 138):=by rw [← hW];clear hW;go_simp
 have n4:W.cell? ⟨bb,4,none⟩=some (.string wLet):=by rw [← hW];clear hW;go_simp
 have hbbW:bb<W.heap.size:=by rw [← hW];simpa using m2
 have e0:W.cell? ⟨w.heap.size,0,none⟩=some (.int .i64 1):=by rw [hbW.cell (p:=⟨w.heap.size,0,none⟩) (by simp;omega)];go_simp
 have e1:W.cell? ⟨w.heap.size,1,none⟩=some (.string nm):=by rw [hbW.cell (p:=⟨w.heap.size,1,none⟩) (by simp;omega)];go_simp
 have e2:W.cell? ⟨w.heap.size,2,none⟩=some (.string to):=by rw [hbW.cell (p:=⟨w.heap.size,2,none⟩) (by simp;omega)];go_simp
 have e3:W.cell? ⟨w.heap.size,3,none⟩=some (.slice a n c):=by rw [hbW.cell (p:=⟨w.heap.size,3,none⟩) (by simp;omega)];go_simp
 have r0:W.cell? ⟨w.heap.size+1,0,none⟩=some .nilFunc:=by rw [hbW.cell (p:=⟨w.heap.size+1,0,none⟩) (by simp)];go_simp
 have r1:W.cell? ⟨w.heap.size+1,1,none⟩=some .nilFunc:=by rw [hbW.cell (p:=⟨w.heap.size+1,1,none⟩) (by simp)];go_simp
 have r2:W.cell? ⟨w.heap.size+1,2,none⟩=some .nilFunc:=by rw [hbW.cell (p:=⟨w.heap.size+1,2,none⟩) (by simp)];go_simp
 have r3:W.cell? ⟨w.heap.size+1,3,none⟩=some .nilFunc:=by rw [hbW.cell (p:=⟨w.heap.size+1,3,none⟩) (by simp)];go_simp
 have r4:W.cell? ⟨w.heap.size+1,4,none⟩=some (.string ⟨#[]⟩):=by rw [hbW.cell (p:=⟨w.heap.size+1,4,none⟩) (by simp)];go_simp
 have rf:∀ j,W.frozen? ⟨w.heap.size+1,j,none⟩=false:=fun j=>by rw [hbW.frozen (p:=⟨w.heap.size+1,j,none⟩) (by simp)];go_simp
 have hsW:w.heap.size+1<W.heap.size:=by have:=hbW.size;simp at this;omega
 have hsW2:w.heap.size<W.heap.size:=by omega
 have hbw':Below w.heap.size w W:=(((Below.refl _ _).alloc (Nat.le_refl _) _).alloc (by simp) _).trans (hbW.mono (by omega))
 clear hW hw6' hw6 hb6 hw5 hb5 hbo hNb hnb hx hb3 hwa hbwa m0 m1 m2 hbW up hix hwr
 go_wp2_with fail
 have nT1:¬ bb=w.heap.size+1:=by omega
 have nT2:¬ w.heap.size=w.heap.size+1:=by omega
 refine region_acts (C:=Exc ((fun j=>j=w.heap.size+1)) _) 2 [0,1,2,3,4,5,6] (by kernel_rfl) (by kernel_rfl) (Exc.grows _ _) (Exc.refl _ _) ?_
 iterate 4 (apply x_sT rfl rfl rfl;(focus intro u hc' hf';(try simp only [World.size_drew] at hc' hf');go_simp <;> rfl);intro K hK;go_simp;apply hK;clear hK K)
 refine x_call rfl rfl rfl (Exc.grows _ _) (Exc.refl _ _) 132 (fun K hK=>?_);apply Exists.intro;refine ⟨fun w' hw'=>?_,fun wb hwb hbwb=>?_⟩;(focus go_simp;rfl);refine (plain1_any _ nm to _ n a c _ rfl).mono ?_;rintro e w7 ⟨rfl,hb7⟩;refine ⟨_,rfl,hb7,fun hx=>?_⟩;go_simp;apply hK;clear hK K
 refine x_do rfl rfl rfl (Exc.grows _ _) hx (fun K hK=>?_)
 intro w8 hw8 hb8
 have hb8':Below W.heap.size W w8:=(Below.refl W.heap.size W).drew.trans ((hbwb.mono (by simp)).trans ((hb7.trans (hb8.mono hb7.size)).mono (by have:=hbwb.size;simpa using this)))
 have k0:=cell_keep hb8' r0
 have k1:=cell_keep hb8' r1
 have k2:=cell_keep hb8' r2
 have k3:=cell_keep hb8' r3
 have k4:=cell_keep hb8' r4
 have kf:∀ j,w8.frozen? ⟨w.heap.size+1,j,none⟩=false:=fun j=>(hb8'.frozen (p:=⟨w.heap.size+1,j,none⟩) hsW).trans (rf j)
 refine ⟨((((w8.setCell ⟨w.heap.size+1,0,none⟩ (fv 132)).setCell ⟨w.heap.size+1,1,none⟩ (fv 133)).setCell ⟨w.heap.size+1,2,none⟩ (fv 136)).setCell ⟨w.heap.size+1,3,none⟩ (fv 138)).setCell ⟨w.heap.size+1,4,none⟩ (.string wLet),?_,⟨exc_set (exc_set (exc_set (exc_set (exc_set hw8 (.inr rfl) _) (.inr rfl) _) (.inr rfl) _) (.inr rfl) _) (.inr rfl) _,by simp,fun j hj _ _=>by rw [Below.heap_setCell _ _ _ _ (fun h=>by simp at h hj;omega),Below.heap_setCell _ _ _ _ (fun h=>by simp at h hj;omega),Below.heap_setCell _ _ _ _ (fun h=>by simp at h hj;omega),Below.heap_setCell _ _ _ _ (fun h=>by simp at h hj;omega),Below.heap_setCell _ _ _ _ (fun h=>by simp at h hj;omega)]⟩,?_⟩
 ·simp only [fv] at *
  go_simp
 go_simp
 refine hK _ _ _ ?_
 clear hK K
 refine x_still rfl rfl rfl (fun K hK=>?_)
 apply Exists.intro
 refine ⟨fun w' hw'=>?_,?_⟩
 ·go_simp
  rfl
 go_simp
 refine hK _ _ _ ?_
 clear hK K
 refine x_nil ?_
 go_wp2
 exact bodyPost_ret (v:=.tuple #[kV1,.bool (decide (to=ByteArray.empty))]) (by simp [results,Tryz.results84,go_sem,kV1,fv,k0,k1,k2,k3,k4]) rfl ⟨rfl,(((((hbw'.trans (hb8'.mono hbw'.size)).setCell (by simp) _).setCell (by simp) _).setCell (by simp) _).setCell (by simp) _).setCell (by simp) _⟩
end Go.Proofs.YtldhpaflmnlcaaaGreatDoor
/-
  An entry's kind, for the second kind. Own work.
-/
namespace Go.Proofs.YtldhpaflmnlcaaaGreatDoor
open Go.RowKit
theorem kind_2 (nm to:ByteArray) (n:Nat) (a:Option Addr) (c:Nat) (w:World) :
  Calls Tryz.prog 84 #[.agg #[.int .i64 2,.string nm,.string to,.slice a n c]] w fun e w'=>e=.returned (.tuple #[kV2,.bool (decide (to=ByteArray.empty∧n=0))])∧Below w.heap.size w w':=by
 have g1:inB 2 1 3=true:=by simp [inB]
 go_enter Tryz.func84,Tryz.ntmps84
 go_wp2_with (go_at_call 113;refine (within_any _ _ _ _).mono ?_;rintro e w1 ⟨rfl,rfl⟩)
 have hwr:IntKind.i64.wrap 1=1:=by decide
 have hix:=fun w=>(kIndex w).2.1
 refine region_acts (C:=Exc (NoT) _) 2 [0,1,2,3,4,5,6] (by kernel_rfl) (by kernel_rfl) (Exc.grows _ _) (Exc.refl _ _) ?_
 refine x_call rfl rfl rfl (Exc.grows _ _) (Exc.refl _ _) 93 (fun K hK=>?_);apply Exists.intro;refine ⟨fun w' hw'=>?_,fun wa hwa hbwa=>?_⟩;(focus go_simp;rfl);refine (kinds_any _).mono ?_;rintro e w3 ⟨rfl,hb3⟩;refine ⟨_,rfl,hb3,fun hx=>?_⟩;go_simp;apply hK;clear hK K
 iterate 4 (apply x_st rfl rfl rfl;(focus intro u hc' hf';go_simp <;> rfl);intro K hK;go_simp;apply hK;clear hK K)
 refine x_make rfl rfl rfl (Exc.grows _ _) (hx) (fun b=>.pointer (some ⟨b,0,none⟩)) (fun K hK=>?_)
 apply Exists.intro
 refine ⟨fun w' hw'=>?_,fun bb w5 hw5 hb5 hbo hNb hnb=>?_⟩
 ·obtain ⟨hc',hf'⟩:=hw'.cell
  try simp only [World.size_drew] at hc' hf'
  go_simp
  rfl
 go_simp
 refine hK _ _ _ ?_
 clear hK K
 refine x_do rfl rfl rfl (Exc.grows _ _) hw5 (fun K hK=>?_)
 intro w6 hw6 hb6
 obtain ⟨m0,m1,m2⟩:=made_cell ((hb6.block bb (made_cell hbo).2.2).trans hbo)
 refine ⟨((((w6.setCell ⟨bb,0,none⟩ (fv 139)).setCell ⟨bb,1,none⟩ (fv 140)).setCell ⟨bb,2,none⟩ (fv 142)).setCell ⟨bb,3,none⟩ (fv 143)).setCell ⟨bb,4,none⟩ (.string wDrop),?_,⟨exc_set (exc_set (exc_set (exc_set (exc_set hw6 (.inl hNb) _) (.inl hNb) _) (.inl hNb) _) (.inl hNb) _) (.inl hNb) _,by simp,fun j _ hj _=>by rw [Below.heap_setCell _ _ _ _ (fun h=>hj (by simp [h])),Below.heap_setCell _ _ _ _ (fun h=>hj (by simp [h])),Below.heap_setCell _ _ _ _ (fun h=>hj (by simp [h])),Below.heap_setCell _ _ _ _ (fun h=>hj (by simp [h])),Below.heap_setCell _ _ _ _ (fun h=>hj (by simp [h]))]⟩,?_⟩
 ·simp only [kV2,fv]
  go_simp
 go_simp
 refine hK _ _ _ ?_
 clear hK K
 refine x_nil ?_
 have up:∀ {w':World},Exc NoT (((w.alloc (.cells #[.int .i64 2,.string nm,.string to,.slice a n c] 54)).alloc (.cells #[.nilFunc,.nilFunc,.nilFunc,.nilFunc,.string ⟨#[]⟩] 113)).drew) w' → Below (w.heap.size+1+1) ((w.alloc (.cells #[.int .i64 2,.string nm,.string to,.slice a n c] 54)).alloc (.cells #[.nilFunc,.nilFunc,.nilFunc,.nilFunc,.string ⟨#[]⟩] 113)) w':=fun h=>(Below.refl _ _).drew.trans (h.toBelow.mono (by simp))
 have hbb:w.heap.size+1+1≤bb:=by simpa using hNb
 have hw6':=up hw6
 generalize hW:((((w6.setCell ⟨bb,0,none⟩ (fv 139)).setCell ⟨bb,1,none⟩ (fv 140)).setCell ⟨bb,2,none⟩ (fv 142)).setCell ⟨bb,3,none⟩ (fv 143)).setCell ⟨bb,4,none⟩ (.string wDrop)=W
 have hbW:Below (w.heap.size+1+1) ((w.alloc (.cells #[.int .i64 2,.string nm,.string to,.slice a n c] 54)).alloc (.cells #[.nilFunc,.nilFunc,.nilFunc,.nilFunc,.string ⟨#[]⟩] 113)) W:=by
  rw [← hW];exact ((((hw6'.setCell hbb _).setCell hbb _).setCell hbb _).setCell hbb _).setCell hbb _
 have n0:W.cell? ⟨bb,0,none⟩=some (fv 139):=by rw [← hW];clear hW;go_simp
 have n1:W.cell? ⟨bb,1,none⟩=some (fv 140):=by rw [← hW];clear hW;go_simp
 have n2:W.cell? ⟨bb,2,none⟩=some (fv 142):=by rw [← hW];clear hW;go_simp
 have n3:W.cell? ⟨bb,3,none⟩=some (fv 143):=by rw [← hW];clear hW;go_simp
 have n4:W.cell? ⟨bb,4,none⟩=some (.string wDrop):=by rw [← hW];clear hW;go_simp
 have hbbW:bb<W.heap.size:=by rw [← hW];simpa using m2
 have e0:W.cell? ⟨w.heap.size,0,none⟩=some (.int .i64 2):=by rw [hbW.cell (p:=⟨w.heap.size,0,none⟩) (by simp;omega)];go_simp
 have e1:W.cell? ⟨w.heap.size,1,none⟩=some (.string nm):=by rw [hbW.cell (p:=⟨w.heap.size,1,none⟩) (by simp;omega)];go_simp
 have e2:W.cell? ⟨w.heap.size,2,none⟩=some (.string to):=by rw [hbW.cell (p:=⟨w.heap.size,2,none⟩) (by simp;omega)];go_simp
 have e3:W.cell? ⟨w.heap.size,3,none⟩=some (.slice a n c):=by rw [hbW.cell (p:=⟨w.heap.size,3,none⟩) (by simp;omega)];go_simp
 have r0:W.cell? ⟨w.heap.size+1,0,none⟩=some .nilFunc:=by rw [hbW.cell (p:=⟨w.heap.size+1,0,none⟩) (by simp)];go_simp
 have r1:W.cell? ⟨w.heap.size+1,1,none⟩=some .nilFunc:=by rw [hbW.cell (p:=⟨w.heap.size+1,1,none⟩) (by simp)];go_simp
 have r2:W.cell? ⟨w.heap.size+1,2,none⟩=some .nilFunc:=by rw [hbW.cell (p:=⟨w.heap.size+1,2,none⟩) (by simp)];go_simp
 have r3:W.cell? ⟨w.heap.size+1,3,none⟩=some .nilFunc:=by rw [hbW.cell (p:=⟨w.heap.size+1,3,none⟩) (by simp)];go_simp
 have r4:W.cell? ⟨w.heap.size+1,4,none⟩=some (.string ⟨#[]⟩):=by rw [hbW.cell (p:=⟨w.heap.size+1,4,none⟩) (by simp)];go_simp
 have rf:∀ j,W.frozen? ⟨w.heap.size+1,j,none⟩=false:=fun j=>by rw [hbW.frozen (p:=⟨w.heap.size+1,j,none⟩) (by simp)];go_simp
 have hsW:w.heap.size+1<W.heap.size:=by have:=hbW.size;simp at this;omega
 have hsW2:w.heap.size<W.heap.size:=by omega
 have hbw':Below w.heap.size w W:=(((Below.refl _ _).alloc (Nat.le_refl _) _).alloc (by simp) _).trans (hbW.mono (by omega))
 clear hW hw6' hw6 hb6 hw5 hb5 hbo hNb hnb hx hb3 hwa hbwa m0 m1 m2 hbW up hix hwr
 go_wp2_with fail
 have nT1:¬ bb=w.heap.size+1:=by omega
 have nT2:¬ w.heap.size=w.heap.size+1:=by omega
 refine region_acts (C:=Exc ((fun j=>j=w.heap.size+1)) _) 2 [0,1,2,3,4,5,6] (by kernel_rfl) (by kernel_rfl) (Exc.grows _ _) (Exc.refl _ _) ?_
 iterate 4 (apply x_sT rfl rfl rfl;(focus intro u hc' hf';(try simp only [World.size_drew] at hc' hf');go_simp <;> rfl);intro K hK;go_simp;apply hK;clear hK K)
 refine x_call rfl rfl rfl (Exc.grows _ _) (Exc.refl _ _) 139 (fun K hK=>?_);apply Exists.intro;refine ⟨fun w' hw'=>?_,fun wb hwb hbwb=>?_⟩;(focus go_simp;rfl);refine (plain5_any _ nm to _ n a c _ rfl).mono ?_;rintro e w7 ⟨rfl,hb7⟩;refine ⟨_,rfl,hb7,fun hx=>?_⟩;go_simp;apply hK;clear hK K
 refine x_do rfl rfl rfl (Exc.grows _ _) hx (fun K hK=>?_)
 intro w8 hw8 hb8
 have hb8':Below W.heap.size W w8:=(Below.refl W.heap.size W).drew.trans ((hbwb.mono (by simp)).trans ((hb7.trans (hb8.mono hb7.size)).mono (by have:=hbwb.size;simpa using this)))
 have k0:=cell_keep hb8' r0
 have k1:=cell_keep hb8' r1
 have k2:=cell_keep hb8' r2
 have k3:=cell_keep hb8' r3
 have k4:=cell_keep hb8' r4
 have kf:∀ j,w8.frozen? ⟨w.heap.size+1,j,none⟩=false:=fun j=>(hb8'.frozen (p:=⟨w.heap.size+1,j,none⟩) hsW).trans (rf j)
 refine ⟨((((w8.setCell ⟨w.heap.size+1,0,none⟩ (fv 139)).setCell ⟨w.heap.size+1,1,none⟩ (fv 140)).setCell ⟨w.heap.size+1,2,none⟩ (fv 142)).setCell ⟨w.heap.size+1,3,none⟩ (fv 143)).setCell ⟨w.heap.size+1,4,none⟩ (.string wDrop),?_,⟨exc_set (exc_set (exc_set (exc_set (exc_set hw8 (.inr rfl) _) (.inr rfl) _) (.inr rfl) _) (.inr rfl) _) (.inr rfl) _,by simp,fun j hj _ _=>by rw [Below.heap_setCell _ _ _ _ (fun h=>by simp at h hj;omega),Below.heap_setCell _ _ _ _ (fun h=>by simp at h hj;omega),Below.heap_setCell _ _ _ _ (fun h=>by simp at h hj;omega),Below.heap_setCell _ _ _ _ (fun h=>by simp at h hj;omega),Below.heap_setCell _ _ _ _ (fun h=>by simp at h hj;omega)]⟩,?_⟩
 ·simp only [fv] at *
  go_simp
 go_simp
 refine hK _ _ _ ?_
 clear hK K
 refine x_still rfl rfl rfl (fun K hK=>?_)
 apply Exists.intro
 refine ⟨fun w' hw'=>?_,?_⟩
 ·go_simp
  rfl
 go_simp
 refine hK _ _ _ ?_
 clear hK K
 refine x_nil ?_
 go_wp2
 exact bodyPost_ret (v:=.tuple #[kV2,.bool (decide (to=ByteArray.empty∧n=0))]) (by simp [results,Tryz.results84,go_sem,kV2,fv,k0,k1,k2,k3,k4]) rfl ⟨rfl,(((((hbw'.trans (hb8'.mono hbw'.size)).setCell (by simp) _).setCell (by simp) _).setCell (by simp) _).setCell (by simp) _).setCell (by simp) _⟩
end Go.Proofs.YtldhpaflmnlcaaaGreatDoor
/-
  An entry's kind, for the third kind. Own work.
-/
namespace Go.Proofs.YtldhpaflmnlcaaaGreatDoor
open Go.RowKit
theorem kind_3 (nm to:ByteArray) (n:Nat) (a:Option Addr) (c:Nat) (w:World) :
  Calls Tryz.prog 84 #[.agg #[.int .i64 3,.string nm,.string to,.slice a n c]] w fun e w'=>e=.returned (.tuple #[kV3,.bool (decide (n=0))])∧Below w.heap.size w w':=by
 have g1:inB 3 1 3=true:=by simp [inB]
 go_enter Tryz.func84,Tryz.ntmps84
 go_wp2_with (go_at_call 113;refine (within_any _ _ _ _).mono ?_;rintro e w1 ⟨rfl,rfl⟩)
 have hwr:IntKind.i64.wrap 2=2:=by decide
 have hix:=fun w=>(kIndex w).2.2
 refine region_acts (C:=Exc (NoT) _) 2 [0,1,2,3,4,5,6] (by kernel_rfl) (by kernel_rfl) (Exc.grows _ _) (Exc.refl _ _) ?_
 refine x_call rfl rfl rfl (Exc.grows _ _) (Exc.refl _ _) 93 (fun K hK=>?_);apply Exists.intro;refine ⟨fun w' hw'=>?_,fun wa hwa hbwa=>?_⟩;(focus go_simp;rfl);refine (kinds_any _).mono ?_;rintro e w3 ⟨rfl,hb3⟩;refine ⟨_,rfl,hb3,fun hx=>?_⟩;go_simp;apply hK;clear hK K
 iterate 4 (apply x_st rfl rfl rfl;(focus intro u hc' hf';go_simp <;> rfl);intro K hK;go_simp;apply hK;clear hK K)
 refine x_make rfl rfl rfl (Exc.grows _ _) (hx) (fun b=>.pointer (some ⟨b,0,none⟩)) (fun K hK=>?_)
 apply Exists.intro
 refine ⟨fun w' hw'=>?_,fun bb w5 hw5 hb5 hbo hNb hnb=>?_⟩
 ·obtain ⟨hc',hf'⟩:=hw'.cell
  try simp only [World.size_drew] at hc' hf'
  go_simp
  rfl
 go_simp
 refine hK _ _ _ ?_
 clear hK K
 refine x_do rfl rfl rfl (Exc.grows _ _) hw5 (fun K hK=>?_)
 intro w6 hw6 hb6
 obtain ⟨m0,m1,m2⟩:=made_cell ((hb6.block bb (made_cell hbo).2.2).trans hbo)
 refine ⟨((((w6.setCell ⟨bb,0,none⟩ (fv 144)).setCell ⟨bb,1,none⟩ (fv 145)).setCell ⟨bb,2,none⟩ (fv 147)).setCell ⟨bb,3,none⟩ (fv 148)).setCell ⟨bb,4,none⟩ (.string wName),?_,⟨exc_set (exc_set (exc_set (exc_set (exc_set hw6 (.inl hNb) _) (.inl hNb) _) (.inl hNb) _) (.inl hNb) _) (.inl hNb) _,by simp,fun j _ hj _=>by rw [Below.heap_setCell _ _ _ _ (fun h=>hj (by simp [h])),Below.heap_setCell _ _ _ _ (fun h=>hj (by simp [h])),Below.heap_setCell _ _ _ _ (fun h=>hj (by simp [h])),Below.heap_setCell _ _ _ _ (fun h=>hj (by simp [h])),Below.heap_setCell _ _ _ _ (fun h=>hj (by simp [h]))]⟩,?_⟩
 ·simp only [kV3,fv]
  go_simp
 go_simp
 refine hK _ _ _ ?_
 clear hK K
 refine x_nil ?_
 have up:∀ {w':World},Exc NoT (((w.alloc (.cells #[.int .i64 3,.string nm,.string to,.slice a n c] 54)).alloc (.cells #[.nilFunc,.nilFunc,.nilFunc,.nilFunc,.string ⟨#[]⟩] 113)).drew) w' → Below (w.heap.size+1+1) ((w.alloc (.cells #[.int .i64 3,.string nm,.string to,.slice a n c] 54)).alloc (.cells #[.nilFunc,.nilFunc,.nilFunc,.nilFunc,.string ⟨#[]⟩] 113)) w':=fun h=>(Below.refl _ _).drew.trans (h.toBelow.mono (by simp))
 have hbb:w.heap.size+1+1≤bb:=by simpa using hNb
 have hw6':=up hw6
 generalize hW:((((w6.setCell ⟨bb,0,none⟩ (fv 144)).setCell ⟨bb,1,none⟩ (fv 145)).setCell ⟨bb,2,none⟩ (fv 147)).setCell ⟨bb,3,none⟩ (fv 148)).setCell ⟨bb,4,none⟩ (.string wName)=W
 have hbW:Below (w.heap.size+1+1) ((w.alloc (.cells #[.int .i64 3,.string nm,.string to,.slice a n c] 54)).alloc (.cells #[.nilFunc,.nilFunc,.nilFunc,.nilFunc,.string ⟨#[]⟩] 113)) W:=by
  rw [← hW];exact ((((hw6'.setCell hbb _).setCell hbb _).setCell hbb _).setCell hbb _).setCell hbb _
 have n0:W.cell? ⟨bb,0,none⟩=some (fv 144):=by rw [← hW];clear hW;go_simp
 have n1:W.cell? ⟨bb,1,none⟩=some (fv 145):=by rw [← hW];clear hW;go_simp
 have n2:W.cell? ⟨bb,2,none⟩=some (fv 147):=by rw [← hW];clear hW;go_simp
 have n3:W.cell? ⟨bb,3,none⟩=some (fv 148):=by rw [← hW];clear hW;go_simp
 have n4:W.cell? ⟨bb,4,none⟩=some (.string wName):=by rw [← hW];clear hW;go_simp
 have hbbW:bb<W.heap.size:=by rw [← hW];simpa using m2
 have e0:W.cell? ⟨w.heap.size,0,none⟩=some (.int .i64 3):=by rw [hbW.cell (p:=⟨w.heap.size,0,none⟩) (by simp;omega)];go_simp
 have e1:W.cell? ⟨w.heap.size,1,none⟩=some (.string nm):=by rw [hbW.cell (p:=⟨w.heap.size,1,none⟩) (by simp;omega)];go_simp
 have e2:W.cell? ⟨w.heap.size,2,none⟩=some (.string to):=by rw [hbW.cell (p:=⟨w.heap.size,2,none⟩) (by simp;omega)];go_simp
 have e3:W.cell? ⟨w.heap.size,3,none⟩=some (.slice a n c):=by rw [hbW.cell (p:=⟨w.heap.size,3,none⟩) (by simp;omega)];go_simp
 have r0:W.cell? ⟨w.heap.size+1,0,none⟩=some .nilFunc:=by rw [hbW.cell (p:=⟨w.heap.size+1,0,none⟩) (by simp)];go_simp
 have r1:W.cell? ⟨w.heap.size+1,1,none⟩=some .nilFunc:=by rw [hbW.cell (p:=⟨w.heap.size+1,1,none⟩) (by simp)];go_simp
 have r2:W.cell? ⟨w.heap.size+1,2,none⟩=some .nilFunc:=by rw [hbW.cell (p:=⟨w.heap.size+1,2,none⟩) (by simp)];go_simp
 have r3:W.cell? ⟨w.heap.size+1,3,none⟩=some .nilFunc:=by rw [hbW.cell (p:=⟨w.heap.size+1,3,none⟩) (by simp)];go_simp
 have r4:W.cell? ⟨w.heap.size+1,4,none⟩=some (.string ⟨#[]⟩):=by rw [hbW.cell (p:=⟨w.heap.size+1,4,none⟩) (by simp)];go_simp
 have rf:∀ j,W.frozen? ⟨w.heap.size+1,j,none⟩=false:=fun j=>by rw [hbW.frozen (p:=⟨w.heap.size+1,j,none⟩) (by simp)];go_simp
 have hsW:w.heap.size+1<W.heap.size:=by have:=hbW.size;simp at this;omega
 have hsW2:w.heap.size<W.heap.size:=by omega
 have hbw':Below w.heap.size w W:=(((Below.refl _ _).alloc (Nat.le_refl _) _).alloc (by simp) _).trans (hbW.mono (by omega))
 clear hW hw6' hw6 hb6 hw5 hb5 hbo hNb hnb hx hb3 hwa hbwa m0 m1 m2 hbW up hix hwr
 go_wp2_with fail
 have nT1:¬ bb=w.heap.size+1:=by omega
 have nT2:¬ w.heap.size=w.heap.size+1:=by omega
 refine region_acts (C:=Exc ((fun j=>j=w.heap.size+1)) _) 2 [0,1,2,3,4,5,6] (by kernel_rfl) (by kernel_rfl) (Exc.grows _ _) (Exc.refl _ _) ?_
 iterate 4 (apply x_sT rfl rfl rfl;(focus intro u hc' hf';(try simp only [World.size_drew] at hc' hf');go_simp <;> rfl);intro K hK;go_simp;apply hK;clear hK K)
 refine x_call rfl rfl rfl (Exc.grows _ _) (Exc.refl _ _) 144 (fun K hK=>?_);apply Exists.intro;refine ⟨fun w' hw'=>?_,fun wb hwb hbwb=>?_⟩;(focus go_simp;rfl);refine (plain9_any _ nm to _ n a c _ rfl).mono ?_;rintro e w7 ⟨rfl,hb7⟩;refine ⟨_,rfl,hb7,fun hx=>?_⟩;go_simp;apply hK;clear hK K
 refine x_do rfl rfl rfl (Exc.grows _ _) hx (fun K hK=>?_)
 intro w8 hw8 hb8
 have hb8':Below W.heap.size W w8:=(Below.refl W.heap.size W).drew.trans ((hbwb.mono (by simp)).trans ((hb7.trans (hb8.mono hb7.size)).mono (by have:=hbwb.size;simpa using this)))
 have k0:=cell_keep hb8' r0
 have k1:=cell_keep hb8' r1
 have k2:=cell_keep hb8' r2
 have k3:=cell_keep hb8' r3
 have k4:=cell_keep hb8' r4
 have kf:∀ j,w8.frozen? ⟨w.heap.size+1,j,none⟩=false:=fun j=>(hb8'.frozen (p:=⟨w.heap.size+1,j,none⟩) hsW).trans (rf j)
 refine ⟨((((w8.setCell ⟨w.heap.size+1,0,none⟩ (fv 144)).setCell ⟨w.heap.size+1,1,none⟩ (fv 145)).setCell ⟨w.heap.size+1,2,none⟩ (fv 147)).setCell ⟨w.heap.size+1,3,none⟩ (fv 148)).setCell ⟨w.heap.size+1,4,none⟩ (.string wName),?_,⟨exc_set (exc_set (exc_set (exc_set (exc_set hw8 (.inr rfl) _) (.inr rfl) _) (.inr rfl) _) (.inr rfl) _) (.inr rfl) _,by simp,fun j hj _ _=>by rw [Below.heap_setCell _ _ _ _ (fun h=>by simp at h hj;omega),Below.heap_setCell _ _ _ _ (fun h=>by simp at h hj;omega),Below.heap_setCell _ _ _ _ (fun h=>by simp at h hj;omega),Below.heap_setCell _ _ _ _ (fun h=>by simp at h hj;omega),Below.heap_setCell _ _ _ _ (fun h=>by simp at h hj;omega)]⟩,?_⟩
 ·simp only [fv] at *
  go_simp
 go_simp
 refine hK _ _ _ ?_
 clear hK K
 refine x_still rfl rfl rfl (fun K hK=>?_)
 apply Exists.intro
 refine ⟨fun w' hw'=>?_,?_⟩
 ·go_simp
  rfl
 go_simp
 refine hK _ _ _ ?_
 clear hK K
 refine x_nil ?_
 go_wp2
 exact bodyPost_ret (v:=.tuple #[kV3,.bool (decide (n=0))]) (by simp [results,Tryz.results84,go_sem,kV3,fv,k0,k1,k2,k3,k4]) rfl ⟨rfl,(((((hbw'.trans (hb8'.mono hbw'.size)).setCell (by simp) _).setCell (by simp) _).setCell (by simp) _).setCell (by simp) _).setCell (by simp) _⟩
end Go.Proofs.YtldhpaflmnlcaaaGreatDoor
/-
  The program's ApplyEntry. Own work.
-/
namespace Go.Proofs.YtldhpaflmnlcaaaGreatDoor
open Go.RowKit
theorem LibPost.low {o:Option (List Df)} {w w1:World} {e:Ending} {w':World} (h:LibPost o w1 e w') (hb:Below w.heap.size w w1):LibPost o w e w':=by
 obtain ⟨v',h1,h2,h3⟩:=h
 exact ⟨v',h1,h2.mono hb.size,hb.trans (h3.mono hb.size)⟩
theorem apply2_any (v vb:Value) (L:List Df) (e:En) (w:World) (hv:DfsAt w v L) (hn:L.length≤1048576) (hs:∀ x ∈ L,DfOk x) (hg:good L=true) (hvb:NdsAt w vb e.body) (he:EnOk e) :
  Calls Tryz.prog 133 #[v,.agg #[.int .i64 e.kind,.string e.name,.string e.to,vb]] w (LibPost (addL L (joD L e)) w):=by
 obtain ⟨a,cap,rfl⟩:∃ a cap,v=.slice a L.length cap:=by obtain ⟨a,cap,rfl,_⟩:=hv;exact ⟨a,cap,rfl⟩
 obtain ⟨ab,cb,rfl⟩:=hvb.slice
 have HG:=Lib.hid hg
 clear hg
 go_enter Tryz.func133,Tryz.ntmps133
 go_wp2_with (first|(go_at_call 135;refine (definition_any _ _ L e _ (hv.keep (alloc_below _ _)) hn hs HG.out (hvb.keep (alloc_below _ _)) he).mono ?_;rintro r w2 ⟨x,rfl,hx,hb2⟩;have hb2':Below w.heap.size w w2:=(alloc_below _ _).trans (hb2.mono (by simp)))|(go_at_call 134;refine (implAddDef_any _ _ L ⟨e.name,x.1,x.2,e.body⟩ _ (hv.keep hb2') hn hs (hvb.keep hb2') ⟨he.1,he.2.2⟩).mono ?_;intro r w3 hp3;rw [← addL_joD x hx] at hp3;obtain ⟨v3,rfl,ho3,hb3⟩:=hp3))
 go_ret2
 exact ⟨v3,rfl,ho3.mono hb2'.size,hb2'.trans (hb3.mono hb2'.size)⟩
theorem apply6_any (v vb:Value) (L:List Df) (e:En) (w:World) (hv:DfsAt w v L) (hn:L.length≤1048576) (hs:∀ x ∈ L,DfOk x) (hvb:NdsAt w vb e.body) :
  Calls Tryz.prog 140 #[v,.agg #[.int .i64 e.kind,.string e.name,.string e.to,vb]] w (LibPost (remL L e.name) w):=by
 obtain ⟨a,cap,rfl⟩:∃ a cap,v=.slice a L.length cap:=by obtain ⟨a,cap,rfl,_⟩:=hv;exact ⟨a,cap,rfl⟩
 obtain ⟨ab,cb,rfl⟩:=hvb.slice
 go_enter Tryz.func140,Tryz.ntmps140
 go_wp2_with (go_at_call 141;refine (implRemoveDef_any _ L _ _ (hv.keep (alloc_below _ _)) hn hs).mono ?_;rintro r w3 ⟨v3,rfl,ho3,hb3⟩)
 go_ret2
 exact ⟨v3,rfl,ho3.mono (by simp),(alloc_below _ _).trans (hb3.mono (by simp))⟩
theorem apply10_any (v vb:Value) (L:List Df) (e:En) (w:World) (hv:DfsAt w v L) (hn:L.length≤1048576) (hs:∀ x ∈ L,DfOk x) (hvb:NdsAt w vb e.body) (he:EnOk e) :
  Calls Tryz.prog 145 #[v,.agg #[.int .i64 e.kind,.string e.name,.string e.to,vb]] w (LibPost (renL L e.name e.to) w):=by
 obtain ⟨a,cap,rfl⟩:∃ a cap,v=.slice a L.length cap:=by obtain ⟨a,cap,rfl,_⟩:=hv;exact ⟨a,cap,rfl⟩
 obtain ⟨ab,cb,rfl⟩:=hvb.slice
 go_enter Tryz.func145,Tryz.ntmps145
 go_wp2_with (go_at_call 146;refine (implRenameDef_any _ L _ _ _ (hv.keep (alloc_below _ _)) hn hs he.2.1).mono ?_;rintro r w3 ⟨v3,rfl,ho3,hb3⟩)
 go_ret2
 exact ⟨v3,rfl,ho3.mono (by simp),(alloc_below _ _).trans (hb3.mono (by simp))⟩
theorem implApply_1 (v vb:Value) (L:List Df) (nm to:ByteArray) (body:List Nd) (w:World) (hv:DfsAt w v L) (hn:L.length≤1048576) (hs:∀ x ∈ L,DfOk x) (hvb:NdsAt w vb body) (he:EnOk ⟨1,nm,to,body⟩) :
  Calls Tryz.prog 39 #[v,.agg #[.int .i64 1,.string nm,.string to,vb]] w (LibPost (applyE L ⟨1,nm,to,body⟩) w):=by
 obtain ⟨a,cap,rfl⟩:∃ a cap,v=.slice a L.length cap:=by obtain ⟨a,cap,rfl,_⟩:=hv;exact ⟨a,cap,rfl⟩
 obtain ⟨ab,cb,rfl⟩:=hvb.slice
 have hpl:plainE ⟨1,nm,to,body⟩=decide (to=ByteArray.empty):=by simp [plainE];try (cases body <;> simp)
 by_cases hp:to=ByteArray.empty
 ·have HD:Hid (decide (to=ByteArray.empty)=true):=(show _=_ by simpa using hp)
  cases hg:good L
  ·have HA:Hid (applyE L ⟨1,nm,to,body⟩=none):=(show _=_ by simp [applyE,hg])
   have HG:=Lib.hid hg
   clear hg hp hpl
   go_enter Tryz.func39,Tryz.ntmps39
   go_wp2_with (first|(go_at_call 84;refine (kind_1 nm to body.length ab cb _).mono ?_;rintro r w2 ⟨rfl,hb2⟩;rw [HD.out];simp only [kV1,fv];have hb2':Below w.heap.size w w2:=(alloc_below _ _).trans (hb2.mono (by simp)))|(go_at_call 68;refine (isLibrary_any _ L _ (hv.keep (hb2'.alloc hb2'.size _)) hn hs).mono ?_;rintro e w3 ⟨rfl,hb3⟩;rw [HG.out];have hb3':=(hb2'.alloc hb2'.size _).trans (hb3.mono (by simp;have:=hb2'.size;omega))))
   go_ret2
   exact ⟨_,by rw [HA.out];rfl,by rw [HA.out];exact dfsOwn_nil _ _,hb3'⟩
  ·have HA:Hid (applyE L ⟨1,nm,to,body⟩=addL L (joD L ⟨1,nm,to,body⟩)):=(show _=_ by unfold applyE;rw [if_pos ⟨hg,by rw [hpl];simpa using hp⟩];rfl)
   have HG:=Lib.hid hg
   clear hg hp hpl
   go_enter Tryz.func39,Tryz.ntmps39
   go_wp2_with (first|(go_at_call 84;refine (kind_1 nm to body.length ab cb _).mono ?_;rintro r w2 ⟨rfl,hb2⟩;rw [HD.out];simp only [kV1,fv];obtain ⟨hc2,hf2,hs2⟩:=bcell hb2;have hb2':Below w.heap.size w w2:=(alloc_below _ _).trans (hb2.mono (by simp)))|(go_at_call 68;refine (isLibrary_any _ L _ (hv.keep (hb2'.alloc hb2'.size _)) hn hs).mono ?_;rintro e w3 ⟨rfl,hb3⟩;rw [HG.out];obtain ⟨hc3,hf3,hs3⟩:=bcell hb3;have k1:w3.cell? ⟨w2.heap.size,1,none⟩=some (.func (.func 133) #[] #[]):=(hc3 _ _ (by simp)).trans (by simp);have hb3c:Below w2.heap.size w2 w3:=(alloc_below _ _).trans (hb3.mono (by simp));have x0:w2.cell? ⟨w.heap.size,0,none⟩=some (.int .i64 1):=(hc2 _ _ (by simp)).trans (by simp);have x1:w2.cell? ⟨w.heap.size,1,none⟩=some (.string nm):=(hc2 _ _ (by simp)).trans (by simp);have x2:w2.cell? ⟨w.heap.size,2,none⟩=some (.string to):=(hc2 _ _ (by simp)).trans (by simp);have x3:w2.cell? ⟨w.heap.size,3,none⟩=some (.slice ab body.length cb):=(hc2 _ _ (by simp)).trans (by simp);have y0:=cell_keep hb3c x0;have y1:=cell_keep hb3c x1;have y2:=cell_keep hb3c x2;have y3:=cell_keep hb3c x3;have hb3':=(hb2'.alloc hb2'.size _).trans (hb3.mono (by simp;have:=hb2'.size;omega)))|(go_at_call 133;refine (apply2_any _ _ L ⟨1,nm,to,body⟩ _ (hv.keep hb3') hn hs HG.out (hvb.keep hb3') he).mono ?_;rintro r w4 ⟨v4,rfl,ho4,hb4⟩))
   go_ret2
   exact ⟨v4,by rw [HA.out];rfl,by rw [HA.out];exact ho4.mono hb3'.size,hb3'.trans (hb4.mono hb3'.size)⟩
 ·have HD:Hid (decide (to=ByteArray.empty)=false):=(show _=_ by simpa using hp)
  have HA:Hid (applyE L ⟨1,nm,to,body⟩=none):=(show _=_ by unfold applyE;rw [if_neg (fun h=>hp (by have:=h.2;rw [hpl] at this;simpa using this))])
  clear hp hpl
  go_enter Tryz.func39,Tryz.ntmps39
  go_wp2_with (go_at_call 84;refine (kind_1 nm to body.length ab cb _).mono ?_;rintro r w2 ⟨rfl,hb2⟩;rw [HD.out];simp only [kV1,fv];have hb2':Below w.heap.size w w2:=(alloc_below _ _).trans (hb2.mono (by simp)))
  go_ret2
  exact ⟨_,by rw [HA.out];rfl,by rw [HA.out];exact dfsOwn_nil _ _,hb2'.alloc hb2'.size _⟩
theorem implApply_2 (v vb:Value) (L:List Df) (nm to:ByteArray) (body:List Nd) (w:World) (hv:DfsAt w v L) (hn:L.length≤1048576) (hs:∀ x ∈ L,DfOk x) (hvb:NdsAt w vb body) (he:EnOk ⟨2,nm,to,body⟩) :
  Calls Tryz.prog 39 #[v,.agg #[.int .i64 2,.string nm,.string to,vb]] w (LibPost (applyE L ⟨2,nm,to,body⟩) w):=by
 obtain ⟨a,cap,rfl⟩:∃ a cap,v=.slice a L.length cap:=by obtain ⟨a,cap,rfl,_⟩:=hv;exact ⟨a,cap,rfl⟩
 obtain ⟨ab,cb,rfl⟩:=hvb.slice
 have hpl:plainE ⟨2,nm,to,body⟩=decide (to=ByteArray.empty∧body.length=0):=by simp [plainE];try (cases body <;> simp)
 by_cases hp:to=ByteArray.empty∧body.length=0
 ·have HD:Hid (decide (to=ByteArray.empty∧body.length=0)=true):=(show _=_ by simpa using hp)
  cases hg:good L
  ·have HA:Hid (applyE L ⟨2,nm,to,body⟩=none):=(show _=_ by simp [applyE,hg])
   have HG:=Lib.hid hg
   clear hg hp hpl
   go_enter Tryz.func39,Tryz.ntmps39
   go_wp2_with (first|(go_at_call 84;refine (kind_2 nm to body.length ab cb _).mono ?_;rintro r w2 ⟨rfl,hb2⟩;rw [HD.out];simp only [kV2,fv];have hb2':Below w.heap.size w w2:=(alloc_below _ _).trans (hb2.mono (by simp)))|(go_at_call 68;refine (isLibrary_any _ L _ (hv.keep (hb2'.alloc hb2'.size _)) hn hs).mono ?_;rintro e w3 ⟨rfl,hb3⟩;rw [HG.out];have hb3':=(hb2'.alloc hb2'.size _).trans (hb3.mono (by simp;have:=hb2'.size;omega))))
   go_ret2
   exact ⟨_,by rw [HA.out];rfl,by rw [HA.out];exact dfsOwn_nil _ _,hb3'⟩
  ·have HA:Hid (applyE L ⟨2,nm,to,body⟩=remL L nm):=(show _=_ by unfold applyE;rw [if_pos ⟨hg,by rw [hpl];simpa using hp⟩];rfl)
   have HG:=Lib.hid hg
   clear hg hp hpl
   go_enter Tryz.func39,Tryz.ntmps39
   go_wp2_with (first|(go_at_call 84;refine (kind_2 nm to body.length ab cb _).mono ?_;rintro r w2 ⟨rfl,hb2⟩;rw [HD.out];simp only [kV2,fv];obtain ⟨hc2,hf2,hs2⟩:=bcell hb2;have hb2':Below w.heap.size w w2:=(alloc_below _ _).trans (hb2.mono (by simp)))|(go_at_call 68;refine (isLibrary_any _ L _ (hv.keep (hb2'.alloc hb2'.size _)) hn hs).mono ?_;rintro e w3 ⟨rfl,hb3⟩;rw [HG.out];obtain ⟨hc3,hf3,hs3⟩:=bcell hb3;have k1:w3.cell? ⟨w2.heap.size,1,none⟩=some (.func (.func 140) #[] #[]):=(hc3 _ _ (by simp)).trans (by simp);have hb3c:Below w2.heap.size w2 w3:=(alloc_below _ _).trans (hb3.mono (by simp));have x0:w2.cell? ⟨w.heap.size,0,none⟩=some (.int .i64 2):=(hc2 _ _ (by simp)).trans (by simp);have x1:w2.cell? ⟨w.heap.size,1,none⟩=some (.string nm):=(hc2 _ _ (by simp)).trans (by simp);have x2:w2.cell? ⟨w.heap.size,2,none⟩=some (.string to):=(hc2 _ _ (by simp)).trans (by simp);have x3:w2.cell? ⟨w.heap.size,3,none⟩=some (.slice ab body.length cb):=(hc2 _ _ (by simp)).trans (by simp);have y0:=cell_keep hb3c x0;have y1:=cell_keep hb3c x1;have y2:=cell_keep hb3c x2;have y3:=cell_keep hb3c x3;have hb3':=(hb2'.alloc hb2'.size _).trans (hb3.mono (by simp;have:=hb2'.size;omega)))|(go_at_call 140;refine (apply6_any _ _ L ⟨2,nm,to,body⟩ _ (hv.keep hb3') hn hs (hvb.keep hb3')).mono ?_;rintro r w4 ⟨v4,rfl,ho4,hb4⟩))
   go_ret2
   exact ⟨v4,by rw [HA.out];rfl,by rw [HA.out];exact ho4.mono hb3'.size,hb3'.trans (hb4.mono hb3'.size)⟩
 ·have HD:Hid (decide (to=ByteArray.empty∧body.length=0)=false):=(show _=_ by simpa using hp)
  have HA:Hid (applyE L ⟨2,nm,to,body⟩=none):=(show _=_ by unfold applyE;rw [if_neg (fun h=>hp (by have:=h.2;rw [hpl] at this;simpa using this))])
  clear hp hpl
  go_enter Tryz.func39,Tryz.ntmps39
  go_wp2_with (go_at_call 84;refine (kind_2 nm to body.length ab cb _).mono ?_;rintro r w2 ⟨rfl,hb2⟩;rw [HD.out];simp only [kV2,fv];have hb2':Below w.heap.size w w2:=(alloc_below _ _).trans (hb2.mono (by simp)))
  go_ret2
  exact ⟨_,by rw [HA.out];rfl,by rw [HA.out];exact dfsOwn_nil _ _,hb2'.alloc hb2'.size _⟩
theorem implApply_3 (v vb:Value) (L:List Df) (nm to:ByteArray) (body:List Nd) (w:World) (hv:DfsAt w v L) (hn:L.length≤1048576) (hs:∀ x ∈ L,DfOk x) (hvb:NdsAt w vb body) (he:EnOk ⟨3,nm,to,body⟩) :
  Calls Tryz.prog 39 #[v,.agg #[.int .i64 3,.string nm,.string to,vb]] w (LibPost (applyE L ⟨3,nm,to,body⟩) w):=by
 obtain ⟨a,cap,rfl⟩:∃ a cap,v=.slice a L.length cap:=by obtain ⟨a,cap,rfl,_⟩:=hv;exact ⟨a,cap,rfl⟩
 obtain ⟨ab,cb,rfl⟩:=hvb.slice
 have hpl:plainE ⟨3,nm,to,body⟩=decide (body.length=0):=by simp [plainE];try (cases body <;> simp)
 by_cases hp:body.length=0
 ·have HD:Hid (decide (body.length=0)=true):=(show _=_ by simpa using hp)
  cases hg:good L
  ·have HA:Hid (applyE L ⟨3,nm,to,body⟩=none):=(show _=_ by simp [applyE,hg])
   have HG:=Lib.hid hg
   clear hg hp hpl
   go_enter Tryz.func39,Tryz.ntmps39
   go_wp2_with (first|(go_at_call 84;refine (kind_3 nm to body.length ab cb _).mono ?_;rintro r w2 ⟨rfl,hb2⟩;rw [HD.out];simp only [kV3,fv];have hb2':Below w.heap.size w w2:=(alloc_below _ _).trans (hb2.mono (by simp)))|(go_at_call 68;refine (isLibrary_any _ L _ (hv.keep (hb2'.alloc hb2'.size _)) hn hs).mono ?_;rintro e w3 ⟨rfl,hb3⟩;rw [HG.out];have hb3':=(hb2'.alloc hb2'.size _).trans (hb3.mono (by simp;have:=hb2'.size;omega))))
   go_ret2
   exact ⟨_,by rw [HA.out];rfl,by rw [HA.out];exact dfsOwn_nil _ _,hb3'⟩
  ·have HA:Hid (applyE L ⟨3,nm,to,body⟩=renL L nm to):=(show _=_ by unfold applyE;rw [if_pos ⟨hg,by rw [hpl];simpa using hp⟩];rfl)
   have HG:=Lib.hid hg
   clear hg hp hpl
   go_enter Tryz.func39,Tryz.ntmps39
   go_wp2_with (first|(go_at_call 84;refine (kind_3 nm to body.length ab cb _).mono ?_;rintro r w2 ⟨rfl,hb2⟩;rw [HD.out];simp only [kV3,fv];obtain ⟨hc2,hf2,hs2⟩:=bcell hb2;have hb2':Below w.heap.size w w2:=(alloc_below _ _).trans (hb2.mono (by simp)))|(go_at_call 68;refine (isLibrary_any _ L _ (hv.keep (hb2'.alloc hb2'.size _)) hn hs).mono ?_;rintro e w3 ⟨rfl,hb3⟩;rw [HG.out];obtain ⟨hc3,hf3,hs3⟩:=bcell hb3;have k1:w3.cell? ⟨w2.heap.size,1,none⟩=some (.func (.func 145) #[] #[]):=(hc3 _ _ (by simp)).trans (by simp);have hb3c:Below w2.heap.size w2 w3:=(alloc_below _ _).trans (hb3.mono (by simp));have x0:w2.cell? ⟨w.heap.size,0,none⟩=some (.int .i64 3):=(hc2 _ _ (by simp)).trans (by simp);have x1:w2.cell? ⟨w.heap.size,1,none⟩=some (.string nm):=(hc2 _ _ (by simp)).trans (by simp);have x2:w2.cell? ⟨w.heap.size,2,none⟩=some (.string to):=(hc2 _ _ (by simp)).trans (by simp);have x3:w2.cell? ⟨w.heap.size,3,none⟩=some (.slice ab body.length cb):=(hc2 _ _ (by simp)).trans (by simp);have y0:=cell_keep hb3c x0;have y1:=cell_keep hb3c x1;have y2:=cell_keep hb3c x2;have y3:=cell_keep hb3c x3;have hb3':=(hb2'.alloc hb2'.size _).trans (hb3.mono (by simp;have:=hb2'.size;omega)))|(go_at_call 145;refine (apply10_any _ _ L ⟨3,nm,to,body⟩ _ (hv.keep hb3') hn hs (hvb.keep hb3') he).mono ?_;rintro r w4 ⟨v4,rfl,ho4,hb4⟩))
   go_ret2
   exact ⟨v4,by rw [HA.out];rfl,by rw [HA.out];exact ho4.mono hb3'.size,hb3'.trans (hb4.mono hb3'.size)⟩
 ·have HD:Hid (decide (body.length=0)=false):=(show _=_ by simpa using hp)
  have HA:Hid (applyE L ⟨3,nm,to,body⟩=none):=(show _=_ by unfold applyE;rw [if_neg (fun h=>hp (by have:=h.2;rw [hpl] at this;simpa using this))])
  clear hp hpl
  go_enter Tryz.func39,Tryz.ntmps39
  go_wp2_with (go_at_call 84;refine (kind_3 nm to body.length ab cb _).mono ?_;rintro r w2 ⟨rfl,hb2⟩;rw [HD.out];simp only [kV3,fv];have hb2':Below w.heap.size w w2:=(alloc_below _ _).trans (hb2.mono (by simp)))
  go_ret2
  exact ⟨_,by rw [HA.out];rfl,by rw [HA.out];exact dfsOwn_nil _ _,hb2'.alloc hb2'.size _⟩
theorem implApply_any (v vb:Value) (L:List Df) (e:En) (w:World) (hv:DfsAt w v L) (hn:L.length≤1048576) (hs:∀ x ∈ L,DfOk x) (hvb:NdsAt w vb e.body) (he:EnOk e) :
  Calls Tryz.prog 39 #[v,.agg #[.int .i64 e.kind,.string e.name,.string e.to,vb]] w (LibPost (applyE L e) w):=by
 obtain ⟨k,nm,to,body⟩:=e
 by_cases h1:k=1
 ·subst h1;exact implApply_1 v vb L nm to body w hv hn hs hvb he
 by_cases h2:k=2
 ·subst h2;exact implApply_2 v vb L nm to body w hv hn hs hvb he
 by_cases h3:k=3
 ·subst h3;exact implApply_3 v vb L nm to body w hv hn hs hvb he
 have HA:Hid (applyE L ⟨k,nm,to,body⟩=none):=(show _=_ by simp [applyE,h1,h2,h3])
 have hk:¬ (1≤k∧k≤3):=by omega
 clear h1 h2 h3
 obtain ⟨a,cap,rfl⟩:∃ a cap,v=.slice a L.length cap:=by obtain ⟨a,cap,rfl,_⟩:=hv;exact ⟨a,cap,rfl⟩
 obtain ⟨ab,cb,rfl⟩:=hvb.slice
 show Calls Tryz.prog 39 #[.slice a L.length cap,.agg #[.int .i64 k,.string nm,.string to,.slice ab body.length cb]] w (LibPost (applyE L ⟨k,nm,to,body⟩) w)
 go_enter Tryz.func39,Tryz.ntmps39
 go_wp2_with (go_at_call 84;refine (kind_none k nm to body.length ab cb _ hk).mono ?_;rintro r w2 ⟨rfl,hb2⟩;simp only [kV0];have hb2':Below w.heap.size w w2:=(alloc_below _ _).trans (hb2.mono (by simp)))
 go_ret2
 exact ⟨_,by rw [HA.out];rfl,by rw [HA.out];exact dfsOwn_nil _ _,hb2'.alloc hb2'.size _⟩
end Go.Proofs.YtldhpaflmnlcaaaGreatDoor
