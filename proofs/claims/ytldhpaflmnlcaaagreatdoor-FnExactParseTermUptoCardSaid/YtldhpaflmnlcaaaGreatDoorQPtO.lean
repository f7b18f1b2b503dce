/-
  Declarations that the merged groups of the journals leave out. (Printed by xtr.py.) Own work.
-/
import Derived.Test.YtldhpaflmnlcaaaGreatDoorQOB
set_option linter.all false
set_option maxRecDepth 100000
set_option maxHeartbeats 8000000
namespace Go.Proofs.YtldhpaflmnlcaaaGreatDoor
open Go.ChangeShapes Go.WideShapes Go.Deep
section
variable {H:Type} {enc:TypeId × Value → H} {w:World} {base:Nat} {spare:Nat → Bool} {held:Bool}
theorem mkLen_app:∀ (a b:List Df),mkLen (a ++ b)=mkLen a+mkLen b
 | [],b=>by simp [mkLen]
 | d :: r,b=>by simp only [List.cons_append,mkLen,mkLen_app r b];omega
theorem open_df {fuel:Nat} {cs:List Value} {x:DataW H × List MemPlace} (h:DataW.trod enc Tryz.prog w base spare held fuel 88 cs=some x) :
  ∃ (v:Value) (d:Df),cs=[.string d.name,.int .i64 d.inn,.int .i64 d.out,v]∧NdsAt w v d.body∧d.name.size≤Rows.uptoBulk x.1∧(∀ y ∈ d.body,y.name.size≤Rows.uptoBulk x.1) ∧
   d.body.length+3≤Rows.uptoBulk x.1:=by
 obtain ⟨y0,y1,y2,y3,n,hx,hl,h0,h1,h2,h3⟩:=trod_struct4 Tryz.underlying88 h
 rw [hx]
 rw [show Tryz.prog.cellsOf 88=4 by kernel_rfl] at hl
 obtain ⟨a,b,c,v0,rfl⟩:=list4 hl
 ·simp only [show Tryz.prog.cellsOf 3=1 by kernel_rfl,show Tryz.prog.cellsOf 9=1 by kernel_rfl,show Tryz.prog.cellsOf 47=1 by kernel_rfl,List.drop,List.take] at h0 h1 h2 h3
  obtain ⟨s,e0,q0,_⟩:=DataW.trod_string Tryz.underlying9 h0
  obtain ⟨k,e1,q1,_⟩:=DataW.trod_int Tryz.underlying3 h1
  obtain ⟨o,e2,q2,_⟩:=DataW.trod_int Tryz.underlying3 h2
  obtain ⟨v,ns,e3,hn,hs,hk⟩:=open_term h3
  simp at e0 e1 e2 e3
  subst e0 e1 e2 e3
  subst q0
  have:=bulk_lit_string (H:=H) s
  refine ⟨v0,⟨s,k,o,ns⟩,rfl,hn,?_,fun d hd=>?_,?_⟩
  ·simp only [Rows.uptoBulkAll,Rows.uptoBulk] at this ⊢
   omega
  ·have:=hs d hd
   simp only [Rows.uptoBulkAll,Rows.uptoBulk] at this ⊢
   omega
  ·simp only [Rows.uptoBulkAll,Rows.uptoBulk] at this hk ⊢
   omega
theorem sum_bulk {f:Nat → Df} {D:Nat → DataW H}:∀ (len:Nat),(∀ i,i<len → (f i).body.length+3≤Rows.uptoBulk (D i)) → mkLen ((List.range len).map f)≤3 * (Rows.uptoBulkAll ((List.range len).map D):Int)
 | 0,_=>by simp [mkLen,Rows.uptoBulkAll]
 | n+1,h=>by
  have ih:=sum_bulk n (fun i hi=>h i (by omega))
  have:=h n (by omega)
  rw [List.range_succ,List.map_append,List.map_append,bulks.append,mkLen_app]
  simp only [List.map,mkLen,Rows.uptoBulkAll]
  omega
theorem open_dfs {fuel:Nat} {cs:List Value} {x:DataW H × List MemPlace} (h:DataW.trod enc Tryz.prog w base spare held fuel 22 cs=some x) :
  ∃ (v:Value) (L:List Df),cs=[v]∧DfsAt w v L∧L.length+1≤Rows.uptoBulk x.1∧(∀ d ∈ L,d.name.size≤Rows.uptoBulk x.1∧(∀ y ∈ d.body,y.name.size≤Rows.uptoBulk x.1)∧d.body.length≤Rows.uptoBulk x.1) ∧
   mkLen L≤3 * (Rows.uptoBulk x.1:Int):=by
 rcases open_slice Tryz.underlying22 h with ⟨rfl,rfl⟩|⟨a,len,cap,m,n,D,Pl,rfl,hb,hl,hm,hmm,rfl,hx⟩
 ·exact ⟨_,[],rfl,⟨none,0,rfl,Nat.le_refl _,fun i hi=>absurd hi (Nat.not_lt_zero _)⟩,by simp [Rows.uptoBulk],(fun _ h=>by cases h),by simp only [mkLen];omega⟩
 have hlm:len≤m:=by rw [hmm];split <;> omega
 rw [show Tryz.prog.cellsOf 88=4 by kernel_rfl] at hx
 have each:∀ i,i<len → ∃ d:Df,(∃ b o,a=⟨b,o,none⟩∧DfAt w d b (o+i * 4))∧d.name.size≤Rows.uptoBulk (D i)∧(∀ y ∈ d.body,y.name.size≤Rows.uptoBulk (D i))∧d.body.length+3≤Rows.uptoBulk (D i):=by
  intro i hi
  obtain ⟨cs',h1,h2⟩:=hx i (by omega)
  obtain ⟨v,d,rfl,hv,hd⟩:=open_df h2
  obtain ⟨_,_,hcell⟩:=World.cells?_some h1
  have g0:=hcell 0 (by omega)
  have g1:=hcell 1 (by omega)
  have g2:=hcell 2 (by omega)
  have g3:=hcell 3 (by omega)
  rw [add_add] at g0 g1 g2 g3
  obtain ⟨b,o,sp⟩:=a
  obtain rfl:sp=none:=by
   obtain ⟨_,z1,_⟩:=hx 0 (by omega)
   exact spot_of (a:=⟨b,o,sp⟩) (n:=4) (by omega) (by simpa using z1)
  rw [add_plain] at g0 g1 g2 g3
  exact ⟨d,⟨b,o,rfl,by simpa using g0,by simpa [Nat.add_assoc] using g1,by simpa [Nat.add_assoc] using g2,v,by simpa [Nat.add_assoc] using g3,hv⟩,hd⟩
 haveI:Inhabited Df:=⟨⟨.empty,0,0,[]⟩⟩
 obtain ⟨f,hf⟩:=choose_lt each
 have hs:=bulks.slice_elems (H:=H) ((List.range len).map D) ((List.range (m - len)).map fun j=>D (len+j))
 have hln:=bulks.slice_le (H:=H) ((List.range len).map D) ((List.range (m - len)).map fun j=>D (len+j))
 have hsum:=sum_bulk (f:=f) (D:=D) len (fun i hi=>(hf i hi).2.2.2)
 refine ⟨_,(List.range len).map f,rfl,⟨some a,cap,by simp,by simpa using hl,fun i hi=>?_⟩,?_,?_,?_⟩
 ·simp at hi
  obtain ⟨b,o,rfl,hd⟩:=(hf i hi).1
  exact ⟨b,o,rfl,by simpa using hi,by simpa using hd⟩
 ·simp only [List.length_map,List.length_range] at hln ⊢
  omega
 ·intro d hd
  obtain ⟨i,hi,rfl⟩:=List.mem_map.1 hd
  have hi':=List.mem_range.1 hi
  have hp:=bulks.part_le (H:=H) (d:=D i) (l:=(List.range len).map D) (List.mem_map.2 ⟨i,hi,rfl⟩)
  obtain ⟨_,q1,q2,q3⟩:=hf i hi'
  refine ⟨by simp only;omega,fun y hy=>?_,by simp only;omega⟩
  have:=q2 y hy
  simp only
  omega
 ·simp only
  omega
end
end Go.Proofs.YtldhpaflmnlcaaaGreatDoor
