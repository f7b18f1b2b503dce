/-
  FOR A PROOF OF AN '..UptoSaid': WHAT THE BOUND GIVES. Copy it as <Name>Bulk.lean (put your seat's Name for YtldhpaflmnlcaaaGreatDoor, the bound of 'uptoSmall' for 1048576), name it in GOCLAIM.json's 'order' behind <Name>Rows. By an AI agent, Sun Nov 15 2026. No person has read it. No macro, syntax, notation, axiom, sorry.
-/
import Derived.Test.YtldhpaflmnlcaaaGreatDoorRows
import Derived.Test.YtldhpaflmnlcaaaGreatDoorQA
import Derived.Test.YtldhpaflmnlcaaaGreatDoorProg
import Derived.Deep.Slices
import Derived.Deep.Strs
import Derived.OpenShut
import Derived.KernelRfl
set_option linter.all false
set_option maxRecDepth 100000
set_option maxHeartbeats 8000000
namespace Go.Proofs.YtldhpaflmnlcaaaGreatDoor.bulks
theorem one_le {H:Type} (d:DataW H):1≤Rows.uptoBulk d:=by
 cases d with
 | lit l=>cases l <;> simp [Rows.uptoBulk]
 | nil=>simp [Rows.uptoBulk]
 | ptr d=>simp [Rows.uptoBulk]
 | slice elems spare=>simp [Rows.uptoBulk]
 | agg parts=>simp [Rows.uptoBulk]
 | iface t d=>simp [Rows.uptoBulk]
 | map entries=>simp [Rows.uptoBulk]
 | held h=>simp [Rows.uptoBulk]
theorem part_le {H:Type} {d:DataW H} {l:List (DataW H)} (h:d ∈ l):Rows.uptoBulk d≤Rows.uptoBulkAll l:=by
 induction l with
 | nil=>cases h
 | cons x r ih =>
  simp only [Rows.uptoBulkAll]
  cases List.mem_cons.1 h with
  | inl e=>subst e;omega
  | inr e=>have:=ih e;omega
theorem append {H:Type} (l r:List (DataW H)):Rows.uptoBulkAll (l ++ r)=Rows.uptoBulkAll l+Rows.uptoBulkAll r:=by
 induction l with
 | nil=>simp [Rows.uptoBulkAll]
 | cons x l ih=>simp only [List.cons_append,Rows.uptoBulkAll,ih];omega
theorem length_le {H:Type} (l:List (DataW H)):l.length≤Rows.uptoBulkAll l:=by
 induction l with
 | nil=>simp [Rows.uptoBulkAll]
 | cons x r ih=>have:=one_le x;simp only [Rows.uptoBulkAll,List.length_cons];omega
theorem slice_le {H:Type} (elems spare:List (DataW H)):elems.length+spare.length+1≤Rows.uptoBulk (.slice elems spare):=by
 have h1:=length_le elems
 have h2:=length_le spare
 simp only [Rows.uptoBulk]
 omega
theorem slice_elems {H:Type} (elems spare:List (DataW H)):Rows.uptoBulkAll elems+1≤Rows.uptoBulk (.slice elems spare):=by
 simp only [Rows.uptoBulk]
 omega
theorem bound {H:Type} {l:List (DataW H)} (hk:Rows.uptoSmall H l=true):Rows.uptoBulkAll l≤1048576:=by
 simpa [Rows.uptoSmall] using hk
end Go.Proofs.YtldhpaflmnlcaaaGreatDoor.bulks
/-
  The drawn arguments, opened: nodes, terms, definitions, entries. Own work.
-/
namespace Go.Proofs.YtldhpaflmnlcaaaGreatDoor
open Go.ChangeShapes Go.WideShapes Go.Deep
section
variable {H:Type} {enc:TypeId × Value → H} {w:World} {base:Nat} {spare:Nat → Bool} {held:Bool}
theorem list3 {cs:List Value} (h:cs.length=3):∃ a b c,cs=[a,b,c]:=by
 match cs,h with
 | [a,b,c],_=>exact ⟨a,b,c,rfl⟩
theorem spot_of {w:World} {base n:Nat} {a:Addr} {cs:List Value} (hn:0<n) (h:w.cells? base (a.add 0) n=some cs):a.spot=none:=by
 obtain ⟨_,hlen,hcell⟩:=World.cells?_some h
 have g0:=hcell 0 hn
 rw [add_add,List.getElem?_eq_getElem (by omega)] at g0
 simpa [Addr.add] using World.cell?_spot g0
theorem bulk_lit_string (s:ByteArray):Rows.uptoBulk (DataW.lit (H:=H) (.string s.data.toList))=s.size+1:=by
 simp only [Rows.uptoBulk,Array.length_toList]
 rfl
theorem open_nd {fuel:Nat} {cs:List Value} {x:DataW H × List MemPlace} (h:DataW.trod enc Tryz.prog w base spare held fuel 216 cs=some x) :
  ∃ d:Nd,cs=[.int .i64 d.kind,.int .i64 d.value,.string d.name]∧d.name.size≤Rows.uptoBulk x.1:=by
 obtain ⟨y0,y1,y2,n,rfl,hl,h0,h1,h2⟩:=trod_struct3 Tryz.underlying216 h
 rw [show Tryz.prog.cellsOf 216=3 by kernel_rfl] at hl
 obtain ⟨a,b,c,rfl⟩:=list3 hl
 simp only [show Tryz.prog.cellsOf 3=1 by kernel_rfl,show Tryz.prog.cellsOf 9=1 by kernel_rfl,List.drop,List.take] at h0 h1 h2
 obtain ⟨k,e0,rfl,_⟩:=DataW.trod_int Tryz.underlying3 h0
 obtain ⟨v,e1,rfl,_⟩:=DataW.trod_int Tryz.underlying3 h1
 obtain ⟨s,e2,rfl,_⟩:=DataW.trod_string Tryz.underlying9 h2
 simp at e0 e1 e2
 subst e0 e1 e2
 refine ⟨⟨k,v,s⟩,rfl,?_⟩
 have:=bulk_lit_string (H:=H) s
 simp only [Rows.uptoBulkAll,Rows.uptoBulk] at this ⊢
 omega
theorem open_nds {fuel:Nat} {cs:List Value} {x:DataW H × List MemPlace} (h:DataW.trod enc Tryz.prog w base spare held fuel 45 cs=some x) :
  ∃ (v:Value) (ns:List Nd),cs=[v]∧NdsAt w v ns∧(∀ d ∈ ns,d.name.size≤Rows.uptoBulk x.1)∧ns.length+1≤Rows.uptoBulk x.1:=by
 rcases open_slice Tryz.underlying45 h with ⟨rfl,rfl⟩|⟨a,len,cap,m,n,D,Pl,rfl,hb,hl,hm,hmm,rfl,hx⟩
 ·exact ⟨_,[],rfl,⟨none,0,rfl,Nat.le_refl _,fun i hi=>absurd hi (Nat.not_lt_zero _)⟩,(fun _ h=>by cases h),by simp [Rows.uptoBulk]⟩
 have hlm:len≤m:=by rw [hmm];split <;> omega
 rw [show Tryz.prog.cellsOf 216=3 by kernel_rfl] at hx
 have each:∀ i,i<len → ∃ d:Nd,(∃ b o,a=⟨b,o,none⟩∧NdAt w d b (o+i * 3))∧d.name.size≤Rows.uptoBulk (D i):=by
  intro i hi
  obtain ⟨cs',h1,h2⟩:=hx i (by omega)
  obtain ⟨d,rfl,hd⟩:=open_nd h2
  obtain ⟨_,_,hcell⟩:=World.cells?_some h1
  have g0:=hcell 0 (by omega)
  have g1:=hcell 1 (by omega)
  have g2:=hcell 2 (by omega)
  rw [add_add] at g0 g1 g2
  obtain ⟨b,o,sp⟩:=a
  obtain rfl:sp=none:=by
   obtain ⟨_,z1,_⟩:=hx 0 (by omega)
   exact spot_of (a:=⟨b,o,sp⟩) (n:=3) (by omega) (by simpa using z1)
  rw [add_plain] at g0 g1 g2
  exact ⟨d,⟨b,o,rfl,by simpa using g0,by simpa [Nat.add_assoc] using g1,by simpa [Nat.add_assoc] using g2⟩,hd⟩
 haveI:Inhabited Nd:=⟨⟨0,0,.empty⟩⟩
 obtain ⟨f,hf⟩:=choose_lt each
 have hs:=bulks.slice_elems (H:=H) ((List.range len).map D) ((List.range (m - len)).map fun j=>D (len+j))
 have hln:=bulks.slice_le (H:=H) ((List.range len).map D) ((List.range (m - len)).map fun j=>D (len+j))
 refine ⟨_,(List.range len).map f,rfl,⟨some a,cap,by simp,by simpa using hl,fun i hi=>?_⟩,?_,?_⟩
 ·simp at hi
  obtain ⟨b,o,rfl,hd⟩:=(hf i hi).1
  exact ⟨b,o,rfl,by simpa using hi,by simpa using hd⟩
 ·intro d hd
  obtain ⟨i,hi,rfl⟩:=List.mem_map.1 hd
  have hi':=List.mem_range.1 hi
  have:=bulks.part_le (H:=H) (d:=D i) (l:=(List.range len).map D) (List.mem_map.2 ⟨i,hi,rfl⟩)
  have:=(hf i hi').2
  simp only
  omega
 ·simp only [List.length_map,List.length_range] at hln ⊢
  omega
theorem trod_struct4 {P:Program} {t:TypeId} {f0 f1 f2 f3:Field} {fuel:Nat} {cs:List Value} {x:DataW H × List MemPlace} (ht:P.underlying t=some (.struct #[f0,f1,f2,f3])) (h:DataW.trod enc P w base spare held fuel t cs=some x) :
  ∃ y0 y1 y2 y3 n,x.1=.agg [y0.1,y1.1,y2.1,y3.1]∧cs.length=P.cellsOf t∧DataW.trod enc P w base spare held n f0.type ((cs.drop f0.offset).take (P.cellsOf f0.type))=some y0 ∧
   DataW.trod enc P w base spare held n f1.type ((cs.drop f1.offset).take (P.cellsOf f1.type))=some y1∧DataW.trod enc P w base spare held n f2.type ((cs.drop f2.offset).take (P.cellsOf f2.type))=some y2 ∧
   DataW.trod enc P w base spare held n f3.type ((cs.drop f3.offset).take (P.cellsOf f3.type))=some y3:=by
 obtain ⟨xs,n,_,rfl,hl,hlen,hf⟩:=DataW.trod_struct ht h
 match xs,hlen with
 | [y0,y1,y2,y3],_=>exact ⟨y0,y1,y2,y3,n,by simp,hl,by simpa using hf 0 f0 rfl,by simpa using hf 1 f1 rfl,by simpa using hf 2 f2 rfl,by simpa using hf 3 f3 rfl⟩
theorem list4 {cs:List Value} (h:cs.length=4):∃ a b c d,cs=[a,b,c,d]:=by
 match cs,h with
 | [a,b,c,d],_=>exact ⟨a,b,c,d,rfl⟩
theorem open_term {fuel:Nat} {cs:List Value} {x:DataW H × List MemPlace} (h:DataW.trod enc Tryz.prog w base spare held fuel 47 cs=some x) :
  ∃ (v:Value) (ns:List Nd),cs=[v]∧NdsAt w v ns∧(∀ d ∈ ns,d.name.size+1≤Rows.uptoBulk x.1)∧ns.length+2≤Rows.uptoBulk x.1:=by
 obtain ⟨y0,n,rfl,hl,h0⟩:=trod_struct1 Tryz.underlying47 h
 rw [show Tryz.prog.cellsOf 47=1 by kernel_rfl] at hl
 ·simp only [show Tryz.prog.cellsOf 45=1 by kernel_rfl,List.drop] at h0
  obtain ⟨v,ns,e,hn,hs,hk⟩:=open_nds h0
  have e':cs=[v]:=by rw [← e,List.take_of_length_le (by omega)]
  subst e'
  refine ⟨v,ns,rfl,hn,fun d hd=>?_,?_⟩
  ·have:=hs d hd
   simp only [Rows.uptoBulkAll,Rows.uptoBulk]
   omega
  ·simp only [Rows.uptoBulkAll,Rows.uptoBulk]
   omega
theorem open_en {fuel:Nat} {cs:List Value} {x:DataW H × List MemPlace} (h:DataW.trod enc Tryz.prog w base spare held fuel 49 cs=some x) :
  ∃ (v:Value) (d:En),cs=[.int .i64 d.kind,.string d.name,.string d.to,v]∧NdsAt w v d.body∧d.name.size≤Rows.uptoBulk x.1∧d.to.size≤Rows.uptoBulk x.1∧(∀ y ∈ d.body,y.name.size≤Rows.uptoBulk x.1) ∧
   d.body.length≤Rows.uptoBulk x.1:=by
 obtain ⟨y0,y1,y2,y3,n,hx,hl,h0,h1,h2,h3⟩:=trod_struct4 Tryz.underlying49 h
 rw [hx]
 rw [show Tryz.prog.cellsOf 49=4 by kernel_rfl] at hl
 obtain ⟨a,b,c,v0,rfl⟩:=list4 hl
 ·simp only [show Tryz.prog.cellsOf 3=1 by kernel_rfl,show Tryz.prog.cellsOf 9=1 by kernel_rfl,show Tryz.prog.cellsOf 47=1 by kernel_rfl,List.drop,List.take] at h0 h1 h2 h3
  obtain ⟨k,e1,q1,_⟩:=DataW.trod_int Tryz.underlying3 h0
  obtain ⟨s,e0,q0,_⟩:=DataW.trod_string Tryz.underlying9 h1
  obtain ⟨o,e2,q2,_⟩:=DataW.trod_string Tryz.underlying9 h2
  obtain ⟨v,ns,e3,hn,hs,hk⟩:=open_term h3
  simp at e0 e1 e2 e3
  subst e0 e1 e2 e3
  subst q0 q2
  have i1:=bulk_lit_string (H:=H) s
  have i2:=bulk_lit_string (H:=H) o
  refine ⟨v0,⟨k,s,o,ns⟩,rfl,hn,?_,?_,fun d hd=>?_,?_⟩
  ·simp only [Rows.uptoBulkAll,Rows.uptoBulk] at i1 i2 ⊢
   omega
  ·simp only [Rows.uptoBulkAll,Rows.uptoBulk] at i1 i2 ⊢
   omega
  ·have:=hs d hd
   simp only [Rows.uptoBulkAll,Rows.uptoBulk] at this ⊢
   omega
  ·simp only [Rows.uptoBulkAll,Rows.uptoBulk] at hk ⊢
   omega
end
end Go.Proofs.YtldhpaflmnlcaaaGreatDoor
