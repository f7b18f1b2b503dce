/-
  FOR A PROOF OF AN '..UptoSaid': WHAT THE BOUND GIVES. Copy it as <Name>Bulk.lean (put your seat's Name for YtbljmfcifljkaaaGreatDoor, the bound of 'uptoSmall' for 1048576), name it in GOCLAIM.json's 'order' behind <Name>Rows. By an AI agent, Sun Nov 15 2026. No person has read it. No macro, syntax, notation, axiom, sorry.
-/
import Derived.Test.YtbljmfcifljkaaaGreatDoorRows
import Derived.Test.YtbljmfcifljkaaaGreatDoorXAA
import Derived.Test.YtbljmfcifljkaaaGreatDoorProg
import Derived.Test.YtbljmfcifljkaaaGreatDoorXAJ
import Derived.Test.YtbljmfcifljkaaaGreatDoorXAI
import Derived.Deep.Slices
import Derived.Deep.Strs
import Derived.OpenShut
import Derived.KernelRfl
import Derived.Test.YtbljmfcifljkaaaGreatDoorXAB
set_option linter.all false
set_option maxRecDepth 100000
set_option maxHeartbeats 8000000
namespace Go.Proofs.YtbljmfcifljkaaaGreatDoor.bulks
theorem one_le {H:Type} (d:DataW H):1≤Rows.uptoBulk d:=by
 cases d with
 | lit l=>cases l <;> simp [Rows.uptoBulk]
 | nil=>simp [Rows.uptoBulk]
 | ptr d=>simp [Rows.uptoBulk]
 | slice elems spare=>simp [Rows.uptoBulk]
 | agg parts=>simp [Rows.uptoBulk]
 | iface t d=>simp [Rows.uptoBulk]
 | map entries=>simp [Rows.uptoBulk]
 | held h=>simp [Rows.uptoBulk]
theorem part_le {H:Type} {d:DataW H} {l:List (DataW H)} (h:d ∈ l):Rows.uptoBulk d≤Rows.uptoBulkAll l:=by
 induction l with
 | nil=>cases h
 | cons x r ih =>
  simp only [Rows.uptoBulkAll]
  cases List.mem_cons.1 h with
  | inl e=>subst e;omega
  | inr e=>have:=ih e;omega
theorem append {H:Type} (l r:List (DataW H)):Rows.uptoBulkAll (l ++ r)=Rows.uptoBulkAll l+Rows.uptoBulkAll r:=by
 induction l with
 | nil=>simp [Rows.uptoBulkAll]
 | cons x l ih=>simp only [List.cons_append,Rows.uptoBulkAll,ih];omega
theorem length_le {H:Type} (l:List (DataW H)):l.length≤Rows.uptoBulkAll l:=by
 induction l with
 | nil=>simp [Rows.uptoBulkAll]
 | cons x r ih=>have:=one_le x;simp only [Rows.uptoBulkAll,List.length_cons];omega
theorem slice_le {H:Type} (elems spare:List (DataW H)):elems.length+spare.length+1≤Rows.uptoBulk (.slice elems spare):=by
 have h1:=length_le elems
 have h2:=length_le spare
 simp only [Rows.uptoBulk]
 omega
theorem slice_elems {H:Type} (elems spare:List (DataW H)):Rows.uptoBulkAll elems+1≤Rows.uptoBulk (.slice elems spare):=by
 simp only [Rows.uptoBulk]
 omega
theorem bound {H:Type} {l:List (DataW H)} (hk:Rows.uptoSmall H l=true):Rows.uptoBulkAll l≤1048576:=by
 simpa [Rows.uptoSmall] using hk
end Go.Proofs.YtbljmfcifljkaaaGreatDoor.bulks
/-
  The drawn arguments, opened: nodes, terms, definitions, entries. Own work.
-/
namespace Go.Proofs.YtbljmfcifljkaaaGreatDoor
open Go.ChangeShapes Go.WideShapes Go.Deep
section
variable {H:Type} {enc:TypeId × Value → H} {w:World} {base:Nat} {spare:Nat → Bool} {held:Bool}
theorem spot_of {w:World} {base n:Nat} {a:Addr} {cs:List Value} (hn:0<n) (h:w.cells? base (a.add 0) n=some cs):a.spot=none:=by
 obtain ⟨_,hlen,hcell⟩:=World.cells?_some h
 have g0:=hcell 0 hn
 rw [add_add,List.getElem?_eq_getElem (by omega)] at g0
 simpa [Addr.add] using World.cell?_spot g0
theorem trod_struct4 {P:Program} {t:TypeId} {f0 f1 f2 f3:Field} {fuel:Nat} {cs:List Value} {x:DataW H × List MemPlace} (ht:P.underlying t=some (.struct #[f0,f1,f2,f3])) (h:DataW.trod enc P w base spare held fuel t cs=some x) :
  ∃ y0 y1 y2 y3 n,x.1=.agg [y0.1,y1.1,y2.1,y3.1]∧cs.length=P.cellsOf t∧DataW.trod enc P w base spare held n f0.type ((cs.drop f0.offset).take (P.cellsOf f0.type))=some y0 ∧
   DataW.trod enc P w base spare held n f1.type ((cs.drop f1.offset).take (P.cellsOf f1.type))=some y1∧DataW.trod enc P w base spare held n f2.type ((cs.drop f2.offset).take (P.cellsOf f2.type))=some y2 ∧
   DataW.trod enc P w base spare held n f3.type ((cs.drop f3.offset).take (P.cellsOf f3.type))=some y3:=by
 obtain ⟨xs,n,_,rfl,hl,hlen,hf⟩:=DataW.trod_struct ht h
 match xs,hlen with
 | [y0,y1,y2,y3],_=>exact ⟨y0,y1,y2,y3,n,by simp,hl,by simpa using hf 0 f0 rfl,by simpa using hf 1 f1 rfl,by simpa using hf 2 f2 rfl,by simpa using hf 3 f3 rfl⟩
theorem list4 {cs:List Value} (h:cs.length=4):∃ a b c d,cs=[a,b,c,d]:=by
 match cs,h with
 | [a,b,c,d],_=>exact ⟨a,b,c,d,rfl⟩
end
end Go.Proofs.YtbljmfcifljkaaaGreatDoor
/-
  A drawn session, opened: edges, graphs, sessions. Own work.
-/
namespace Go.Proofs.YtbljmfcifljkaaaGreatDoor
open Go.ChangeShapes Go.WideShapes Go.Deep
section
variable {H:Type} {enc:TypeId × Value → H} {w:World} {base:Nat} {spare:Nat → Bool} {held:Bool}
theorem open_list {β:Type} [Inhabited β] {t e sz:Nat} (hu:Tryz.prog.underlying t=some (.slice e)) (hsz:Tryz.prog.cellsOf e=sz) (h0:0<sz) (Rel:β → Nat → Nat → Prop) (Pr:β → Nat → Prop)
  (each:∀ {fuel:Nat} {cs:List Value} {x:DataW H × List MemPlace},DataW.trod enc Tryz.prog w base spare held fuel e cs=some x → ∃ d:β,(∀ b o,(∀ j,j<sz → w.cell? ⟨b,o+j,none⟩=cs[j]?) → Rel d b o)∧Pr d (Rows.uptoBulk x.1))
  {fuel:Nat} {cs:List Value} {x:DataW H × List MemPlace} (h:DataW.trod enc Tryz.prog w base spare held fuel t cs=some x) :
  ∃ (v:Value) (L:List β),cs=[v]∧(SlAt sz v L.length fun i b o=>∃ h:i<L.length,Rel L[i] b o)∧(∀ d ∈ L,∃ n,n≤Rows.uptoBulk x.1∧Pr d n)∧L.length+1≤Rows.uptoBulk x.1:=by
 rcases open_slice hu h with ⟨rfl,rfl⟩|⟨a,len,cap,m,n,D,Pl,rfl,hb,hl,hm,hmm,rfl,hx⟩
 ·exact ⟨_,[],rfl,⟨none,0,rfl,Nat.le_refl _,fun i hi=>absurd hi (Nat.not_lt_zero _)⟩,(fun _ h=>by cases h),by simp [Rows.uptoBulk]⟩
 have hlm:len≤m:=by rw [hmm];split <;> omega
 rw [hsz] at hx
 have each':∀ i,i<len → ∃ d:β,(∃ b o,a=⟨b,o,none⟩∧Rel d b (o+i * sz))∧Pr d (Rows.uptoBulk (D i)):=by
  intro i hi
  obtain ⟨cs',h1,h2⟩:=hx i (by omega)
  obtain ⟨d,hd,hp⟩:=each h2
  obtain ⟨_,hlen,hcell⟩:=World.cells?_some h1
  obtain ⟨b,o,sp⟩:=a
  obtain rfl:sp=none:=by
   obtain ⟨_,z1,_⟩:=hx 0 (by omega)
   exact spot_of (a:=⟨b,o,sp⟩) (n:=sz) h0 (by simpa using z1)
  refine ⟨d,⟨b,o,rfl,hd b (o+i * sz) fun j hj=>?_⟩,hp⟩
  have g:=hcell j hj
  rw [add_add,add_plain] at g
  rw [Nat.add_assoc]
  exact g
 obtain ⟨f,hf⟩:=choose_lt each'
 have hs:=bulks.slice_elems (H:=H) ((List.range len).map D) ((List.range (m - len)).map fun j=>D (len+j))
 have hln:=bulks.slice_le (H:=H) ((List.range len).map D) ((List.range (m - len)).map fun j=>D (len+j))
 refine ⟨_,(List.range len).map f,rfl,⟨some a,cap,by simp,by simpa using hl,fun i hi=>?_⟩,?_,?_⟩
 ·simp at hi
  obtain ⟨b,o,rfl,hd⟩:=(hf i hi).1
  exact ⟨b,o,rfl,by simpa using hi,by simpa using hd⟩
 ·intro d hd
  obtain ⟨i,hi,rfl⟩:=List.mem_map.1 hd
  have hi':=List.mem_range.1 hi
  have:=bulks.part_le (H:=H) (d:=D i) (l:=(List.range len).map D) (List.mem_map.2 ⟨i,hi,rfl⟩)
  exact ⟨_,by simp only;omega,(hf i hi').2⟩
 ·simp only [List.length_map,List.length_range] at hln ⊢
  omega
theorem open_ints {fuel:Nat} {cs:List Value} {x:DataW H × List MemPlace} (h:DataW.trod enc Tryz.prog w base spare held fuel 40 cs=some x) :
  ∃ (v:Value) (L:List Int),cs=[v]∧IntsAt w v L∧L.length+1≤Rows.uptoBulk x.1:=by
 obtain ⟨v,L,e,h1,-,h3⟩:=open_list (β:=Int) Tryz.underlying40 (show Tryz.prog.cellsOf 3=1 by kernel_rfl) (by omega) (fun d b o=>w.cell? ⟨b,o,none⟩=some (.int .i64 d)) (fun _ _=>True)
  (fun {fuel cs x} h=>by
   obtain ⟨k,e0,-,-⟩:=DataW.trod_int Tryz.underlying3 h
   exact ⟨k,fun b o hc=>by have:=hc 0 (by omega);rw [e0] at this;simpa using this,trivial⟩) h
 exact ⟨v,L,e,h1,h3⟩
structure EdN (n:Nat) (e:EdI):Prop where
 inn:e.ins.length≤n
 out:e.outs.length≤n
structure GrN (n:Nat) (g:GrI):Prop where
 ed:g.edges.length≤n
 eds:∀ e ∈ g.edges,EdN n e
 inn:g.ins.length≤n
 out:g.outs.length≤n
theorem EdN.mono {n m:Nat} {e:EdI} (h:EdN n e) (hm:n≤m):EdN m e:=⟨Nat.le_trans h.1 hm,Nat.le_trans h.2 hm⟩
theorem GrN.mono {n m:Nat} {g:GrI} (h:GrN n g) (hm:n≤m):GrN m g:=⟨Nat.le_trans h.1 hm,fun e he=>(h.2 e he).mono hm,Nat.le_trans h.3 hm,Nat.le_trans h.4 hm⟩
theorem GrN.ok {n:Nat} {g:GrI} (h:GrN n g) (hn:n≤1048576):GrOk g:=⟨Nat.le_trans h.1 hn,fun e he=>⟨Nat.le_trans (h.2 e he).1 hn,Nat.le_trans (h.2 e he).2 hn⟩,Nat.le_trans h.3 hn,Nat.le_trans h.4 hn⟩
instance:Inhabited EdI:=⟨⟨0,0,[],[]⟩⟩
instance:Inhabited GrI:=⟨⟨0,[],[],[]⟩⟩
theorem open_edge {fuel:Nat} {cs:List Value} {x:DataW H × List MemPlace} (h:DataW.trod enc Tryz.prog w base spare held fuel 187 cs=some x) :
  ∃ (d:EdI) (vi vo:Value),cs=[.int .i64 d.kind,.int .i64 d.value,vi,vo]∧IntsAt w vi d.ins∧IntsAt w vo d.outs∧EdN (Rows.uptoBulk x.1) d:=by
 obtain ⟨y0,y1,y2,y3,n,hx,hl,h0,h1,h2,h3⟩:=trod_struct4 Tryz.underlying187 h
 rw [hx]
 rw [show Tryz.prog.cellsOf 187=4 by kernel_rfl] at hl
 obtain ⟨a,b,c,v0,rfl⟩:=list4 hl
 simp only [show Tryz.prog.cellsOf 3=1 by kernel_rfl,show Tryz.prog.cellsOf 40=1 by kernel_rfl,List.drop,List.take] at h0 h1 h2 h3
 obtain ⟨k,e0,q0,_⟩:=DataW.trod_int Tryz.underlying3 h0
 obtain ⟨o,e1,q1,_⟩:=DataW.trod_int Tryz.underlying3 h1
 obtain ⟨v2,l2,e2,i2,n2⟩:=open_ints h2
 obtain ⟨v3,l3,e3,i3,n3⟩:=open_ints h3
 simp at e0 e1 e2 e3
 subst e0 e1 e2 e3
 refine ⟨⟨k,o,l2,l3⟩,_,_,rfl,i2,i3,?_,?_⟩
 all_goals
  simp only [Rows.uptoBulkAll,Rows.uptoBulk] at n2 n3 ⊢
  omega
theorem open_edges {fuel:Nat} {cs:List Value} {x:DataW H × List MemPlace} (h:DataW.trod enc Tryz.prog w base spare held fuel 39 cs=some x) :
  ∃ (v:Value) (L:List EdI),cs=[v]∧EdsAt w v L∧(∀ d ∈ L,EdN (Rows.uptoBulk x.1) d)∧L.length+1≤Rows.uptoBulk x.1:=by
 obtain ⟨v,L,e,h1,h2,h3⟩:=open_list (β:=EdI) Tryz.underlying39 (show Tryz.prog.cellsOf 187=4 by kernel_rfl) (by omega) (fun d b o=>EdAt w d b o) (fun d n=>EdN n d)
  (fun {fuel cs x} h=>by
   obtain ⟨d,vi,vo,e0,i1,i2,i3⟩:=open_edge h
   refine ⟨d,fun b o hc=>?_,i3⟩
   have g0:=hc 0 (by omega)
   have g1:=hc 1 (by omega)
   have g2:=hc 2 (by omega)
   have g3:=hc 3 (by omega)
   rw [e0] at g0 g1 g2 g3
   exact ⟨by simpa using g0,by simpa using g1,vi,vo,by simpa using g2,by simpa using g3,i1,i2⟩) h
 exact ⟨v,L,e,h1,fun d hd=>by obtain ⟨n,hn,hp⟩:=h2 d hd;exact hp.mono hn,h3⟩
theorem open_graph {fuel:Nat} {cs:List Value} {x:DataW H × List MemPlace} (h:DataW.trod enc Tryz.prog w base spare held fuel 42 cs=some x) :
  ∃ (g:GrI) (ve vi vo:Value),cs=[.int .i64 g.wires,ve,vi,vo]∧GrR w ve vi vo g∧GrN (Rows.uptoBulk x.1) g:=by
 obtain ⟨y0,y1,y2,y3,n,hx,hl,h0,h1,h2,h3⟩:=trod_struct4 Tryz.underlying42 h
 rw [hx]
 rw [show Tryz.prog.cellsOf 42=4 by kernel_rfl] at hl
 obtain ⟨a,b,c,v0,rfl⟩:=list4 hl
 simp only [show Tryz.prog.cellsOf 3=1 by kernel_rfl,show Tryz.prog.cellsOf 40=1 by kernel_rfl,show Tryz.prog.cellsOf 39=1 by kernel_rfl,List.drop,List.take] at h0 h1 h2 h3
 obtain ⟨k,e0,q0,_⟩:=DataW.trod_int Tryz.underlying3 h0
 obtain ⟨v1,l1,e1,i1,m1,n1⟩:=open_edges h1
 obtain ⟨v2,l2,e2,i2,n2⟩:=open_ints h2
 obtain ⟨v3,l3,e3,i3,n3⟩:=open_ints h3
 simp at e0 e1 e2 e3
 subst e0 e1 e2 e3
 refine ⟨⟨k,l1,l2,l3⟩,_,_,_,rfl,⟨i1,i2,i3⟩,?_,fun e he=>(m1 e he).mono ?_,?_,?_⟩
 all_goals
  simp only [Rows.uptoBulkAll,Rows.uptoBulk] at n1 n2 n3 ⊢
  omega
end
end Go.Proofs.YtbljmfcifljkaaaGreatDoor
