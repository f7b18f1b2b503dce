/-
  FOR A PROOF OF AN '..UptoSaid': WHAT THE BOUND GIVES. Copy it as <Name>Bulk.lean (put your seat's Name for YtbljmfcifljkaaaGreatDoor, the bound of 'uptoSmall' for 1048576), name it in GOCLAIM.json's 'order' behind <Name>Rows. By an AI agent, Sun Nov 15 2026. No person has read it. No macro, syntax, notation, axiom, sorry.
-/
import Derived.Test.YtbljmfcifljkaaaGreatDoorRows
import Derived.Test.YtbljmfcifljkaaaGreatDoorUA
import Derived.Test.YtbljmfcifljkaaaGreatDoorProg
import Derived.Deep.Slices
import Derived.Deep.Strs
import Derived.OpenShut
import Derived.KernelRfl
import Derived.Test.YtbljmfcifljkaaaGreatDoorUSA
import Derived.Test.YtbljmfcifljkaaaGreatDoorUZ
import Derived.Test.YtbljmfcifljkaaaGreatDoorUFL
import Derived.Stop.LaidErr
import Derived.Lib.LaidTab
import Derived.ChangeVars
import Derived.ChangeOld
import Derived.WalkKit
import Derived.ProofKit
import Derived.Lib.LaidIn
set_option linter.all false
set_option maxRecDepth 100000
set_option maxHeartbeats 8000000
namespace Go.Proofs.YtbljmfcifljkaaaGreatDoor.bulks
theorem one_le {H:Type} (d:DataW H):1≤Rows.uptoBulk d:=by
 cases d with
 | lit l=>cases l <;> simp [Rows.uptoBulk]
 | nil=>simp [Rows.uptoBulk]
 | ptr d=>simp [Rows.uptoBulk]
 | slice elems spare=>simp [Rows.uptoBulk]
 | agg parts=>simp [Rows.uptoBulk]
 | iface t d=>simp [Rows.uptoBulk]
 | map entries=>simp [Rows.uptoBulk]
 | held h=>simp [Rows.uptoBulk]
theorem part_le {H:Type} {d:DataW H} {l:List (DataW H)} (h:d ∈ l):Rows.uptoBulk d≤Rows.uptoBulkAll l:=by
 induction l with
 | nil=>cases h
 | cons x r ih =>
  simp only [Rows.uptoBulkAll]
  cases List.mem_cons.1 h with
  | inl e=>subst e;omega
  | inr e=>have:=ih e;omega
theorem append {H:Type} (l r:List (DataW H)):Rows.uptoBulkAll (l ++ r)=Rows.uptoBulkAll l+Rows.uptoBulkAll r:=by
 induction l with
 | nil=>simp [Rows.uptoBulkAll]
 | cons x l ih=>simp only [List.cons_append,Rows.uptoBulkAll,ih];omega
theorem length_le {H:Type} (l:List (DataW H)):l.length≤Rows.uptoBulkAll l:=by
 induction l with
 | nil=>simp [Rows.uptoBulkAll]
 | cons x r ih=>have:=one_le x;simp only [Rows.uptoBulkAll,List.length_cons];omega
theorem slice_le {H:Type} (elems spare:List (DataW H)):elems.length+spare.length+1≤Rows.uptoBulk (.slice elems spare):=by
 have h1:=length_le elems
 have h2:=length_le spare
 simp only [Rows.uptoBulk]
 omega
theorem slice_elems {H:Type} (elems spare:List (DataW H)):Rows.uptoBulkAll elems+1≤Rows.uptoBulk (.slice elems spare):=by
 simp only [Rows.uptoBulk]
 omega
theorem bound {H:Type} {l:List (DataW H)} (hk:Rows.uptoSmall H l=true):Rows.uptoBulkAll l≤1048576:=by
 simpa [Rows.uptoSmall] using hk
theorem room {n b:Nat} (hn:n≤2097152) (hb:b≤4096):(n+n / 4+192) * b≤281474976710656:=by
 have h:(n+n / 4+192) * b≤2621632 * 4096:=Nat.mul_le_mul (by omega) hb
 omega
end Go.Proofs.YtbljmfcifljkaaaGreatDoor.bulks
/-
  The drawn arguments, opened: nodes, terms, definitions, entries. Own work.
-/
namespace Go.Proofs.YtbljmfcifljkaaaGreatDoor
open Go.ChangeShapes Go.WideShapes Go.Deep
section
variable {H:Type} {enc:TypeId × Value → H} {w:World} {base:Nat} {spare:Nat → Bool} {held:Bool}
theorem spot_of {w:World} {base n:Nat} {a:Addr} {cs:List Value} (hn:0<n) (h:w.cells? base (a.add 0) n=some cs):a.spot=none:=by
 obtain ⟨_,hlen,hcell⟩:=World.cells?_some h
 have g0:=hcell 0 hn
 rw [add_add,List.getElem?_eq_getElem (by omega)] at g0
 simpa [Addr.add] using World.cell?_spot g0
theorem bulk_lit_string (s:ByteArray):Rows.uptoBulk (DataW.lit (H:=H) (.string s.data.toList))=s.size+1:=by
 simp only [Rows.uptoBulk,Array.length_toList]
 rfl
theorem trod_struct4 {P:Program} {t:TypeId} {f0 f1 f2 f3:Field} {fuel:Nat} {cs:List Value} {x:DataW H × List MemPlace} (ht:P.underlying t=some (.struct #[f0,f1,f2,f3])) (h:DataW.trod enc P w base spare held fuel t cs=some x) :
  ∃ y0 y1 y2 y3 n,x.1=.agg [y0.1,y1.1,y2.1,y3.1]∧cs.length=P.cellsOf t∧DataW.trod enc P w base spare held n f0.type ((cs.drop f0.offset).take (P.cellsOf f0.type))=some y0 ∧
   DataW.trod enc P w base spare held n f1.type ((cs.drop f1.offset).take (P.cellsOf f1.type))=some y1∧DataW.trod enc P w base spare held n f2.type ((cs.drop f2.offset).take (P.cellsOf f2.type))=some y2 ∧
   DataW.trod enc P w base spare held n f3.type ((cs.drop f3.offset).take (P.cellsOf f3.type))=some y3:=by
 obtain ⟨xs,n,_,rfl,hl,hlen,hf⟩:=DataW.trod_struct ht h
 match xs,hlen with
 | [y0,y1,y2,y3],_=>exact ⟨y0,y1,y2,y3,n,by simp,hl,by simpa using hf 0 f0 rfl,by simpa using hf 1 f1 rfl,by simpa using hf 2 f2 rfl,by simpa using hf 3 f3 rfl⟩
theorem list4 {cs:List Value} (h:cs.length=4):∃ a b c d,cs=[a,b,c,d]:=by
 match cs,h with
 | [a,b,c,d],_=>exact ⟨a,b,c,d,rfl⟩
end
end Go.Proofs.YtbljmfcifljkaaaGreatDoor
/-
  A drawn session, opened: edges, graphs, sessions. Own work.
-/
namespace Go.Proofs.YtbljmfcifljkaaaGreatDoor
open Go.ChangeShapes Go.WideShapes Go.Deep
section
variable {H:Type} {enc:TypeId × Value → H} {w:World} {base:Nat} {spare:Nat → Bool} {held:Bool}
theorem open_list {β:Type} [Inhabited β] {t e sz:Nat} (hu:Tryz.prog.underlying t=some (.slice e)) (hsz:Tryz.prog.cellsOf e=sz) (h0:0<sz) (Rel:β → Nat → Nat → Prop) (Pr:β → Nat → Prop)
  (each:∀ {fuel:Nat} {cs:List Value} {x:DataW H × List MemPlace},DataW.trod enc Tryz.prog w base spare held fuel e cs=some x → ∃ d:β,(∀ b o,(∀ j,j<sz → w.cell? ⟨b,o+j,none⟩=cs[j]?) → Rel d b o)∧Pr d (Rows.uptoBulk x.1))
  {fuel:Nat} {cs:List Value} {x:DataW H × List MemPlace} (h:DataW.trod enc Tryz.prog w base spare held fuel t cs=some x) :
  ∃ (v:Value) (L:List β),cs=[v]∧(SlAt sz v L.length fun i b o=>∃ h:i<L.length,Rel L[i] b o)∧(∀ d ∈ L,∃ n,n≤Rows.uptoBulk x.1∧Pr d n)∧L.length+1≤Rows.uptoBulk x.1:=by
 rcases open_slice hu h with ⟨rfl,rfl⟩|⟨a,len,cap,m,n,D,Pl,rfl,hb,hl,hm,hmm,rfl,hx⟩
 ·exact ⟨_,[],rfl,⟨none,0,rfl,Nat.le_refl _,fun i hi=>absurd hi (Nat.not_lt_zero _)⟩,(fun _ h=>by cases h),by simp [Rows.uptoBulk]⟩
 have hlm:len≤m:=by rw [hmm];split <;> omega
 rw [hsz] at hx
 have each':∀ i,i<len → ∃ d:β,(∃ b o,a=⟨b,o,none⟩∧Rel d b (o+i * sz))∧Pr d (Rows.uptoBulk (D i)):=by
  intro i hi
  obtain ⟨cs',h1,h2⟩:=hx i (by omega)
  obtain ⟨d,hd,hp⟩:=each h2
  obtain ⟨_,hlen,hcell⟩:=World.cells?_some h1
  obtain ⟨b,o,sp⟩:=a
  obtain rfl:sp=none:=by
   obtain ⟨_,z1,_⟩:=hx 0 (by omega)
   exact spot_of (a:=⟨b,o,sp⟩) (n:=sz) h0 (by simpa using z1)
  refine ⟨d,⟨b,o,rfl,hd b (o+i * sz) fun j hj=>?_⟩,hp⟩
  have g:=hcell j hj
  rw [add_add,add_plain] at g
  rw [Nat.add_assoc]
  exact g
 obtain ⟨f,hf⟩:=choose_lt each'
 have hs:=bulks.slice_elems (H:=H) ((List.range len).map D) ((List.range (m - len)).map fun j=>D (len+j))
 have hln:=bulks.slice_le (H:=H) ((List.range len).map D) ((List.range (m - len)).map fun j=>D (len+j))
 refine ⟨_,(List.range len).map f,rfl,⟨some a,cap,by simp,by simpa using hl,fun i hi=>?_⟩,?_,?_⟩
 ·simp at hi
  obtain ⟨b,o,rfl,hd⟩:=(hf i hi).1
  exact ⟨b,o,rfl,by simpa using hi,by simpa using hd⟩
 ·intro d hd
  obtain ⟨i,hi,rfl⟩:=List.mem_map.1 hd
  have hi':=List.mem_range.1 hi
  have:=bulks.part_le (H:=H) (d:=D i) (l:=(List.range len).map D) (List.mem_map.2 ⟨i,hi,rfl⟩)
  exact ⟨_,by simp only;omega,(hf i hi').2⟩
 ·simp only [List.length_map,List.length_range] at hln ⊢
  omega
theorem open_ints {fuel:Nat} {cs:List Value} {x:DataW H × List MemPlace} (h:DataW.trod enc Tryz.prog w base spare held fuel 40 cs=some x) :
  ∃ (v:Value) (L:List Int),cs=[v]∧IntsAt w v L∧L.length+1≤Rows.uptoBulk x.1:=by
 obtain ⟨v,L,e,h1,-,h3⟩:=open_list (β:=Int) Tryz.underlying40 (show Tryz.prog.cellsOf 3=1 by kernel_rfl) (by omega) (fun d b o=>w.cell? ⟨b,o,none⟩=some (.int .i64 d)) (fun _ _=>True)
  (fun {fuel cs x} h=>by
   obtain ⟨k,e0,-,-⟩:=DataW.trod_int Tryz.underlying3 h
   exact ⟨k,fun b o hc=>by have:=hc 0 (by omega);rw [e0] at this;simpa using this,trivial⟩) h
 exact ⟨v,L,e,h1,h3⟩
structure EdN (n:Nat) (e:EdI):Prop where
 inn:e.ins.length≤n
 out:e.outs.length≤n
structure GrN (n:Nat) (g:GrI):Prop where
 ed:g.edges.length≤n
 eds:∀ e ∈ g.edges,EdN n e
 inn:g.ins.length≤n
 out:g.outs.length≤n
theorem EdN.mono {n m:Nat} {e:EdI} (h:EdN n e) (hm:n≤m):EdN m e:=⟨Nat.le_trans h.1 hm,Nat.le_trans h.2 hm⟩
theorem GrN.mono {n m:Nat} {g:GrI} (h:GrN n g) (hm:n≤m):GrN m g:=⟨Nat.le_trans h.1 hm,fun e he=>(h.2 e he).mono hm,Nat.le_trans h.3 hm,Nat.le_trans h.4 hm⟩
theorem GrN.ok {n:Nat} {g:GrI} (h:GrN n g) (hn:n≤1048576):GrOk g:=⟨Nat.le_trans h.1 hn,fun e he=>⟨Nat.le_trans (h.2 e he).1 hn,Nat.le_trans (h.2 e he).2 hn⟩,Nat.le_trans h.3 hn,Nat.le_trans h.4 hn⟩
instance:Inhabited EdI:=⟨⟨0,0,[],[]⟩⟩
instance:Inhabited GrI:=⟨⟨0,[],[],[]⟩⟩
theorem open_edge {fuel:Nat} {cs:List Value} {x:DataW H × List MemPlace} (h:DataW.trod enc Tryz.prog w base spare held fuel 187 cs=some x) :
  ∃ (d:EdI) (vi vo:Value),cs=[.int .i64 d.kind,.int .i64 d.value,vi,vo]∧IntsAt w vi d.ins∧IntsAt w vo d.outs∧EdN (Rows.uptoBulk x.1) d:=by
 obtain ⟨y0,y1,y2,y3,n,hx,hl,h0,h1,h2,h3⟩:=trod_struct4 Tryz.underlying187 h
 rw [hx]
 rw [show Tryz.prog.cellsOf 187=4 by kernel_rfl] at hl
 obtain ⟨a,b,c,v0,rfl⟩:=list4 hl
 simp only [show Tryz.prog.cellsOf 3=1 by kernel_rfl,show Tryz.prog.cellsOf 40=1 by kernel_rfl,List.drop,List.take] at h0 h1 h2 h3
 obtain ⟨k,e0,q0,_⟩:=DataW.trod_int Tryz.underlying3 h0
 obtain ⟨o,e1,q1,_⟩:=DataW.trod_int Tryz.underlying3 h1
 obtain ⟨v2,l2,e2,i2,n2⟩:=open_ints h2
 obtain ⟨v3,l3,e3,i3,n3⟩:=open_ints h3
 simp at e0 e1 e2 e3
 subst e0 e1 e2 e3
 refine ⟨⟨k,o,l2,l3⟩,_,_,rfl,i2,i3,?_,?_⟩
 all_goals
  simp only [Rows.uptoBulkAll,Rows.uptoBulk] at n2 n3 ⊢
  omega
theorem open_edges {fuel:Nat} {cs:List Value} {x:DataW H × List MemPlace} (h:DataW.trod enc Tryz.prog w base spare held fuel 39 cs=some x) :
  ∃ (v:Value) (L:List EdI),cs=[v]∧EdsAt w v L∧(∀ d ∈ L,EdN (Rows.uptoBulk x.1) d)∧L.length+1≤Rows.uptoBulk x.1:=by
 obtain ⟨v,L,e,h1,h2,h3⟩:=open_list (β:=EdI) Tryz.underlying39 (show Tryz.prog.cellsOf 187=4 by kernel_rfl) (by omega) (fun d b o=>EdAt w d b o) (fun d n=>EdN n d)
  (fun {fuel cs x} h=>by
   obtain ⟨d,vi,vo,e0,i1,i2,i3⟩:=open_edge h
   refine ⟨d,fun b o hc=>?_,i3⟩
   have g0:=hc 0 (by omega)
   have g1:=hc 1 (by omega)
   have g2:=hc 2 (by omega)
   have g3:=hc 3 (by omega)
   rw [e0] at g0 g1 g2 g3
   exact ⟨by simpa using g0,by simpa using g1,vi,vo,by simpa using g2,by simpa using g3,i1,i2⟩) h
 exact ⟨v,L,e,h1,fun d hd=>by obtain ⟨n,hn,hp⟩:=h2 d hd;exact hp.mono hn,h3⟩
theorem open_graph {fuel:Nat} {cs:List Value} {x:DataW H × List MemPlace} (h:DataW.trod enc Tryz.prog w base spare held fuel 42 cs=some x) :
  ∃ (g:GrI) (ve vi vo:Value),cs=[.int .i64 g.wires,ve,vi,vo]∧GrR w ve vi vo g∧GrN (Rows.uptoBulk x.1) g:=by
 obtain ⟨y0,y1,y2,y3,n,hx,hl,h0,h1,h2,h3⟩:=trod_struct4 Tryz.underlying42 h
 rw [hx]
 rw [show Tryz.prog.cellsOf 42=4 by kernel_rfl] at hl
 obtain ⟨a,b,c,v0,rfl⟩:=list4 hl
 simp only [show Tryz.prog.cellsOf 3=1 by kernel_rfl,show Tryz.prog.cellsOf 40=1 by kernel_rfl,show Tryz.prog.cellsOf 39=1 by kernel_rfl,List.drop,List.take] at h0 h1 h2 h3
 obtain ⟨k,e0,q0,_⟩:=DataW.trod_int Tryz.underlying3 h0
 obtain ⟨v1,l1,e1,i1,m1,n1⟩:=open_edges h1
 obtain ⟨v2,l2,e2,i2,n2⟩:=open_ints h2
 obtain ⟨v3,l3,e3,i3,n3⟩:=open_ints h3
 simp at e0 e1 e2 e3
 subst e0 e1 e2 e3
 refine ⟨⟨k,l1,l2,l3⟩,_,_,_,rfl,⟨i1,i2,i3⟩,?_,fun e he=>(m1 e he).mono ?_,?_,?_⟩
 all_goals
  simp only [Rows.uptoBulkAll,Rows.uptoBulk] at n1 n2 n3 ⊢
  omega
theorem open_graphs {fuel:Nat} {cs:List Value} {x:DataW H × List MemPlace} (h:DataW.trod enc Tryz.prog w base spare held fuel 38 cs=some x) :
  ∃ (v:Value) (L:List GrI),cs=[v]∧GrsAt w v L∧(∀ d ∈ L,GrN (Rows.uptoBulk x.1) d)∧L.length+1≤Rows.uptoBulk x.1:=by
 obtain ⟨v,L,e,h1,h2,h3⟩:=open_list (β:=GrI) Tryz.underlying38 (show Tryz.prog.cellsOf 42=4 by kernel_rfl) (by omega) (fun d b o=>GrAt w d b o) (fun d n=>GrN n d)
  (fun {fuel cs x} h=>by
   obtain ⟨d,ve,vi,vo,e0,i1,i3⟩:=open_graph h
   refine ⟨d,fun b o hc=>?_,i3⟩
   have g0:=hc 0 (by omega)
   have g1:=hc 1 (by omega)
   have g2:=hc 2 (by omega)
   have g3:=hc 3 (by omega)
   rw [e0] at g0 g1 g2 g3
   exact ⟨by simpa using g0,ve,vi,vo,by simpa using g1,by simpa using g2,by simpa using g3,i1⟩) h
 exact ⟨v,L,e,h1,fun d hd=>by obtain ⟨n,hn,hp⟩:=h2 d hd;exact hp.mono hn,h3⟩
theorem list13 {cs:List Value} (h:cs.length=13):∃ a b c d e f g i j k l m n,cs=[a,b,c,d,e,f,g,i,j,k,l,m,n]:=by
 match cs,h with
 | [a,b,c,d,e,f,g,i,j,k,l,m,n],_=>exact ⟨a,b,c,d,e,f,g,i,j,k,l,m,n,rfl⟩
theorem trod_struct7 {P:Program} {t:TypeId} {f0 f1 f2 f3 f4 f5 f6:Field} {fuel:Nat} {cs:List Value} {x:DataW H × List MemPlace} (ht:P.underlying t=some (.struct #[f0,f1,f2,f3,f4,f5,f6])) (h:DataW.trod enc P w base spare held fuel t cs=some x) :
  ∃ y0 y1 y2 y3 y4 y5 y6 n,x.1=.agg [y0.1,y1.1,y2.1,y3.1,y4.1,y5.1,y6.1]∧cs.length=P.cellsOf t∧DataW.trod enc P w base spare held n f0.type ((cs.drop f0.offset).take (P.cellsOf f0.type))=some y0 ∧
   DataW.trod enc P w base spare held n f1.type ((cs.drop f1.offset).take (P.cellsOf f1.type))=some y1∧DataW.trod enc P w base spare held n f2.type ((cs.drop f2.offset).take (P.cellsOf f2.type))=some y2 ∧
   DataW.trod enc P w base spare held n f3.type ((cs.drop f3.offset).take (P.cellsOf f3.type))=some y3∧DataW.trod enc P w base spare held n f4.type ((cs.drop f4.offset).take (P.cellsOf f4.type))=some y4 ∧
   DataW.trod enc P w base spare held n f5.type ((cs.drop f5.offset).take (P.cellsOf f5.type))=some y5∧DataW.trod enc P w base spare held n f6.type ((cs.drop f6.offset).take (P.cellsOf f6.type))=some y6:=by
 obtain ⟨xs,n,_,rfl,hl,hlen,hf⟩:=DataW.trod_struct ht h
 match xs,hlen with
 | [y0,y1,y2,y3,y4,y5,y6],_=>exact ⟨y0,y1,y2,y3,y4,y5,y6,n,by simp,hl,by simpa using hf 0 f0 rfl,by simpa using hf 1 f1 rfl,by simpa using hf 2 f2 rfl,by simpa using hf 3 f3 rfl,by simpa using hf 4 f4 rfl,by simpa using hf 5 f5 rfl,by simpa using hf 6 f6 rfl⟩
theorem open_session {fuel:Nat} {cs:List Value} {x:DataW H × List MemPlace} (h:DataW.trod enc Tryz.prog w base spare held fuel 44 cs=some x) (hx:Rows.uptoBulk x.1≤1048576) :
  ∃ (s:SnI) (vp ne ni no vf ge gi go:Value),snV s vp ne ni no vf ge gi go=.agg cs.toArray∧SnR w vp ne ni no vf ge gi go s∧SnOk s:=by
 obtain ⟨y0,y1,y2,y3,y4,y5,y6,n,hx',hl,h0,h1,h2,h3,h4,h5,h6⟩:=trod_struct7 Tryz.underlying44 h
 rw [hx'] at hx
 rw [show Tryz.prog.cellsOf 44=13 by kernel_rfl] at hl
 obtain ⟨c0,c1,c2,c3,c4,c5,c6,c7,c8,c9,c10,c11,c12,rfl⟩:=list13 hl
 simp only [show Tryz.prog.cellsOf 3=1 by kernel_rfl,show Tryz.prog.cellsOf 38=1 by kernel_rfl,show Tryz.prog.cellsOf 42=4 by kernel_rfl,List.drop,List.take] at h0 h1 h2 h3 h4 h5 h6
 obtain ⟨p,e0,q0,_⟩:=DataW.trod_int Tryz.underlying3 h0
 obtain ⟨k,e1,q1,_⟩:=DataW.trod_int Tryz.underlying3 h1
 obtain ⟨l,e2,q2,_⟩:=DataW.trod_int Tryz.underlying3 h2
 obtain ⟨v3,l3,e3,i3,m3,n3⟩:=open_graphs h3
 obtain ⟨g4,a4,b4,d4,e4,i4,n4⟩:=open_graph h4
 obtain ⟨v5,l5,e5,i5,m5,n5⟩:=open_graphs h5
 obtain ⟨g6,a6,b6,d6,e6,i6,n6⟩:=open_graph h6
 simp only [List.cons.injEq,and_true] at e0 e1 e2 e3 e4 e5 e6
 obtain ⟨e40,e41,e42,e43⟩:=e4
 obtain ⟨e60,e61,e62,e63⟩:=e6
 subst e0 e1 e2 e3 e40 e41 e42 e43 e5 e60 e61 e62 e63
 simp only [Rows.uptoBulkAll,Rows.uptoBulk] at hx
 exact ⟨⟨p,k,l,l3,g4,l5,g6⟩,_,_,_,_,_,_,_,_,rfl,⟨i3,i4,i5,i6⟩,⟨by show l3.length≤_;omega,fun g hg=>(m3 g hg).ok (by omega),n4.ok (by omega),by show l5.length≤_;omega,fun g hg=>(m5 g hg).ok (by omega),n6.ok (by omega)⟩⟩
end
end Go.Proofs.YtbljmfcifljkaaaGreatDoor
/-
  A law's row that names a table variable: what it reads as before and behind the call; the table of the smallest primes. Own work.
-/
namespace Go.Proofs.YtbljmfcifljkaaaGreatDoor
open Go.ChangeShapes Go.WideShapes Go.ChangeAt Go.RowKit
theorem varKeep {W W':World} {n:String} {cs:Array Value} (hb:Below W.heap.size W W') (h:W.var? Tryz.prog n=some cs):W'.var? Tryz.prog n=some cs:=by
 unfold World.var? at h ⊢
 cases hg:Tryz.prog.globalNamed n with
 | none=>simp [hg] at h
 | some g =>
  simp only [hg,Option.bind_some] at h ⊢
  have hlt:g<W.heap.size:=by
   rcases Nat.lt_or_ge g W.heap.size with h'|h'
   ·exact h'
   ·simp [Array.getElem?_eq_none h'] at h
  rw [hb.block g hlt]
  exact h
theorem gPrm : Tryz.prog.globalNamed "loop.example/g01073/impl.smallPrimes" = some 0 := by kernel_rfl
theorem gPrmType:(Tryz.prog.globals[0]?).map (·.type)=some 217:=by kernel_rfl
theorem cellsPrm:Tryz.prog.cellsOf 217=4:=by kernel_rfl
theorem cellsInt:Tryz.prog.cellsOf 3=1:=by kernel_rfl
theorem typesPrm:217<Tryz.prog.types.size:=of_decide_eq_true (by kernel_rfl)
theorem varsKeep {H : Type} {enc : TypeId × Value → H} {W W' : World} {gs : List (DataW H)} {q : List MemPlace} (hV : DataW.TrodVars enc Tryz.prog W (fun _ => true) ["loop.example/g01073/impl.smallPrimes"] gs q) (hb : Below W.heap.size W W') (sp : Nat → Bool) (hs : ∀ p ∈ q, sp p.block = true) :
  DataW.TrodVars enc Tryz.prog W' sp ["loop.example/g01073/impl.smallPrimes"] gs q := by
 have hlt:=hV.lt
 obtain ⟨g,t,cs,fuel,d,p,rfl,h1,h2,h3,h4,rfl⟩:=trodVars_one hV
 obtain rfl:=Option.some.inj (gPrm.symm.trans h1)
 obtain rfl:=Option.some.inj (gPrmType.symm.trans h2)
 exact trodVars_mk1 h1 h2 (varKeep hb h3) (DataW.trod_respare kids full fuel _ _ (d,p) typesPrm (DataW.trod_carry fuel _ _ (d,p) h4 (fun x hx=>sameAt_of_below hb (hlt x (List.mem_append_right _ hx)))) (fun x hx=>hs x (List.mem_append_right _ hx)))
theorem primeTab_of {W : World} {rest : List (String × DataW Unit)} (h : laidMet Tryz.prog (("loop.example/g01073/impl.smallPrimes", Lib.tabData .i64 [2, 3, 5, 7]) :: rest) W) : PrimeTab W := by
 have hT:=Lib.tabIs_of_head gPrm gPrmType Tryz.underlying217 Tryz.underlying3 cellsInt cellsPrm h
 unfold Lib.TabIs at hT
 refine ⟨?_,?_,?_,?_⟩
 ·simpa using World.var?_cell gPrm hT 0
 ·simpa using World.var?_cell gPrm hT 1
 ·simpa using World.var?_cell gPrm hT 2
 ·simpa using World.var?_cell gPrm hT 3
end Go.Proofs.YtbljmfcifljkaaaGreatDoor
/-
  A world for AxiomsOf's witness: as LaidW's, with the table of the smallest primes laid too. Own work.
-/
namespace Go.Proofs.YtbljmfcifljkaaaGreatDoor
open Go.ChangeShapes Go.WideShapes Go.ChangeAt Go.RowKit
def tab32:List Int:=[0,1,28,2,29,14,24,3,30,22,20,15,25,17,4,8,31,27,13,23,21,19,16,7,26,12,18,6,11,5,10,9]
def tab64:List Int:=[0,1,56,2,57,49,28,3,61,58,42,50,38,29,17,4,62,47,59,36,45,43,51,22,53,39,33,30,24,18,12,5,63,55,48,27,60,41,37,16,46,35,44,21,52,32,23,11,54,26,40,15,34,20,31,10,25,14,19,9,13,8,7,6]
def tabPow:List Int:=[1,10,100,1000,10000,100000,1000000,10000000,100000000,1000000000,10000000000,100000000000,1000000000000,10000000000000,100000000000000,1000000000000000,10000000000000000,100000000000000000,1000000000000000000,10000000000000000000]
def txtRange:ByteArray:=⟨#[118,97,108,117,101,32,111,117,116,32,111,102,32,114,97,110,103,101]⟩
def txtSyntax:ByteArray:=⟨#[105,110,118,97,108,105,100,32,115,121,110,116,97,120]⟩
end Go.Proofs.YtbljmfcifljkaaaGreatDoor
/-
  A world for ParseAct's witness: as LaidA's, with the tables of utf8 laid too. Own work.
-/
namespace Go.Proofs.YtbljmfcifljkaaaGreatDoor
open Go.ChangeShapes Go.WideShapes Go.ChangeAt Go.RowKit
def tabAccept:List Int:=[128,191,160,191,128,159,144,191,128,143,0,0,0,0,0,0,0,0,0,0,0,0,0,0,0,0,0,0,0,0,0,0]
noncomputable def laidWorldB (os:Os):World :=
 let N:=(World.settled Tryz.prog os).heap.size
 let w0:=World.holding Tryz.prog os ⟨#[.cells #[.string txtRange] 390,.cells #[.string txtSyntax] 390],#[],[]⟩
 let put (h:Array Obj) (g:Nat) (cs:Array Value):Array Obj:=h.modify g fun
  | .cells _ t frozen=>.cells cs t frozen
  | o=>o
 let h1:=put w0.heap 7 (tab32.map fun z=>Value.int .u8 z).toArray
 let h2:=put h1 8 (tab64.map fun z=>Value.int .u8 z).toArray
 let h3:=put h2 3 (tabPow.map fun z=>Value.int .u64 z).toArray
 let h4:=put h3 2 #[.iface 388 (.pointer (some ⟨N,0,none⟩))]
 let h5:=put h4 1 #[.iface 388 (.pointer (some ⟨N+1,0,none⟩))]
 let h6:=put h5 0 #[.int .i64 2,.int .i64 3,.int .i64 5,.int .i64 7]
 let h7:=put h6 6 (tabAccept.map fun z=>Value.int .u8 z).toArray
 let h8:=put h7 5 (Go.Pinned.utf8FirstZ.map fun z:Nat=>Value.int .u8 (z:Int)).toArray
 { w0 with heap:=h8 }
theorem laid_metB (os:Os) (args:Array Value):laidMet Tryz.prog Rows.fnExactParseActUptoRow.laid ((laidWorldB os).forCall (fun _ _=>0) ⟨#[],args,[]⟩).memory :=
 laidMet_of_run' 8 (by kernel_rfl) (by kernel_rfl)
end Go.Proofs.YtbljmfcifljkaaaGreatDoor
