/-
  Edges, graphs and sessions, plain, and what it means that a world holds them. Own work.
-/
import Derived.Test.YtbljmfcifljkaaaGreatDoorYFL
import Derived.Test.YtbljmfcifljkaaaGreatDoorYF
import Derived.Test.YtbljmfcifljkaaaGreatDoorYC
import Derived.Test.YtbljmfcifljkaaaGreatDoorYB
import Derived.Test.YtbljmfcifljkaaaGreatDoorYA
set_option linter.all false
set_option maxRecDepth 100000
set_option maxHeartbeats 8000000
namespace Go.Proofs.YtbljmfcifljkaaaGreatDoor
open Go.RowKit
structure EdI where
 kind:Int
 value:Int
 ins:List Int
 outs:List Int
 deriving DecidableEq
structure GrI where
 wires:Int
 edges:List EdI
 ins:List Int
 outs:List Int
 deriving DecidableEq
structure SnI where
 p:Int
 k:Int
 l:Int
 past:List GrI
 now:GrI
 future:List GrI
 goal:GrI
 deriving DecidableEq
def EdAt (w:World) (e:EdI) (b o:Nat):Prop :=
 w.cell? ⟨b,o,none⟩=some (.int .i64 e.kind)∧w.cell? ⟨b,o+1,none⟩=some (.int .i64 e.value) ∧
  ∃ vi vo,w.cell? ⟨b,o+2,none⟩=some vi∧w.cell? ⟨b,o+3,none⟩=some vo∧IntsAt w vi e.ins∧IntsAt w vo e.outs
def EdsAt (w:World) (v:Value) (L:List EdI):Prop:=SlAt 4 v L.length fun i b o=>∃ h:i<L.length,EdAt w L[i] b o
structure GrR (w:World) (ve vi vo:Value) (g:GrI):Prop where
 ed:EdsAt w ve g.edges
 inn:IntsAt w vi g.ins
 out:IntsAt w vo g.outs
def GrAt (w:World) (g:GrI) (b o:Nat):Prop :=
 w.cell? ⟨b,o,none⟩=some (.int .i64 g.wires) ∧
  ∃ ve vi vo,w.cell? ⟨b,o+1,none⟩=some ve∧w.cell? ⟨b,o+2,none⟩=some vi∧w.cell? ⟨b,o+3,none⟩=some vo∧GrR w ve vi vo g
def GrsAt (w:World) (v:Value) (L:List GrI):Prop:=SlAt 4 v L.length fun i b o=>∃ h:i<L.length,GrAt w L[i] b o
theorem EdAt.keep {w w':World} (hb:Below w.heap.size w w') {d:EdI} {b o:Nat} (h:EdAt w d b o):EdAt w' d b o:=by
 obtain ⟨h1,h2,vi,vo,h3,h4,h5,h6⟩:=h
 exact ⟨cell_keep hb h1,cell_keep hb h2,vi,vo,cell_keep hb h3,cell_keep hb h4,h5.keep hb,h6.keep hb⟩
theorem EdsAt.keep {w w':World} (hb:Below w.heap.size w w') {v:Value} {L:List EdI} (h:EdsAt w v L):EdsAt w' v L :=
 SlAt.mono h fun _ _ _ ⟨hi,r⟩=>⟨hi,r.keep hb⟩
theorem GrR.keep {w w':World} (hb:Below w.heap.size w w') {a b c:Value} {g:GrI} (h:GrR w a b c g):GrR w' a b c g:=⟨h.ed.keep hb,h.inn.keep hb,h.out.keep hb⟩
theorem GrAt.keep {w w':World} (hb:Below w.heap.size w w') {d:GrI} {b o:Nat} (h:GrAt w d b o):GrAt w' d b o:=by
 obtain ⟨h1,ve,vi,vo,h2,h3,h4,h5⟩:=h
 exact ⟨cell_keep hb h1,ve,vi,vo,cell_keep hb h2,cell_keep hb h3,cell_keep hb h4,h5.keep hb⟩
theorem GrsAt.keep {w w':World} (hb:Below w.heap.size w w') {v:Value} {L:List GrI} (h:GrsAt w v L):GrsAt w' v L :=
 SlAt.mono h fun _ _ _ ⟨hi,r⟩=>⟨hi,r.keep hb⟩
theorem IntsAt.slice {w:World} {v:Value} {zs:List Int} (h:IntsAt w v zs):∃ a c,v=.slice a zs.length c:=by
 obtain ⟨a,cap,rfl,_⟩:=h;exact ⟨a,cap,rfl⟩
theorem EdsAt.slice {w:World} {v:Value} {zs:List EdI} (h:EdsAt w v zs):∃ a c,v=.slice a zs.length c:=by
 obtain ⟨a,cap,rfl,_⟩:=h;exact ⟨a,cap,rfl⟩
theorem GrsAt.slice {w:World} {v:Value} {zs:List GrI} (h:GrsAt w v zs):∃ a c,v=.slice a zs.length c:=by
 obtain ⟨a,cap,rfl,_⟩:=h;exact ⟨a,cap,rfl⟩
theorem GrR.slices {w:World} {ve vi vo:Value} {g:GrI} (h:GrR w ve vi vo g):(∃ a c,ve=.slice a g.edges.length c)∧(∃ a c,vi=.slice a g.ins.length c)∧∃ a c,vo=.slice a g.outs.length c :=
 ⟨h.ed.slice,h.inn.slice,h.out.slice⟩
structure EdOk (e:EdI):Prop where
 inn:e.ins.length≤1048576
 out:e.outs.length≤1048576
structure GrOk (g:GrI):Prop where
 ed:g.edges.length≤1048576
 eds:∀ e ∈ g.edges,EdOk e
 inn:g.ins.length≤1048576
 out:g.outs.length≤1048576
structure SnOk (s:SnI):Prop where
 np:s.past.length≤1048576
 past:∀ g ∈ s.past,GrOk g
 now:GrOk s.now
 nf:s.future.length≤1048576
 future:∀ g ∈ s.future,GrOk g
 goal:GrOk s.goal
structure SnR (w:World) (vp ne ni no vf ge gi go:Value) (s:SnI):Prop where
 past:GrsAt w vp s.past
 now:GrR w ne ni no s.now
 future:GrsAt w vf s.future
 goal:GrR w ge gi go s.goal
theorem SnR.keep {w w':World} (hb:Below w.heap.size w w') {a b c d e f g h:Value} {s:SnI} (H:SnR w a b c d e f g h s):SnR w' a b c d e f g h s :=
 ⟨H.past.keep hb,H.now.keep hb,H.future.keep hb,H.goal.keep hb⟩
def edCells (x:EdI × Value × Value):List Value:=[.int .i64 x.1.kind,.int .i64 x.1.value,x.2.1,x.2.2]
theorem edCells_len (x:EdI × Value × Value):(edCells x).length=4:=rfl
def grCells (x:GrI × Value × Value × Value):List Value:=[.int .i64 x.1.wires,x.2.1,x.2.2.1,x.2.2.2]
theorem grCells_len (x:GrI × Value × Value × Value):(grCells x).length=4:=rfl
theorem Rw.mono {w:World} {B B':Nat} {v:Value} {xs:List Int} (hB:B'≤B) (h:Rw w B v xs):Rw w B' v xs:=owns_mono hB h
theorem Rw.at {w:World} {B:Nat} {v:Value} {xs:List Int} (h:Rw w B v xs):IntsAt w v xs:=by
 refine owns_slat h _ fun i b o hi hc=>⟨hi,?_⟩
 have:=(hc 0 (by omega)).trans (flat_get iCell_len xs i 0 hi (by omega))
 simpa [iCell] using this
structure EdO (w:World) (B:Nat) (v:Value) (L:List EdI) (xs:List (EdI × Value × Value)):Prop where
 fst:xs.map Prod.fst=L
 row:w.ownsRow B 189 4 v xs.length (xs.flatMap edCells)
 rws:∀ x ∈ xs,Rw w B x.2.1 x.1.ins∧Rw w B x.2.2 x.1.outs
def EdsO (w:World) (B:Nat) (v:Value) (L:List EdI):Prop:=∃ xs,EdO w B v L xs
structure GrO (w:World) (B:Nat) (ve vi vo:Value) (g:GrI):Prop where
 ed:EdsO w B ve g.edges
 inn:Rw w B vi g.ins
 out:Rw w B vo g.outs
structure GrsX (w:World) (B:Nat) (v:Value) (L:List GrI) (xs:List (GrI × Value × Value × Value)):Prop where
 fst:xs.map Prod.fst=L
 row:w.ownsRow B 53 4 v xs.length (xs.flatMap grCells)
 rws:∀ x ∈ xs,GrO w B x.2.1 x.2.2.1 x.2.2.2 x.1
def GrsO (w:World) (B:Nat) (v:Value) (L:List GrI):Prop:=∃ xs,GrsX w B v L xs
theorem EdsO.keep {w w':World} {B:Nat} {v:Value} {L:List EdI} (hb:Below w.heap.size w w') (h:EdsO w B v L):EdsO w' B v L:=by
 obtain ⟨xs,h1,h2,h3⟩:=h
 exact ⟨xs,h1,owns_keep hb h2,fun x hx=>⟨(h3 x hx).1.keep hb,(h3 x hx).2.keep hb⟩⟩
theorem EdsO.mono {w:World} {B B':Nat} {v:Value} {L:List EdI} (hB:B'≤B) (h:EdsO w B v L):EdsO w B' v L:=by
 obtain ⟨xs,h1,h2,h3⟩:=h
 exact ⟨xs,h1,owns_mono hB h2,fun x hx=>⟨(h3 x hx).1.mono hB,(h3 x hx).2.mono hB⟩⟩
theorem EdsO.low {w:World} {B:Nat} {v:Value} {L:List EdI} (h:EdsO w B v L) {a:Addr} (ha:a.block<B) (u:Value):EdsO (w.setCell a u) B v L:=by
 obtain ⟨xs,h1,h2,h3⟩:=h
 exact ⟨xs,h1,ownsRow_setCell_below h2 ha u,fun x hx=>⟨(h3 x hx).1.other a u ha,(h3 x hx).2.other a u ha⟩⟩
theorem EdsO.at {w:World} {B:Nat} {v:Value} {L:List EdI} (h:EdsO w B v L):EdsAt w v L:=by
 obtain ⟨xs,rfl,ho,hb⟩:=h
 have ho':w.ownsRow B 189 4 v (xs.map Prod.fst).length (xs.flatMap edCells):=by rw [List.length_map];exact ho
 refine owns_slat ho' _ fun i b o hi' hc=>⟨hi',?_⟩
 have hi:i<xs.length:=by simpa using hi'
 have g:∀ j,j<4 → w.cell? ⟨b,o+j,none⟩=(edCells xs[i])[j]?:=fun j hj=>(hc j hj).trans (flat_get edCells_len xs i j hi hj)
 rw [List.getElem_map]
 have:=hb _ (List.getElem_mem hi)
 exact ⟨g 0 (by omega),g 1 (by omega),xs[i].2.1,xs[i].2.2,g 2 (by omega),g 3 (by omega),this.1.at,this.2.at⟩
theorem GrO.keep {w w':World} {B:Nat} {a b c:Value} {g:GrI} (hb:Below w.heap.size w w') (h:GrO w B a b c g):GrO w' B a b c g:=⟨h.ed.keep hb,h.inn.keep hb,h.out.keep hb⟩
theorem GrO.mono {w:World} {B B':Nat} {a b c:Value} {g:GrI} (hB:B'≤B) (h:GrO w B a b c g):GrO w B' a b c g:=⟨h.ed.mono hB,h.inn.mono hB,h.out.mono hB⟩
theorem GrO.low {w:World} {B:Nat} {x y z:Value} {g:GrI} (h:GrO w B x y z g) {a:Addr} (ha:a.block<B) (u:Value):GrO (w.setCell a u) B x y z g:=⟨h.ed.low ha u,h.inn.other a u ha,h.out.other a u ha⟩
theorem GrO.at {w:World} {B:Nat} {a b c:Value} {g:GrI} (h:GrO w B a b c g):GrR w a b c g:=⟨h.ed.at,h.inn.at,h.out.at⟩
theorem GrsO.keep {w w':World} {B:Nat} {v:Value} {L:List GrI} (hb:Below w.heap.size w w') (h:GrsO w B v L):GrsO w' B v L:=by
 obtain ⟨xs,h1,h2,h3⟩:=h
 exact ⟨xs,h1,owns_keep hb h2,fun x hx=>(h3 x hx).keep hb⟩
theorem GrsO.mono {w:World} {B B':Nat} {v:Value} {L:List GrI} (hB:B'≤B) (h:GrsO w B v L):GrsO w B' v L:=by
 obtain ⟨xs,h1,h2,h3⟩:=h
 exact ⟨xs,h1,owns_mono hB h2,fun x hx=>(h3 x hx).mono hB⟩
theorem GrsO.low {w:World} {B:Nat} {v:Value} {L:List GrI} (h:GrsO w B v L) {a:Addr} (ha:a.block<B) (u:Value):GrsO (w.setCell a u) B v L:=by
 obtain ⟨xs,h1,h2,h3⟩:=h
 exact ⟨xs,h1,ownsRow_setCell_below h2 ha u,fun x hx=>(h3 x hx).low ha u⟩
theorem GrsO.at {w:World} {B:Nat} {v:Value} {L:List GrI} (h:GrsO w B v L):GrsAt w v L:=by
 obtain ⟨xs,rfl,ho,hb⟩:=h
 have ho':w.ownsRow B 53 4 v (xs.map Prod.fst).length (xs.flatMap grCells):=by rw [List.length_map];exact ho
 refine owns_slat ho' _ fun i b o hi' hc=>⟨hi',?_⟩
 have hi:i<xs.length:=by simpa using hi'
 have g:∀ j,j<4 → w.cell? ⟨b,o+j,none⟩=(grCells xs[i])[j]?:=fun j hj=>(hc j hj).trans (flat_get grCells_len xs i j hi hj)
 rw [List.getElem_map]
 exact ⟨g 0 (by omega),xs[i].2.1,xs[i].2.2.1,xs[i].2.2.2,g 1 (by omega),g 2 (by omega),g 3 (by omega),(hb _ (List.getElem_mem hi)).at⟩
end Go.Proofs.YtbljmfcifljkaaaGreatDoor
/-
  Valid graphs, plain: the tests of both sides, and that each wire stands once. Own work.
-/
namespace Go.Proofs.YtbljmfcifljkaaaGreatDoor
def edB (e:EdI):Bool:=inB e.kind 3 14 && (genValB e.kind e.value && decide (kindW e.kind=((e.ins.length:Int),(e.outs.length:Int))))
def GrI.places (g:GrI):List Int:=g.ins ++ (g.outs ++ g.edges.flatMap fun e=>e.ins ++ e.outs)
def gfitB (g:GrI):Bool:=inB g.wires 0 100 && (decide (g.edges.length≤60) && (decide (g.ins.length≤12) && decide (g.outs.length≤12)))
def inG (n:Int) (l:List Int):Bool:=l.all fun w=>inB w 0 (n - 1)
def allG (g:GrI):Bool:=(List.range g.wires.toNat).all fun w:Nat=>g.places.contains (w:Int)
def grB (g:GrI):Bool:=gfitB g && (g.edges.all edB && (inG g.wires g.places && allG g))
def GrI.origs (g:GrI):List Int:=g.ins ++ g.edges.flatMap EdI.outs
def GrI.dests (g:GrI):List Int:=g.outs ++ g.edges.flatMap EdI.ins
end Go.Proofs.YtbljmfcifljkaaaGreatDoor
/-
  Whole blocks of cells: what a store leaves in them. Own work.
-/
namespace Go.Proofs.YtbljmfcifljkaaaGreatDoor
open Go.RowKit
def Bk (w:World) (b:Nat) (t:TypeId) (cs:Array Value):Prop:=w.heap[b]?=some (.cells cs t)
theorem Bk.new (w:World) (t:TypeId) (cs:Array Value):Bk (w.alloc (.cells cs t)) w.heap.size t cs:=by
 show (w.heap.push _)[w.heap.size]?=_
 simp
theorem Bk.lt {w:World} {b:Nat} {t:TypeId} {cs:Array Value} (h:Bk w b t cs):b<w.heap.size:=(Array.getElem?_eq_some_iff.1 h).1
theorem Bk.keep {w w':World} {b:Nat} {t:TypeId} {cs:Array Value} (hb:Below w.heap.size w w') (h:Bk w b t cs):Bk w' b t cs:=(hb.block b h.lt).trans h
theorem Bk.alloc {w:World} {b:Nat} {t:TypeId} {cs:Array Value} (h:Bk w b t cs) (o:Obj):Bk (w.alloc o) b t cs:=h.keep (alloc_below _ _)
theorem Bk.other {w:World} {b:Nat} {t:TypeId} {cs:Array Value} (h:Bk w b t cs) (a:Addr) (v:Value) (hne:b ≠ a.block):Bk (w.setCell a v) b t cs:=(Below.heap_setCell _ _ _ _ hne).trans h
theorem Bk.set {w:World} {b:Nat} {t:TypeId} {cs:Array Value} (h:Bk w b t cs) (i:Nat) (v:Value):Bk (w.setCell ⟨b,i,none⟩ v) b t (cs.setIfInBounds i v):=by
 have hz:=h.lt
 unfold Bk at h ⊢
 simp only [World.setCell,Array.getElem?_modify,h]
 simp
theorem Bk.cell {w:World} {b:Nat} {t:TypeId} {cs:Array Value} (h:Bk w b t cs):(∀ o,w.cell? ⟨b,o,none⟩=cs[o]?)∧(∀ o,w.frozen? ⟨b,o,none⟩=false)∧b<w.heap.size:=made_cell h
theorem Bk.exc {w w':World} {T:Nat → Prop} {b:Nat} {t:TypeId} {cs:Array Value} (hE:Exc T w w') (h:Bk w b t cs) (hT:¬ T b):Bk w' b t cs:=(hE.block b h.lt hT).trans h
end Go.Proofs.YtbljmfcifljkaaaGreatDoor
/-
  The size checks of edges, graphs and sessions. Own work.
-/
namespace Go.Proofs.YtbljmfcifljkaaaGreatDoor
open Go.RowKit
end Go.Proofs.YtbljmfcifljkaaaGreatDoor
/-
  The laws' copies of edges, graphs and sessions. Own work.
-/
namespace Go.Proofs.YtbljmfcifljkaaaGreatDoor
open Go.RowKit
set_option maxRecDepth 100000
set_option maxHeartbeats 2000000
theorem infoEdge:(Tryz.prog.info? 189).map (fun i=>(i.zero,i.size,i.bytes))=some (some (.agg #[.int .i64 0,.int .i64 0,.slice none 0 0,.slice none 0 0]),4,64):=by kernel_rfl
theorem infoGraph:(Tryz.prog.info? 53).map (fun i=>(i.zero,i.size,i.bytes))=some (some (.agg #[.int .i64 0,.slice none 0 0,.slice none 0 0,.slice none 0 0]),4,80):=by kernel_rfl
theorem Rw.slice {w:World} {B:Nat} {v:Value} {xs:List Int} (h:Rw w B v xs):∃ a c,v=.slice a xs.length c:=h.at.slice
structure To4 {β:Type} (e:Nat) (f:β → List Value) (z:β) (ok:World → Nat → β → Prop) (w wr:World) (g n:Nat) (ys:List β):Prop where
 row:wr.ownsRow g e 4 (.slice (some ⟨g,0,none⟩) n n) n ((ys ++ List.replicate (n - ys.length) z).flatMap f)
 els:∀ x ∈ ys,ok wr (g+1) x
 lt:g<wr.heap.size
 bel:Below g w wr
section
variable {β:Type} {e:Nat} {f:β → List Value} {z:β} {ok:World → Nat → β → Prop} (hf:∀ x,(f x).length=4)
theorem To4.start {w w1:World} {n:Nat} (hf:∀ x,(f x).length=4) (hown:w1.ownsRow w.heap.size e 4 (Value.slice (some ⟨w.heap.size,0,none⟩) n n) n (madeCells (f z).toArray (n * 4)).toList) (hgr:w.grownBy w1 none):To4 e f z ok w w1 w.heap.size n []:=by
 have hz:=made_flat (f:=f) z n (sz:=4) (by omega) (hf z)
 refine ⟨?_,by simp,(hown.lt w.heap.size rfl).2,(Below.refl _ _).grown hgr (Nat.le_refl _) (by simp)⟩
 simp only [List.nil_append,List.length_nil,Nat.sub_zero]
 rw [← hz]
 exact hown
theorem To4.old {w wr w2:World} {g n k:Nat} {ys:List β} (hf:∀ x,(f x).length=4) (h:To4 e f z ok w wr g n ys) (hk:ys.length=k) (hkn:k<n) (hb2:Below wr.heap.size wr w2) :
  (∀ j,j<4 → w2.cell? ⟨g,k * 4+j,none⟩=(f z)[j]?)∧(∀ o,w2.frozen? ⟨g,o,none⟩=false)∧g<w2.heap.size:=by
 subst hk
 have hr:=owns_keep hb2 h.row
 have hl:ys.length<(ys ++ List.replicate (n - ys.length) z).length:=by simp;omega
 refine ⟨fun j hj=>?_,fun o=>hr.frozenAt o,Nat.lt_of_lt_of_le h.lt hb2.size⟩
 have:=owns_cell hf hr ys.length j hl hj
 rw [this,List.getElem_append_right (Nat.le_refl _)]
 simp
theorem To4.step {w wr w2:World} {g n k:Nat} {ys:List β} (hf:∀ x,(f x).length=4)
  (kp:∀ {w w':World} {B:Nat} {x:β},Below w.heap.size w w' → ok w B x → ok w' B x) (lw:∀ {w:World} {B:Nat} {x:β} {a:Addr} {u:Value},a.block<B → ok w B x → ok (w.setCell a u) B x) (mn:∀ {w:World} {B B':Nat} {x:β},B'≤B → ok w B x → ok w B' x)
  (h:To4 e f z ok w wr g n ys) (hk:ys.length=k) (hkn:k<n) (hb2:Below wr.heap.size wr w2) (x:β) (hx:ok w2 wr.heap.size x) {a b c d:Value} (hy:f x=[a,b,c,d]) :
  To4 e f z ok w ((((w2.setCell ⟨g,k * 4,none⟩ a).setCell ⟨g,k * 4+1,none⟩ b).setCell ⟨g,k * 4+2,none⟩ c).setCell ⟨g,k * 4+3,none⟩ d) g n (ys ++ [x]):=by
 subst hk
 have hr:=owns_keep hb2 h.row
 have hsz:=hb2.size
 have hlt:=h.lt
 refine ⟨?_,?_,?_,?_⟩
 ·have:=set4 hf hr ys.length (by simp;omega) a b c d x hy
  have e:(ys ++ List.replicate (n - ys.length) z).set ys.length x=ys ++ [x] ++ List.replicate (n - (ys ++ [x]).length) z:=by
   rw [List.set_append_right _ _ (Nat.le_refl _),Nat.sub_self]
   obtain ⟨m,hm⟩:∃ m,n - ys.length=m+1:=⟨n - ys.length - 1,by omega⟩
   rw [hm,show n - (ys ++ [x]).length=m by simp;omega,List.replicate_succ,List.set_cons_zero,List.append_assoc]
   rfl
  rw [e] at this
  exact this
 ·intro y hy'
  have hl:∀ {y:β},ok w2 (g+1) y → ok ((((w2.setCell ⟨g,ys.length * 4,none⟩ a).setCell ⟨g,ys.length * 4+1,none⟩ b).setCell ⟨g,ys.length * 4+2,none⟩ c).setCell ⟨g,ys.length * 4+3,none⟩ d) (g+1) y:=fun h1 =>
   lw (Nat.lt_succ_self _) (lw (Nat.lt_succ_self _) (lw (Nat.lt_succ_self _) (lw (Nat.lt_succ_self _) h1)))
  rcases List.mem_append.1 hy' with h1|h1
  ·exact hl (kp hb2 (h.els y h1))
  ·simp only [List.mem_singleton] at h1
   subst h1
   exact hl (mn (by omega) hx)
 ·simp;omega
 ·exact (((((h.bel.trans (hb2.mono (by omega))).setCell (Nat.le_refl _) _).setCell (Nat.le_refl _) _).setCell (Nat.le_refl _) _).setCell (Nat.le_refl _) _)
end
theorem EdsO.slice {w:World} {B:Nat} {v:Value} {xs:List EdI} (h:EdsO w B v xs):∃ a c,v=.slice a xs.length c:=h.at.slice
theorem GrO.slices {w:World} {B:Nat} {ve vi vo:Value} {g:GrI} (h:GrO w B ve vi vo g):(∃ a c,ve=.slice a g.edges.length c)∧(∃ a c,vi=.slice a g.ins.length c)∧∃ a c,vo=.slice a g.outs.length c:=h.at.slices
end Go.Proofs.YtbljmfcifljkaaaGreatDoor
/-
  The laws' comparisons of edges, graphs and sessions that are equal. Own work.
-/
namespace Go.Proofs.YtbljmfcifljkaaaGreatDoor
open Go.RowKit
set_option maxRecDepth 100000
set_option maxHeartbeats 2000000
end Go.Proofs.YtbljmfcifljkaaaGreatDoor
/-
  Sessions in the laws: size, copy, comparison. Own work.
-/
namespace Go.Proofs.YtbljmfcifljkaaaGreatDoor
open Go.RowKit
set_option maxRecDepth 100000
set_option maxHeartbeats 4000000
theorem SnR.slices {w:World} {vp ne ni no vf ge gi go:Value} {s:SnI} (h:SnR w vp ne ni no vf ge gi go s) :
  (∃ a c,vp=.slice a s.past.length c)∧((∃ a c,ne=.slice a s.now.edges.length c)∧(∃ a c,ni=.slice a s.now.ins.length c)∧∃ a c,no=.slice a s.now.outs.length c) ∧
   (∃ a c,vf=.slice a s.future.length c)∧(∃ a c,ge=.slice a s.goal.edges.length c)∧(∃ a c,gi=.slice a s.goal.ins.length c)∧∃ a c,go=.slice a s.goal.outs.length c :=
 ⟨h.past.slice,h.now.slices,h.future.slice,h.goal.slices⟩
end Go.Proofs.YtbljmfcifljkaaaGreatDoor
/-
  The laws' copy of a session. Own work.
-/
namespace Go.Proofs.YtbljmfcifljkaaaGreatDoor
open Go.RowKit
set_option maxRecDepth 100000
set_option maxHeartbeats 4000000
theorem GrsO.slice {w:World} {B:Nat} {v:Value} {xs:List GrI} (h:GrsO w B v xs):∃ a c,v=.slice a xs.length c:=h.at.slice
end Go.Proofs.YtbljmfcifljkaaaGreatDoor
