/-
  Edges, graphs and sessions, plain, and what it means that a world holds them. Own work.
-/
import Derived.Test.YtbljmfcifljkaaaGreatDoorUFL
import Derived.Test.YtbljmfcifljkaaaGreatDoorUF
import Derived.Test.YtbljmfcifljkaaaGreatDoorUC
import Derived.Test.YtbljmfcifljkaaaGreatDoorUB
import Derived.Test.YtbljmfcifljkaaaGreatDoorUA
set_option linter.all false
set_option maxRecDepth 100000
set_option maxHeartbeats 8000000
namespace Go.Proofs.YtbljmfcifljkaaaGreatDoor
open Go.RowKit
structure EdI where
 kind:Int
 value:Int
 ins:List Int
 outs:List Int
 deriving DecidableEq
structure GrI where
 wires:Int
 edges:List EdI
 ins:List Int
 outs:List Int
 deriving DecidableEq
structure SnI where
 p:Int
 k:Int
 l:Int
 past:List GrI
 now:GrI
 future:List GrI
 goal:GrI
 deriving DecidableEq
def EdAt (w:World) (e:EdI) (b o:Nat):Prop :=
 w.cell? ⟨b,o,none⟩=some (.int .i64 e.kind)∧w.cell? ⟨b,o+1,none⟩=some (.int .i64 e.value) ∧
  ∃ vi vo,w.cell? ⟨b,o+2,none⟩=some vi∧w.cell? ⟨b,o+3,none⟩=some vo∧IntsAt w vi e.ins∧IntsAt w vo e.outs
def EdsAt (w:World) (v:Value) (L:List EdI):Prop:=SlAt 4 v L.length fun i b o=>∃ h:i<L.length,EdAt w L[i] b o
structure GrR (w:World) (ve vi vo:Value) (g:GrI):Prop where
 ed:EdsAt w ve g.edges
 inn:IntsAt w vi g.ins
 out:IntsAt w vo g.outs
def GrAt (w:World) (g:GrI) (b o:Nat):Prop :=
 w.cell? ⟨b,o,none⟩=some (.int .i64 g.wires) ∧
  ∃ ve vi vo,w.cell? ⟨b,o+1,none⟩=some ve∧w.cell? ⟨b,o+2,none⟩=some vi∧w.cell? ⟨b,o+3,none⟩=some vo∧GrR w ve vi vo g
def GrsAt (w:World) (v:Value) (L:List GrI):Prop:=SlAt 4 v L.length fun i b o=>∃ h:i<L.length,GrAt w L[i] b o
theorem EdAt.keep {w w':World} (hb:Below w.heap.size w w') {d:EdI} {b o:Nat} (h:EdAt w d b o):EdAt w' d b o:=by
 obtain ⟨h1,h2,vi,vo,h3,h4,h5,h6⟩:=h
 exact ⟨cell_keep hb h1,cell_keep hb h2,vi,vo,cell_keep hb h3,cell_keep hb h4,h5.keep hb,h6.keep hb⟩
theorem EdsAt.keep {w w':World} (hb:Below w.heap.size w w') {v:Value} {L:List EdI} (h:EdsAt w v L):EdsAt w' v L :=
 SlAt.mono h fun _ _ _ ⟨hi,r⟩=>⟨hi,r.keep hb⟩
theorem GrR.keep {w w':World} (hb:Below w.heap.size w w') {a b c:Value} {g:GrI} (h:GrR w a b c g):GrR w' a b c g:=⟨h.ed.keep hb,h.inn.keep hb,h.out.keep hb⟩
theorem GrAt.keep {w w':World} (hb:Below w.heap.size w w') {d:GrI} {b o:Nat} (h:GrAt w d b o):GrAt w' d b o:=by
 obtain ⟨h1,ve,vi,vo,h2,h3,h4,h5⟩:=h
 exact ⟨cell_keep hb h1,ve,vi,vo,cell_keep hb h2,cell_keep hb h3,cell_keep hb h4,h5.keep hb⟩
theorem GrsAt.keep {w w':World} (hb:Below w.heap.size w w') {v:Value} {L:List GrI} (h:GrsAt w v L):GrsAt w' v L :=
 SlAt.mono h fun _ _ _ ⟨hi,r⟩=>⟨hi,r.keep hb⟩
theorem IntsAt.slice {w:World} {v:Value} {zs:List Int} (h:IntsAt w v zs):∃ a c,v=.slice a zs.length c:=by
 obtain ⟨a,cap,rfl,_⟩:=h;exact ⟨a,cap,rfl⟩
theorem EdsAt.slice {w:World} {v:Value} {zs:List EdI} (h:EdsAt w v zs):∃ a c,v=.slice a zs.length c:=by
 obtain ⟨a,cap,rfl,_⟩:=h;exact ⟨a,cap,rfl⟩
theorem GrsAt.slice {w:World} {v:Value} {zs:List GrI} (h:GrsAt w v zs):∃ a c,v=.slice a zs.length c:=by
 obtain ⟨a,cap,rfl,_⟩:=h;exact ⟨a,cap,rfl⟩
theorem GrR.slices {w:World} {ve vi vo:Value} {g:GrI} (h:GrR w ve vi vo g):(∃ a c,ve=.slice a g.edges.length c)∧(∃ a c,vi=.slice a g.ins.length c)∧∃ a c,vo=.slice a g.outs.length c :=
 ⟨h.ed.slice,h.inn.slice,h.out.slice⟩
structure EdOk (e:EdI):Prop where
 inn:e.ins.length≤1048576
 out:e.outs.length≤1048576
structure GrOk (g:GrI):Prop where
 ed:g.edges.length≤1048576
 eds:∀ e ∈ g.edges,EdOk e
 inn:g.ins.length≤1048576
 out:g.outs.length≤1048576
structure SnOk (s:SnI):Prop where
 np:s.past.length≤1048576
 past:∀ g ∈ s.past,GrOk g
 now:GrOk s.now
 nf:s.future.length≤1048576
 future:∀ g ∈ s.future,GrOk g
 goal:GrOk s.goal
structure SnR (w:World) (vp ne ni no vf ge gi go:Value) (s:SnI):Prop where
 past:GrsAt w vp s.past
 now:GrR w ne ni no s.now
 future:GrsAt w vf s.future
 goal:GrR w ge gi go s.goal
theorem SnR.keep {w w':World} (hb:Below w.heap.size w w') {a b c d e f g h:Value} {s:SnI} (H:SnR w a b c d e f g h s):SnR w' a b c d e f g h s :=
 ⟨H.past.keep hb,H.now.keep hb,H.future.keep hb,H.goal.keep hb⟩
def snV (s:SnI) (vp ne ni no vf ge gi go:Value):Value:=.agg #[.int .i64 s.p,.int .i64 s.k,.int .i64 s.l,vp,.int .i64 s.now.wires,ne,ni,no,vf,.int .i64 s.goal.wires,ge,gi,go]
def edCells (x:EdI × Value × Value):List Value:=[.int .i64 x.1.kind,.int .i64 x.1.value,x.2.1,x.2.2]
theorem edCells_len (x:EdI × Value × Value):(edCells x).length=4:=rfl
def grCells (x:GrI × Value × Value × Value):List Value:=[.int .i64 x.1.wires,x.2.1,x.2.2.1,x.2.2.2]
theorem grCells_len (x:GrI × Value × Value × Value):(grCells x).length=4:=rfl
theorem Rw.mono {w:World} {B B':Nat} {v:Value} {xs:List Int} (hB:B'≤B) (h:Rw w B v xs):Rw w B' v xs:=owns_mono hB h
theorem Rw.at {w:World} {B:Nat} {v:Value} {xs:List Int} (h:Rw w B v xs):IntsAt w v xs:=by
 refine owns_slat h _ fun i b o hi hc=>⟨hi,?_⟩
 have:=(hc 0 (by omega)).trans (flat_get iCell_len xs i 0 hi (by omega))
 simpa [iCell] using this
structure EdO (w:World) (B:Nat) (v:Value) (L:List EdI) (xs:List (EdI × Value × Value)):Prop where
 fst:xs.map Prod.fst=L
 row:w.ownsRow B 189 4 v xs.length (xs.flatMap edCells)
 rws:∀ x ∈ xs,Rw w B x.2.1 x.1.ins∧Rw w B x.2.2 x.1.outs
def EdsO (w:World) (B:Nat) (v:Value) (L:List EdI):Prop:=∃ xs,EdO w B v L xs
structure GrO (w:World) (B:Nat) (ve vi vo:Value) (g:GrI):Prop where
 ed:EdsO w B ve g.edges
 inn:Rw w B vi g.ins
 out:Rw w B vo g.outs
structure GrsX (w:World) (B:Nat) (v:Value) (L:List GrI) (xs:List (GrI × Value × Value × Value)):Prop where
 fst:xs.map Prod.fst=L
 row:w.ownsRow B 53 4 v xs.length (xs.flatMap grCells)
 rws:∀ x ∈ xs,GrO w B x.2.1 x.2.2.1 x.2.2.2 x.1
def GrsO (w:World) (B:Nat) (v:Value) (L:List GrI):Prop:=∃ xs,GrsX w B v L xs
theorem EdsO.keep {w w':World} {B:Nat} {v:Value} {L:List EdI} (hb:Below w.heap.size w w') (h:EdsO w B v L):EdsO w' B v L:=by
 obtain ⟨xs,h1,h2,h3⟩:=h
 exact ⟨xs,h1,owns_keep hb h2,fun x hx=>⟨(h3 x hx).1.keep hb,(h3 x hx).2.keep hb⟩⟩
theorem EdsO.mono {w:World} {B B':Nat} {v:Value} {L:List EdI} (hB:B'≤B) (h:EdsO w B v L):EdsO w B' v L:=by
 obtain ⟨xs,h1,h2,h3⟩:=h
 exact ⟨xs,h1,owns_mono hB h2,fun x hx=>⟨(h3 x hx).1.mono hB,(h3 x hx).2.mono hB⟩⟩
theorem EdsO.low {w:World} {B:Nat} {v:Value} {L:List EdI} (h:EdsO w B v L) {a:Addr} (ha:a.block<B) (u:Value):EdsO (w.setCell a u) B v L:=by
 obtain ⟨xs,h1,h2,h3⟩:=h
 exact ⟨xs,h1,ownsRow_setCell_below h2 ha u,fun x hx=>⟨(h3 x hx).1.other a u ha,(h3 x hx).2.other a u ha⟩⟩
theorem EdsO.at {w:World} {B:Nat} {v:Value} {L:List EdI} (h:EdsO w B v L):EdsAt w v L:=by
 obtain ⟨xs,rfl,ho,hb⟩:=h
 have ho':w.ownsRow B 189 4 v (xs.map Prod.fst).length (xs.flatMap edCells):=by rw [List.length_map];exact ho
 refine owns_slat ho' _ fun i b o hi' hc=>⟨hi',?_⟩
 have hi:i<xs.length:=by simpa using hi'
 have g:∀ j,j<4 → w.cell? ⟨b,o+j,none⟩=(edCells xs[i])[j]?:=fun j hj=>(hc j hj).trans (flat_get edCells_len xs i j hi hj)
 rw [List.getElem_map]
 have:=hb _ (List.getElem_mem hi)
 exact ⟨g 0 (by omega),g 1 (by omega),xs[i].2.1,xs[i].2.2,g 2 (by omega),g 3 (by omega),this.1.at,this.2.at⟩
theorem GrO.keep {w w':World} {B:Nat} {a b c:Value} {g:GrI} (hb:Below w.heap.size w w') (h:GrO w B a b c g):GrO w' B a b c g:=⟨h.ed.keep hb,h.inn.keep hb,h.out.keep hb⟩
theorem GrO.mono {w:World} {B B':Nat} {a b c:Value} {g:GrI} (hB:B'≤B) (h:GrO w B a b c g):GrO w B' a b c g:=⟨h.ed.mono hB,h.inn.mono hB,h.out.mono hB⟩
theorem GrO.low {w:World} {B:Nat} {x y z:Value} {g:GrI} (h:GrO w B x y z g) {a:Addr} (ha:a.block<B) (u:Value):GrO (w.setCell a u) B x y z g:=⟨h.ed.low ha u,h.inn.other a u ha,h.out.other a u ha⟩
theorem GrO.at {w:World} {B:Nat} {a b c:Value} {g:GrI} (h:GrO w B a b c g):GrR w a b c g:=⟨h.ed.at,h.inn.at,h.out.at⟩
theorem GrsO.keep {w w':World} {B:Nat} {v:Value} {L:List GrI} (hb:Below w.heap.size w w') (h:GrsO w B v L):GrsO w' B v L:=by
 obtain ⟨xs,h1,h2,h3⟩:=h
 exact ⟨xs,h1,owns_keep hb h2,fun x hx=>(h3 x hx).keep hb⟩
theorem GrsO.mono {w:World} {B B':Nat} {v:Value} {L:List GrI} (hB:B'≤B) (h:GrsO w B v L):GrsO w B' v L:=by
 obtain ⟨xs,h1,h2,h3⟩:=h
 exact ⟨xs,h1,owns_mono hB h2,fun x hx=>(h3 x hx).mono hB⟩
theorem GrsO.low {w:World} {B:Nat} {v:Value} {L:List GrI} (h:GrsO w B v L) {a:Addr} (ha:a.block<B) (u:Value):GrsO (w.setCell a u) B v L:=by
 obtain ⟨xs,h1,h2,h3⟩:=h
 exact ⟨xs,h1,ownsRow_setCell_below h2 ha u,fun x hx=>(h3 x hx).low ha u⟩
theorem GrsO.at {w:World} {B:Nat} {v:Value} {L:List GrI} (h:GrsO w B v L):GrsAt w v L:=by
 obtain ⟨xs,rfl,ho,hb⟩:=h
 have ho':w.ownsRow B 53 4 v (xs.map Prod.fst).length (xs.flatMap grCells):=by rw [List.length_map];exact ho
 refine owns_slat ho' _ fun i b o hi' hc=>⟨hi',?_⟩
 have hi:i<xs.length:=by simpa using hi'
 have g:∀ j,j<4 → w.cell? ⟨b,o+j,none⟩=(grCells xs[i])[j]?:=fun j hj=>(hc j hj).trans (flat_get grCells_len xs i j hi hj)
 rw [List.getElem_map]
 exact ⟨g 0 (by omega),xs[i].2.1,xs[i].2.2.1,xs[i].2.2.2,g 1 (by omega),g 2 (by omega),g 3 (by omega),(hb _ (List.getElem_mem hi)).at⟩
end Go.Proofs.YtbljmfcifljkaaaGreatDoor
/-
  Valid graphs, plain: the tests of both sides, and that each wire stands once. Own work.
-/
namespace Go.Proofs.YtbljmfcifljkaaaGreatDoor
theorem sum_ind (m:Nat):∀ n,((List.range n).map fun w:Nat=>if ((m:Int) == (w:Int))=true then 1 else 0).sum=if m<n then 1 else 0
 | 0=>by simp
 | n+1=>by
  rw [List.range_succ,List.map_append,List.sum_append,sum_ind m n]
  simp only [List.map_cons,List.map_nil,List.sum_cons,List.sum_nil,beq_iff_eq]
  by_cases h1:m<n
  ·rw [if_pos h1,if_neg (by omega:¬ (m:Int)=n),if_pos (by omega:m<n+1)];rfl
  ·by_cases h2:m=n
   ·rw [if_neg h1,if_pos (by omega:(m:Int)=n),if_pos (by omega:m<n+1)];rfl
   ·rw [if_neg h1,if_neg (by omega:¬ (m:Int)=n),if_neg (by omega:¬ m<n+1)];rfl
theorem sum_add (f g:Nat → Nat):∀ l:List Nat,(l.map fun w=>f w+g w).sum=(l.map f).sum+(l.map g).sum
 | []=>rfl
 | x :: l=>by simp only [List.map_cons,List.sum_cons,sum_add f g l];omega
theorem sum_count (n:Nat):∀ (l:List Int),(∀ x ∈ l,0≤x∧x<n) → ((List.range n).map fun w:Nat=>l.count (w:Int)).sum=l.length
 | [],_=>by
  simp only [List.count_nil,List.length_nil]
  induction List.range n with
  | nil=>rfl
  | cons a r ih=>simpa using ih
 | x :: l,h=>by
  have ih:=sum_count n l (fun y hy=>h y (by simp [hy]))
  obtain ⟨h1,h2⟩:=h x (by simp)
  obtain ⟨m,rfl⟩:∃ m:Nat,x=m:=⟨x.toNat,by omega⟩
  have:(fun w:Nat=>((m:Int) :: l).count (w:Int))=fun w:Nat=>l.count (w:Int)+if ((m:Int) == (w:Int))=true then 1 else 0:=by
   funext w;rw [List.count_cons]
  rw [this,sum_add,ih,sum_ind,if_pos (by omega)]
  rfl
theorem sum_one (f:Nat → Nat):∀ n,(∀ w,w<n → f w≤1) → ((List.range n).map f).sum≤n∧(((List.range n).map f).sum=n → ∀ w,w<n → f w=1)
 | 0,_=>⟨by simp,fun _ w hw=>by omega⟩
 | n+1,h=>by
  obtain ⟨h1,h2⟩:=sum_one f n (fun w hw=>h w (by omega))
  have h3:=h n (by omega)
  rw [List.range_succ,List.map_append,List.sum_append]
  simp only [List.map_cons,List.map_nil,List.sum_cons,List.sum_nil]
  refine ⟨by omega,fun e w hw=>?_⟩
  by_cases hwn:w=n
  ·subst hwn;omega
  ·exact h2 (by omega) w (by omega)
theorem sum_all (f:Nat → Nat):∀ n,(∀ w,w<n → f w=1) → ((List.range n).map f).sum=n
 | 0,_=>by simp
 | n+1,h=>by
  rw [List.range_succ,List.map_append,List.sum_append,sum_all f n (fun w hw=>h w (by omega))]
  simp [h n (by omega)]
theorem nodup_count {l:List Int}:l.Nodup ↔ ∀ x,l.count x≤1:=by
 induction l with
 | nil=>simp
 | cons y l ih =>
  rw [List.nodup_cons,ih]
  constructor
  ·rintro ⟨h1,h2⟩ x
   rw [List.count_cons]
   by_cases e:y=x
   ·subst e
    rw [List.count_eq_zero.2 h1];simp
   ·have:=h2 x
    simp [e];exact this
  ·intro h
   refine ⟨fun hm=>?_,fun x=>?_⟩
   ·have h1:=h y
    rw [List.count_cons] at h1
    have h2:=List.count_pos_iff.2 hm
    simp at h1;omega
   ·have:=h x
    rw [List.count_cons] at this
    omega
theorem once_iff (n:Nat) (l:List Int) (h:∀ x ∈ l,0≤x∧x<n):(l.length=n∧l.Nodup) ↔ ∀ w:Nat,w<n → l.count (w:Int)=1:=by
 have hs:=sum_count n l h
 constructor
 ·rintro ⟨h1,h2⟩
  refine (sum_one (fun w=>l.count (w:Int)) n (fun w _=>nodup_count.1 h2 _)).2 (by rw [hs,h1])
 ·intro h1
  have:=sum_all (fun w=>l.count (w:Int)) n h1
  refine ⟨by rw [← hs,this],nodup_count.2 fun x=>?_⟩
  by_cases hx:x ∈ l
  ·obtain ⟨a,b⟩:=h x hx
   have:=h1 x.toNat (by omega)
   rw [show ((x.toNat:Nat):Int)=x by omega] at this
   omega
  ·rw [List.count_eq_zero.2 hx];omega
def edB (e:EdI):Bool:=inB e.kind 3 14 && (genValB e.kind e.value && decide (kindW e.kind=((e.ins.length:Int),(e.outs.length:Int))))
def GrI.places (g:GrI):List Int:=g.ins ++ (g.outs ++ g.edges.flatMap fun e=>e.ins ++ e.outs)
def gfitB (g:GrI):Bool:=inB g.wires 0 100 && (decide (g.edges.length≤60) && (decide (g.ins.length≤12) && decide (g.outs.length≤12)))
def inG (n:Int) (l:List Int):Bool:=l.all fun w=>inB w 0 (n - 1)
def allG (g:GrI):Bool:=(List.range g.wires.toNat).all fun w:Nat=>g.places.contains (w:Int)
def grB (g:GrI):Bool:=gfitB g && (g.edges.all edB && (inG g.wires g.places && allG g))
def overB (p:Int) (g:GrI):Bool:=g.edges.all fun e=>!valB e.kind || decide (e.value<p)
def GrI.origs (g:GrI):List Int:=g.ins ++ g.edges.flatMap EdI.outs
def GrI.dests (g:GrI):List Int:=g.outs ++ g.edges.flatMap EdI.ins
def permB (l:List Int) (n:Int):Bool:=decide ((l.length:Int)=n) && (inG n l && decide l.Nodup)
def monoB (g:GrI):Bool:=permB g.origs g.wires && permB g.dests g.wires
end Go.Proofs.YtbljmfcifljkaaaGreatDoor
/-
  Whole blocks of cells: what a store leaves in them. Own work.
-/
namespace Go.Proofs.YtbljmfcifljkaaaGreatDoor
open Go.RowKit
def Bk (w:World) (b:Nat) (t:TypeId) (cs:Array Value):Prop:=w.heap[b]?=some (.cells cs t)
theorem Bk.new (w:World) (t:TypeId) (cs:Array Value):Bk (w.alloc (.cells cs t)) w.heap.size t cs:=by
 show (w.heap.push _)[w.heap.size]?=_
 simp
theorem Bk.lt {w:World} {b:Nat} {t:TypeId} {cs:Array Value} (h:Bk w b t cs):b<w.heap.size:=(Array.getElem?_eq_some_iff.1 h).1
theorem Bk.keep {w w':World} {b:Nat} {t:TypeId} {cs:Array Value} (hb:Below w.heap.size w w') (h:Bk w b t cs):Bk w' b t cs:=(hb.block b h.lt).trans h
theorem Bk.alloc {w:World} {b:Nat} {t:TypeId} {cs:Array Value} (h:Bk w b t cs) (o:Obj):Bk (w.alloc o) b t cs:=h.keep (alloc_below _ _)
theorem Bk.other {w:World} {b:Nat} {t:TypeId} {cs:Array Value} (h:Bk w b t cs) (a:Addr) (v:Value) (hne:b ≠ a.block):Bk (w.setCell a v) b t cs:=(Below.heap_setCell _ _ _ _ hne).trans h
theorem Bk.set {w:World} {b:Nat} {t:TypeId} {cs:Array Value} (h:Bk w b t cs) (i:Nat) (v:Value):Bk (w.setCell ⟨b,i,none⟩ v) b t (cs.setIfInBounds i v):=by
 have hz:=h.lt
 unfold Bk at h ⊢
 simp only [World.setCell,Array.getElem?_modify,h]
 simp
theorem Bk.cell {w:World} {b:Nat} {t:TypeId} {cs:Array Value} (h:Bk w b t cs):(∀ o,w.cell? ⟨b,o,none⟩=cs[o]?)∧(∀ o,w.frozen? ⟨b,o,none⟩=false)∧b<w.heap.size:=made_cell h
theorem Bk.exc {w w':World} {T:Nat → Prop} {b:Nat} {t:TypeId} {cs:Array Value} (hE:Exc T w w') (h:Bk w b t cs) (hT:¬ T b):Bk w' b t cs:=(hE.block b h.lt hT).trans h
end Go.Proofs.YtbljmfcifljkaaaGreatDoor
/-
  The size checks of edges, graphs and sessions. Own work.
-/
namespace Go.Proofs.YtbljmfcifljkaaaGreatDoor
open Go.RowKit
theorem szIntS_any (v:Value) (zs:List Int) (left:Int) (w:World) (hv:IntsAt w v zs) (hn:zs.length≤1048576) (h0:0≤left) (h1:left≤1048576) :
  Calls Tryz.prog 65 #[v,.int .i64 left] w (SzPost left w):=by
 obtain ⟨a,cap,rfl,hc,hat⟩:=hv
 go_enter Tryz.func65,Tryz.ntmps65
 go_wp2
 all_goals
  go_ret
  exact ⟨_,rfl,by omega,by omega,Below.refl _ _⟩
theorem szEdge_any (k v:Int) (vi vo:Value) (e:EdI) (left:Int) (w:World) (hi:IntsAt w vi e.ins) (ho:IntsAt w vo e.outs) (hok:EdOk e) (h0:0≤left) (h1:left≤1048576) :
  Calls Tryz.prog 132 #[.agg #[.int .i64 k,.int .i64 v,vi,vo],.int .i64 left] w (SzPost left w):=by
 obtain ⟨a,cap,rfl⟩:=hi.slice
 obtain ⟨a',cap',rfl⟩:=ho.slice
 obtain ⟨n1,n2⟩:=hok
 have hA:=alloc_below w (.cells #[.int .i64 k,.int .i64 v,.slice a e.ins.length cap,.slice a' e.outs.length cap'] 187)
 go_enter Tryz.func132,Tryz.ntmps132
 go_wp2_with fail
 refine (szIntS_any _ e.ins _ _ (hi.keep hA) n1 (by omega) (by omega)).mono ?_
 rintro r w1 ⟨r1,rfl,q0,q1,hb1⟩
 have hB1:=hA.trans (hb1.mono (by simp))
 have c0:=hb1.cell (p:=⟨w.heap.size,2,none⟩) (by simp)
 have c1:=hb1.cell (p:=⟨w.heap.size,3,none⟩) (by simp)
 simp [go_sem] at c0 c1
 have z1:=cell_lt c0
 by_cases hneg:r1<0
 ·go_wp2
  go_ret
  exact ⟨_,rfl,by omega,by omega,hB1⟩
 ·go_wp2_with fail
  refine (szIntS_any _ e.outs _ _ (ho.keep hB1) n2 (by omega) (by omega)).mono ?_
  rintro r w2 ⟨r2,rfl,q2,q3,hb2⟩
  have hB2:=hB1.trans (hb2.mono hB1.size)
  go_wp2
  all_goals
   go_ret
   exact ⟨_,rfl,by omega,by omega,hB2⟩
theorem szEdgeS_any (v:Value) (L:List EdI) (left:Int) (w:World) (hv:EdsAt w v L) (hs:∀ d ∈ L,EdOk d) (hn:L.length≤1048576) (h0:0≤left) (h1:left≤1048576) :
  Calls Tryz.prog 64 #[v,.int .i64 left] w (SzPost left w):=by
 obtain ⟨a,cap,rfl,hc,hat⟩:=hv
 go_enter Tryz.func64,Tryz.ntmps64
 go_wp2
 ·go_ret
  exact ⟨_,rfl,by omega,by omega,Below.refl _ _⟩
 ·go_loopw [1,5] (fun l i wr=>∃ (k:Nat) (r:Int),k≤L.length∧i=.int .i64 k∧l=.int .i64 r∧0≤r∧r≤left∧Below w.heap.size w wr) (fun _ i _=>L.length - (intOf i).toNat)
  case atStart=>exact ⟨0,_,Nat.zero_le _,rfl,rfl,by omega,by omega,Below.refl _ _⟩
  case round =>
   obtain ⟨k,r,hk,rfl,rfl,hr0,hr1,hbel⟩:=hrel
   by_cases hlt:k<L.length
   ·obtain ⟨b,o,rfl,_,hnd⟩:=hat k hlt
    obtain ⟨c0,c1,vi,vo,c2,c3,hvi,hvo⟩:=hnd.keep hbel
    obtain ⟨va,vc,rfl⟩:=hvi.slice
    obtain ⟨va',vc',rfl⟩:=hvo.slice
    have hsz:=hs L[k] (List.getElem_mem _)
    clear hat hnd hs
    go_wp2_with (go_at_call 132;refine (szEdge_any _ _ _ _ L[k] _ _ hvi hvo hsz (by omega) (by omega)).mono ?_;rintro e w' ⟨r',rfl,q0,q1,hb2⟩)
    ·go_ret
     exact ⟨_,rfl,by omega,by omega,hbel.trans (hb2.mono (by have:=hbel.size;omega))⟩
    ·go_roundw
     case rel=>exact ⟨k+1,_,by omega,by go_num,rfl,by omega,by omega,hbel.trans (hb2.mono (by have:=hbel.size;omega))⟩
     case measure=>simp [intOf];omega
   ·go_wp2
    go_ret
    exact ⟨_,rfl,by omega,by omega,hbel⟩
theorem szGraph_any (n:Int) (ve vi vo:Value) (g:GrI) (left:Int) (w:World) (hg:GrR w ve vi vo g) (hok:GrOk g) (h0:0≤left) (h1:left≤1048576) :
  Calls Tryz.prog 27 #[.agg #[.int .i64 n,ve,vi,vo],.int .i64 left] w (SzPost left w):=by
 obtain ⟨⟨ae,ce,rfl⟩,⟨ai,ci,rfl⟩,ao,co,rfl⟩:=hg.slices
 have hA:=alloc_below w (.cells #[.int .i64 n,.slice ae g.edges.length ce,.slice ai g.ins.length ci,.slice ao g.outs.length co] 42)
 go_enter Tryz.func27,Tryz.ntmps27
 go_wp2_with fail
 refine (szEdgeS_any _ g.edges _ _ (hg.ed.keep hA) hok.eds hok.ed (by omega) (by omega)).mono ?_
 rintro r w1 ⟨r1,rfl,q0,q1,hb1⟩
 have hB1:=hA.trans (hb1.mono (by simp))
 have c0:=hb1.cell (p:=⟨w.heap.size,2,none⟩) (by simp)
 have c1:=hb1.cell (p:=⟨w.heap.size,3,none⟩) (by simp)
 simp [go_sem] at c0 c1
 have z1:=cell_lt c0
 by_cases hneg:r1<0
 ·go_wp2
  go_ret
  exact ⟨_,rfl,by omega,by omega,hB1⟩
 ·go_wp2_with fail
  refine (szIntS_any _ g.ins _ _ (hg.inn.keep hB1) hok.inn (by omega) (by omega)).mono ?_
  rintro r w2 ⟨r2,rfl,q2,q3,hb2⟩
  have hB2:=hB1.trans (hb2.mono hB1.size)
  replace c1:=cell_keep hb2 c1
  have z2:=cell_lt c1
  by_cases hneg2:r2<0
  ·go_wp2
   go_ret
   exact ⟨_,rfl,by omega,by omega,hB2⟩
  ·go_wp2_with fail
   refine (szIntS_any _ g.outs _ _ (hg.out.keep hB2) hok.out (by omega) (by omega)).mono ?_
   rintro r w3 ⟨r3,rfl,q4,q5,hb3⟩
   have hB3:=hB2.trans (hb3.mono hB2.size)
   go_wp2
   all_goals
    go_ret
    exact ⟨_,rfl,by omega,by omega,hB3⟩
theorem szGraphS_any (v:Value) (L:List GrI) (left:Int) (w:World) (hv:GrsAt w v L) (hs:∀ d ∈ L,GrOk d) (hn:L.length≤1048576) (h0:0≤left) (h1:left≤1048576) :
  Calls Tryz.prog 55 #[v,.int .i64 left] w (SzPost left w):=by
 obtain ⟨a,cap,rfl,hc,hat⟩:=hv
 go_enter Tryz.func55,Tryz.ntmps55
 go_wp2
 ·go_ret
  exact ⟨_,rfl,by omega,by omega,Below.refl _ _⟩
 ·go_loopw [1,5] (fun l i wr=>∃ (k:Nat) (r:Int),k≤L.length∧i=.int .i64 k∧l=.int .i64 r∧0≤r∧r≤left∧Below w.heap.size w wr) (fun _ i _=>L.length - (intOf i).toNat)
  case atStart=>exact ⟨0,_,Nat.zero_le _,rfl,rfl,by omega,by omega,Below.refl _ _⟩
  case round =>
   obtain ⟨k,r,hk,rfl,rfl,hr0,hr1,hbel⟩:=hrel
   by_cases hlt:k<L.length
   ·obtain ⟨b,o,rfl,_,hnd⟩:=hat k hlt
    obtain ⟨c0,ve,vi,vo,c1,c2,c3,hg⟩:=hnd.keep hbel
    obtain ⟨⟨ae,ce,rfl⟩,⟨ai,ci,rfl⟩,ao,co,rfl⟩:=hg.slices
    have hsz:=hs L[k] (List.getElem_mem _)
    clear hat hnd hs
    go_wp2_with (go_at_call 27;refine (szGraph_any _ _ _ _ L[k] _ _ hg hsz (by omega) (by omega)).mono ?_;rintro e w' ⟨r',rfl,q0,q1,hb2⟩)
    ·go_ret
     exact ⟨_,rfl,by omega,by omega,hbel.trans (hb2.mono (by have:=hbel.size;omega))⟩
    ·go_roundw
     case rel=>exact ⟨k+1,_,by omega,by go_num,rfl,by omega,by omega,hbel.trans (hb2.mono (by have:=hbel.size;omega))⟩
     case measure=>simp [intOf];omega
   ·go_wp2
    go_ret
    exact ⟨_,rfl,by omega,by omega,hbel⟩
end Go.Proofs.YtbljmfcifljkaaaGreatDoor
/-
  The laws' copies of edges, graphs and sessions. Own work.
-/
namespace Go.Proofs.YtbljmfcifljkaaaGreatDoor
open Go.RowKit
set_option maxRecDepth 100000
set_option maxHeartbeats 2000000
theorem infoEdge:(Tryz.prog.info? 189).map (fun i=>(i.zero,i.size,i.bytes))=some (some (.agg #[.int .i64 0,.int .i64 0,.slice none 0 0,.slice none 0 0]),4,64):=by kernel_rfl
theorem infoGraph:(Tryz.prog.info? 53).map (fun i=>(i.zero,i.size,i.bytes))=some (some (.agg #[.int .i64 0,.slice none 0 0,.slice none 0 0,.slice none 0 0]),4,80):=by kernel_rfl
theorem toIntS_any (v:Value) (zs:List Int) (w:World) (hv:IntsAt w v zs) (hn:zs.length≤1048576) :
  Calls Tryz.prog 69 #[v] w fun e w'=>∃ v',e=.returned v'∧Rw w' w.heap.size v' zs∧Below w.heap.size w w':=by
 obtain ⟨a,cap,rfl,hc,hat⟩:=hv
 obtain ⟨i0,hi,hz0,hz1,hz2⟩:=info_parts infoInt
 go_enter Tryz.func69,Tryz.ntmps69
 go_wp2_with (at_make;refine wpList_make_full _ rfl _ _ _ rfl w.heap.size 3 i0 _ 1 Tryz.underlying40 hi hz0 hz1 _ _ _ _ zs.length rfl rfl rfl rfl (by rw [hz2];omega) (by unfold maxLen;omega) (Nat.le_refl _) ?_;intro w1 hown hgr)
 have hz:=made_flat (f:=iCell) (0:Int) zs.length (sz:=1) (by omega) rfl
 have hown0:w1.ownsRow w.heap.size 3 1 (Value.slice (some { block:=w.heap.size,off:=0 }) zs.length zs.length) zs.length ((zs.take 0 ++ List.replicate (zs.length - 0) 0).flatMap iCell):=by
  simp only [List.take_zero,List.nil_append,Nat.sub_zero];rw [← hz];exact hown
 have hlt:w.heap.size<w1.heap.size:=(hown.lt w.heap.size rfl).2
 have hb1:Below w.heap.size w w1:=(Below.refl _ _).grown hgr (Nat.le_refl _) (by simp)
 clear hown hz hgr
 go_loopw [4] (fun i wr=>∃ k:Nat,k≤zs.length∧i=.int .i64 k∧wr.ownsRow w.heap.size 3 1 (Value.slice (some { block:=w.heap.size,off:=0 }) zs.length zs.length) zs.length ((zs.take k ++ List.replicate (zs.length - k) 0).flatMap iCell)∧w.heap.size<wr.heap.size∧Below w.heap.size w wr) (fun i _=>zs.length - (intOf i).toNat)
 case atStart=>exact ⟨0,Nat.zero_le _,rfl,hown0,hlt,hb1⟩
 case round =>
  obtain ⟨k,hk,rfl,hown,hsz,hbel⟩:=hrel
  clear hown0 hlt hb1
  by_cases hlt:k<zs.length
  ·obtain ⟨b,o,rfl,_,c0⟩:=hat k hlt
   rw [Nat.mul_one] at c0
   replace c0:=cell_keep hbel c0
   have hll:(zs.take k ++ List.replicate (zs.length - k) 0).length=zs.length:=by simp;omega
   have d0:=owns_cell iCell_len hown k 0 (by rw [hll];exact hlt) (by omega)
   have f0:=hown.frozenAt (k * 1)
   simp only [iCell,Nat.mul_one,Nat.add_zero,List.getElem?_cons_zero] at d0 f0
   have hown3:=owns_set iCell_len hown k 0 _ (by rw [hll];exact hlt) (by omega) rfl (.int .i64 zs[k]) zs[k] rfl
   rw [take_set zs 0 k hlt,Nat.mul_one,Nat.add_zero] at hown3
   clear hat
   go_wp2_with fail
   go_roundw
   case rel=>exact ⟨k+1,by omega,by go_num,hown3,by simp;omega,hbel.setCell (Nat.le_refl _) _⟩
   case measure=>simp [intOf];omega
  ·go_wp2
   go_ret
   have hkk:k=zs.length:=by omega
   subst hkk
   refine ⟨_,rfl,?_,hbel⟩
   simpa [Rw] using hown
theorem Rw.slice {w:World} {B:Nat} {v:Value} {xs:List Int} (h:Rw w B v xs):∃ a c,v=.slice a xs.length c:=h.at.slice
theorem toEdge_any (e:EdI) (vi vo:Value) (w:World) (hi:IntsAt w vi e.ins) (ho:IntsAt w vo e.outs) (hok:EdOk e) :
  Calls Tryz.prog 141 #[.agg #[.int .i64 e.kind,.int .i64 e.value,vi,vo]] w fun r w'=>∃ vi' vo',r=.returned (.agg #[.int .i64 e.kind,.int .i64 e.value,vi',vo'])∧Rw w' w.heap.size vi' e.ins∧Rw w' w.heap.size vo' e.outs∧Below w.heap.size w w':=by
 obtain ⟨a1,q1,rfl⟩:=hi.slice
 obtain ⟨a2,q2,rfl⟩:=ho.slice
 go_enter Tryz.func141,Tryz.ntmps141
 go_wp2_with fail
 have kI:=((Bk.new w 187 #[.int .i64 e.kind,.int .i64 e.value,.slice a1 e.ins.length q1,.slice a2 e.outs.length q2]).alloc (.cells #[.int .i64 0,.int .i64 0,.slice none 0 0,.slice none 0 0] 189)).alloc (.cells #[.int .i64 e.kind,.int .i64 e.value,.slice none 0 0,.slice none 0 0] 189)
 have kR:=(Bk.new (w.alloc (.cells #[.int .i64 e.kind,.int .i64 e.value,.slice a1 e.ins.length q1,.slice a2 e.outs.length q2] 187)) 189 #[.int .i64 0,.int .i64 0,.slice none 0 0,.slice none 0 0]).alloc (.cells #[.int .i64 e.kind,.int .i64 e.value,.slice none 0 0,.slice none 0 0] 189)
 have kO:=Bk.new ((w.alloc (.cells #[.int .i64 e.kind,.int .i64 e.value,.slice a1 e.ins.length q1,.slice a2 e.outs.length q2] 187)).alloc (.cells #[.int .i64 0,.int .i64 0,.slice none 0 0,.slice none 0 0] 189)) 189 #[.int .i64 e.kind,.int .i64 e.value,.slice none 0 0,.slice none 0 0]
 have hB:=((alloc_below w (.cells #[.int .i64 e.kind,.int .i64 e.value,.slice a1 e.ins.length q1,.slice a2 e.outs.length q2] 187)).alloc (by simp) (.cells #[.int .i64 0,.int .i64 0,.slice none 0 0,.slice none 0 0] 189)).alloc (by simp;omega) (.cells #[.int .i64 e.kind,.int .i64 e.value,.slice none 0 0,.slice none 0 0] 189)
 have hz:w.heap.size+1+1<(((w.alloc (.cells #[.int .i64 e.kind,.int .i64 e.value,.slice a1 e.ins.length q1,.slice a2 e.outs.length q2] 187)).alloc (.cells #[.int .i64 0,.int .i64 0,.slice none 0 0,.slice none 0 0] 189)).alloc (.cells #[.int .i64 e.kind,.int .i64 e.value,.slice none 0 0,.slice none 0 0] 189)).heap.size:=by simp
 simp only [World.size_alloc] at kR kO
 generalize (((w.alloc (.cells #[.int .i64 e.kind,.int .i64 e.value,.slice a1 e.ins.length q1,.slice a2 e.outs.length q2] 187)).alloc (.cells #[.int .i64 0,.int .i64 0,.slice none 0 0,.slice none 0 0] 189)).alloc (.cells #[.int .i64 e.kind,.int .i64 e.value,.slice none 0 0,.slice none 0 0] 189))=u0 at *
 refine (toIntS_any _ e.ins _ (hi.keep hB) hok.inn).mono ?_
 rintro r u1 ⟨v1,rfl,hr1,hb1⟩
 obtain ⟨b1,s1,rfl⟩:=hr1.slice
 replace kI:=kI.keep hb1
 replace kR:=kR.keep hb1
 replace kO:=kO.keep hb1
 replace hB:=hB.trans (hb1.mono hB.size)
 obtain ⟨iI,-,zI⟩:=kI.cell
 obtain ⟨iO,fO,zO⟩:=kO.cell
 go_wp2_with fail
 replace kI:=kI.other ⟨w.heap.size+1+1,2,none⟩ (.slice b1 e.ins.length s1) (by simp;omega)
 replace kR:=kR.other ⟨w.heap.size+1+1,2,none⟩ (.slice b1 e.ins.length s1) (by simp)
 replace kO:=kO.set 2 (.slice b1 e.ins.length s1)
 replace hB:Below w.heap.size w (u1.setCell ⟨w.heap.size+1+1,2,none⟩ (.slice b1 e.ins.length s1)):=hB.setCell (by simp;omega) _
 have hr1':Rw (u1.setCell ⟨w.heap.size+1+1,2,none⟩ (.slice b1 e.ins.length s1)) (w.heap.size+1+1+1) (.slice b1 e.ins.length s1) e.ins:=(hr1.other _ _ hz).mono (by omega)
 have hz1:w.heap.size+1+1<(u1.setCell ⟨w.heap.size+1+1,2,none⟩ (.slice b1 e.ins.length s1)).heap.size:=by simpa using zO
 clear iI zI iO fO zO hr1 hb1 hz
 generalize (u1.setCell ⟨w.heap.size+1+1,2,none⟩ (.slice b1 e.ins.length s1))=u2 at *
 refine (toIntS_any _ e.outs _ (ho.keep hB) hok.out).mono ?_
 rintro r u3 ⟨v2,rfl,hr2,hb2⟩
 obtain ⟨b2,s2,rfl⟩:=hr2.slice
 replace kR:=kR.keep hb2
 replace kO:=kO.keep hb2
 replace hB:=hB.trans (hb2.mono hB.size)
 replace hr1':=hr1'.keep hb2
 obtain ⟨iO,fO,zO⟩:=kO.cell
 obtain ⟨iR,fR,zR⟩:=kR.cell
 go_wp2_with fail
 have hr2':=hr2.mono (B':=w.heap.size+1+1+1) (by omega)
 refine bodyPost_ret (v:=.agg #[.int .i64 e.kind,.int .i64 e.value,.slice b1 e.ins.length s1,.slice b2 e.outs.length s2]) (by simp [results,Tryz.results141,go_sem,iR]) rfl ⟨_,_,rfl,?_,?_,?_⟩
 ·exact (((((hr1'.other _ _ (by simp)).other _ _ (by simp only [];omega)).other _ _ (by simp only [];omega)).other _ _ (by simp only [];omega)).other _ _ (by simp only [];omega)).mono (by omega)
 ·exact (((((hr2'.other _ _ (by simp)).other _ _ (by simp only [];omega)).other _ _ (by simp only [];omega)).other _ _ (by simp only [];omega)).other _ _ (by simp only [];omega)).mono (by omega)
 ·exact ((((hB.setCell (by simp;omega) _).setCell (by simp) _).setCell (by simp) _).setCell (by simp) _).setCell (by simp) _
structure To4 {β:Type} (e:Nat) (f:β → List Value) (z:β) (ok:World → Nat → β → Prop) (w wr:World) (g n:Nat) (ys:List β):Prop where
 row:wr.ownsRow g e 4 (.slice (some ⟨g,0,none⟩) n n) n ((ys ++ List.replicate (n - ys.length) z).flatMap f)
 els:∀ x ∈ ys,ok wr (g+1) x
 lt:g<wr.heap.size
 bel:Below g w wr
section
variable {β:Type} {e:Nat} {f:β → List Value} {z:β} {ok:World → Nat → β → Prop} (hf:∀ x,(f x).length=4)
theorem To4.start {w w1:World} {n:Nat} (hf:∀ x,(f x).length=4) (hown:w1.ownsRow w.heap.size e 4 (Value.slice (some ⟨w.heap.size,0,none⟩) n n) n (madeCells (f z).toArray (n * 4)).toList) (hgr:w.grownBy w1 none):To4 e f z ok w w1 w.heap.size n []:=by
 have hz:=made_flat (f:=f) z n (sz:=4) (by omega) (hf z)
 refine ⟨?_,by simp,(hown.lt w.heap.size rfl).2,(Below.refl _ _).grown hgr (Nat.le_refl _) (by simp)⟩
 simp only [List.nil_append,List.length_nil,Nat.sub_zero]
 rw [← hz]
 exact hown
theorem To4.old {w wr w2:World} {g n k:Nat} {ys:List β} (hf:∀ x,(f x).length=4) (h:To4 e f z ok w wr g n ys) (hk:ys.length=k) (hkn:k<n) (hb2:Below wr.heap.size wr w2) :
  (∀ j,j<4 → w2.cell? ⟨g,k * 4+j,none⟩=(f z)[j]?)∧(∀ o,w2.frozen? ⟨g,o,none⟩=false)∧g<w2.heap.size:=by
 subst hk
 have hr:=owns_keep hb2 h.row
 have hl:ys.length<(ys ++ List.replicate (n - ys.length) z).length:=by simp;omega
 refine ⟨fun j hj=>?_,fun o=>hr.frozenAt o,Nat.lt_of_lt_of_le h.lt hb2.size⟩
 have:=owns_cell hf hr ys.length j hl hj
 rw [this,List.getElem_append_right (Nat.le_refl _)]
 simp
theorem To4.step {w wr w2:World} {g n k:Nat} {ys:List β} (hf:∀ x,(f x).length=4)
  (kp:∀ {w w':World} {B:Nat} {x:β},Below w.heap.size w w' → ok w B x → ok w' B x) (lw:∀ {w:World} {B:Nat} {x:β} {a:Addr} {u:Value},a.block<B → ok w B x → ok (w.setCell a u) B x) (mn:∀ {w:World} {B B':Nat} {x:β},B'≤B → ok w B x → ok w B' x)
  (h:To4 e f z ok w wr g n ys) (hk:ys.length=k) (hkn:k<n) (hb2:Below wr.heap.size wr w2) (x:β) (hx:ok w2 wr.heap.size x) {a b c d:Value} (hy:f x=[a,b,c,d]) :
  To4 e f z ok w ((((w2.setCell ⟨g,k * 4,none⟩ a).setCell ⟨g,k * 4+1,none⟩ b).setCell ⟨g,k * 4+2,none⟩ c).setCell ⟨g,k * 4+3,none⟩ d) g n (ys ++ [x]):=by
 subst hk
 have hr:=owns_keep hb2 h.row
 have hsz:=hb2.size
 have hlt:=h.lt
 refine ⟨?_,?_,?_,?_⟩
 ·have:=set4 hf hr ys.length (by simp;omega) a b c d x hy
  have e:(ys ++ List.replicate (n - ys.length) z).set ys.length x=ys ++ [x] ++ List.replicate (n - (ys ++ [x]).length) z:=by
   rw [List.set_append_right _ _ (Nat.le_refl _),Nat.sub_self]
   obtain ⟨m,hm⟩:∃ m,n - ys.length=m+1:=⟨n - ys.length - 1,by omega⟩
   rw [hm,show n - (ys ++ [x]).length=m by simp;omega,List.replicate_succ,List.set_cons_zero,List.append_assoc]
   rfl
  rw [e] at this
  exact this
 ·intro y hy'
  have hl:∀ {y:β},ok w2 (g+1) y → ok ((((w2.setCell ⟨g,ys.length * 4,none⟩ a).setCell ⟨g,ys.length * 4+1,none⟩ b).setCell ⟨g,ys.length * 4+2,none⟩ c).setCell ⟨g,ys.length * 4+3,none⟩ d) (g+1) y:=fun h1 =>
   lw (Nat.lt_succ_self _) (lw (Nat.lt_succ_self _) (lw (Nat.lt_succ_self _) (lw (Nat.lt_succ_self _) h1)))
  rcases List.mem_append.1 hy' with h1|h1
  ·exact hl (kp hb2 (h.els y h1))
  ·simp only [List.mem_singleton] at h1
   subst h1
   exact hl (mn (by omega) hx)
 ·simp;omega
 ·exact (((((h.bel.trans (hb2.mono (by omega))).setCell (Nat.le_refl _) _).setCell (Nat.le_refl _) _).setCell (Nat.le_refl _) _).setCell (Nat.le_refl _) _)
end
def edz:EdI × Value × Value:=(⟨0,0,[],[]⟩,.slice none 0 0,.slice none 0 0)
def EdEl (w:World) (B:Nat) (x:EdI × Value × Value):Prop:=Rw w B x.2.1 x.1.ins∧Rw w B x.2.2 x.1.outs
theorem toEdgeS_any (v:Value) (L:List EdI) (w:World) (hv:EdsAt w v L) (hn:L.length≤1048576) (hs:∀ e ∈ L,EdOk e) :
  Calls Tryz.prog 68 #[v] w fun e w'=>∃ v',e=.returned v'∧EdsO w' w.heap.size v' L∧Below w.heap.size w w':=by
 obtain ⟨a,cap,rfl,hc,hat⟩:=hv
 obtain ⟨i0,hi,hz0,hz1,hz2⟩:=info_parts infoEdge
 go_enter Tryz.func68,Tryz.ntmps68
 go_wp2_with (at_make;refine wpList_make_full _ rfl _ _ _ rfl w.heap.size 189 i0 _ 4 Tryz.underlying51 hi hz0 hz1 _ _ _ _ L.length rfl rfl rfl rfl (by rw [hz2];omega) (by unfold maxLen;omega) (Nat.le_refl _) ?_;intro w1 hown hgr)
 have hst:To4 189 edCells edz EdEl w w1 w.heap.size L.length []:=To4.start edCells_len hown hgr
 clear hown hgr hi hz0 hz1 hz2
 go_loopw [4] (fun i wr=>∃ (k:Nat) (ys:List (EdI × Value × Value)),k≤L.length∧i=.int .i64 k∧ys.map Prod.fst=L.take k∧To4 189 edCells edz EdEl w wr w.heap.size L.length ys) (fun i _=>L.length - (intOf i).toNat)
 case atStart=>exact ⟨0,[],Nat.zero_le _,rfl,rfl,hst⟩
 case round =>
  clear hst
  obtain ⟨k,ys,hk,rfl,hfs,hst⟩:=hrel
  have hyl:ys.length=k:=by have:=congrArg List.length hfs;simpa [Nat.min_eq_left hk] using this
  by_cases hlt:k<L.length
  ·obtain ⟨b,o,rfl,_,hnd⟩:=hat k hlt
   have hsz0:=hst.lt
   obtain ⟨c0,c1,vi,vo,c2,c3,hvi,hvo⟩:=hnd.keep (hst.bel.mono (Nat.le_refl _))
   have hok:=hs L[k] (List.getElem_mem _)
   have hLt:L.take (k+1)=L.take k ++ [L[k]]:=List.take_succ_eq_append_getElem hlt
   have HY:=Lib.hid (And.intro hfs (And.intro hyl hLt))
   obtain ⟨a1,q1,rfl⟩:=hvi.slice
   obtain ⟨a2,q2,rfl⟩:=hvo.slice
   clear hat hnd hs hfs hyl hLt
   go_wp2_with (go_at_call 141;refine (toEdge_any L[k] _ _ _ hvi hvo hok).mono ?_;rintro r w2 ⟨u1,u2,rfl,hr1,hr2,hb2⟩;obtain ⟨d,hf2,hgz⟩:=hst.old edCells_len HY.out.2.1 hlt hb2;have d0:w2.cell? ⟨w.heap.size,k * 4,none⟩=some (.int .i64 0):=d 0 (by omega);have d1:w2.cell? ⟨w.heap.size,k * 4+1,none⟩=some (.int .i64 0):=d 1 (by omega);have d2:w2.cell? ⟨w.heap.size,k * 4+2,none⟩=some (.slice none 0 0):=d 2 (by omega);have d3:w2.cell? ⟨w.heap.size,k * 4+3,none⟩=some (.slice none 0 0):=d 3 (by omega);clear d;obtain ⟨b1,s1,rfl⟩:=hr1.slice;obtain ⟨b2,s2,rfl⟩:=hr2.slice)
   have hst2:=hst.step edCells_len (fun hb h=>⟨h.1.keep hb,h.2.keep hb⟩) (fun ha h=>⟨h.1.other _ _ ha,h.2.other _ _ ha⟩) (fun hB h=>⟨h.1.mono hB,h.2.mono hB⟩) HY.out.2.1 hlt hb2 (L[k],.slice b1 L[k].ins.length s1,.slice b2 L[k].outs.length s2) ⟨hr1,hr2⟩ rfl
   go_roundw
   case rel=>exact ⟨k+1,_,by omega,by go_num,by rw [List.map_append,HY.out.1,HY.out.2.2];rfl,hst2⟩
   case measure=>simp [intOf];omega
  ·obtain rfl:k=L.length:=by omega
   go_wp2
   go_ret
   rw [List.take_length] at hfs
   refine ⟨_,rfl,⟨ys,hfs,?_,fun x hx=>⟨(hst.els x hx).1.mono (by omega),(hst.els x hx).2.mono (by omega)⟩⟩,hst.bel⟩
   have:=hst.row
   rw [hyl] at this ⊢
   simpa using this
theorem EdsO.slice {w:World} {B:Nat} {v:Value} {xs:List EdI} (h:EdsO w B v xs):∃ a c,v=.slice a xs.length c:=h.at.slice
theorem toGraph_any (g:GrI) (ve vi vo:Value) (w:World) (hg:GrR w ve vi vo g) (hok:GrOk g) :
  Calls Tryz.prog 29 #[.agg #[.int .i64 g.wires,ve,vi,vo]] w fun r w'=>∃ ve' vi' vo',r=.returned (.agg #[.int .i64 g.wires,ve',vi',vo'])∧GrO w' w.heap.size ve' vi' vo' g∧Below w.heap.size w w':=by
 obtain ⟨⟨ae,ce,rfl⟩,⟨ai,ci,rfl⟩,ao,co,rfl⟩:=hg.slices
 go_enter Tryz.func29,Tryz.ntmps29
 go_wp2_with fail
 have kI:=((Bk.new w 42 #[.int .i64 g.wires,.slice ae g.edges.length ce,.slice ai g.ins.length ci,.slice ao g.outs.length co]).alloc (.cells #[.int .i64 0,.slice none 0 0,.slice none 0 0,.slice none 0 0] 53)).alloc (.cells #[.int .i64 g.wires,.slice none 0 0,.slice none 0 0,.slice none 0 0] 53)
 have kR:=(Bk.new (w.alloc (.cells #[.int .i64 g.wires,.slice ae g.edges.length ce,.slice ai g.ins.length ci,.slice ao g.outs.length co] 42)) 53 #[.int .i64 0,.slice none 0 0,.slice none 0 0,.slice none 0 0]).alloc (.cells #[.int .i64 g.wires,.slice none 0 0,.slice none 0 0,.slice none 0 0] 53)
 have kO:=Bk.new ((w.alloc (.cells #[.int .i64 g.wires,.slice ae g.edges.length ce,.slice ai g.ins.length ci,.slice ao g.outs.length co] 42)).alloc (.cells #[.int .i64 0,.slice none 0 0,.slice none 0 0,.slice none 0 0] 53)) 53 #[.int .i64 g.wires,.slice none 0 0,.slice none 0 0,.slice none 0 0]
 have hB:=((alloc_below w (.cells #[.int .i64 g.wires,.slice ae g.edges.length ce,.slice ai g.ins.length ci,.slice ao g.outs.length co] 42)).alloc (by simp) (.cells #[.int .i64 0,.slice none 0 0,.slice none 0 0,.slice none 0 0] 53)).alloc (by simp;omega) (.cells #[.int .i64 g.wires,.slice none 0 0,.slice none 0 0,.slice none 0 0] 53)
 have hz:w.heap.size+1+1<(((w.alloc (.cells #[.int .i64 g.wires,.slice ae g.edges.length ce,.slice ai g.ins.length ci,.slice ao g.outs.length co] 42)).alloc (.cells #[.int .i64 0,.slice none 0 0,.slice none 0 0,.slice none 0 0] 53)).alloc (.cells #[.int .i64 g.wires,.slice none 0 0,.slice none 0 0,.slice none 0 0] 53)).heap.size:=by simp
 simp only [World.size_alloc] at kR kO
 generalize (((w.alloc (.cells #[.int .i64 g.wires,.slice ae g.edges.length ce,.slice ai g.ins.length ci,.slice ao g.outs.length co] 42)).alloc (.cells #[.int .i64 0,.slice none 0 0,.slice none 0 0,.slice none 0 0] 53)).alloc (.cells #[.int .i64 g.wires,.slice none 0 0,.slice none 0 0,.slice none 0 0] 53))=u0 at *
 refine (toEdgeS_any _ g.edges _ (hg.ed.keep hB) hok.ed hok.eds).mono ?_
 rintro r u1 ⟨v1,rfl,hr1,hb1⟩
 obtain ⟨b1,s1,rfl⟩:=hr1.slice
 replace kI:=kI.keep hb1
 replace kR:=kR.keep hb1
 replace kO:=kO.keep hb1
 replace hB:=hB.trans (hb1.mono hB.size)
 obtain ⟨iI,-,zI⟩:=kI.cell
 obtain ⟨iO,fO,zO⟩:=kO.cell
 go_wp2_with fail
 replace kI:=kI.other ⟨w.heap.size+1+1,1,none⟩ (.slice b1 g.edges.length s1) (by simp;omega)
 replace kR:=kR.other ⟨w.heap.size+1+1,1,none⟩ (.slice b1 g.edges.length s1) (by simp)
 replace kO:=kO.set 1 (.slice b1 g.edges.length s1)
 replace hB:Below w.heap.size w (u1.setCell ⟨w.heap.size+1+1,1,none⟩ (.slice b1 g.edges.length s1)):=hB.setCell (by simp;omega) _
 have hr1':EdsO (u1.setCell ⟨w.heap.size+1+1,1,none⟩ (.slice b1 g.edges.length s1)) (w.heap.size+1+1+1) (.slice b1 g.edges.length s1) g.edges:=(hr1.low hz _).mono (by omega)
 have hz1:w.heap.size+1+1<(u1.setCell ⟨w.heap.size+1+1,1,none⟩ (.slice b1 g.edges.length s1)).heap.size:=by simpa using zO
 clear iI zI iO fO zO hr1 hb1 hz
 generalize (u1.setCell ⟨w.heap.size+1+1,1,none⟩ (.slice b1 g.edges.length s1))=u2 at *
 refine (toIntS_any _ g.ins _ (hg.inn.keep hB) hok.inn).mono ?_
 rintro r u3 ⟨v2,rfl,hr2,hb2⟩
 obtain ⟨b2,s2,rfl⟩:=hr2.slice
 replace kI:=kI.keep hb2
 replace kR:=kR.keep hb2
 replace kO:=kO.keep hb2
 replace hr1':=hr1'.keep hb2
 replace hB:=hB.trans (hb2.mono hB.size)
 obtain ⟨iI,-,zI⟩:=kI.cell
 obtain ⟨iO,fO,zO⟩:=kO.cell
 go_wp2_with fail
 replace kI:=kI.other ⟨w.heap.size+1+1,2,none⟩ (.slice b2 g.ins.length s2) (by simp;omega)
 replace kR:=kR.other ⟨w.heap.size+1+1,2,none⟩ (.slice b2 g.ins.length s2) (by simp)
 replace kO:=kO.set 2 (.slice b2 g.ins.length s2)
 replace hB:Below w.heap.size w (u3.setCell ⟨w.heap.size+1+1,2,none⟩ (.slice b2 g.ins.length s2)):=hB.setCell (by simp;omega) _
 have hr2':Rw (u3.setCell ⟨w.heap.size+1+1,2,none⟩ (.slice b2 g.ins.length s2)) (w.heap.size+1+1+1) (.slice b2 g.ins.length s2) g.ins:=(hr2.other _ _ hz1).mono (by omega)
 replace hr1':EdsO (u3.setCell ⟨w.heap.size+1+1,2,none⟩ (.slice b2 g.ins.length s2)) _ _ _:=hr1'.low (by simp) _
 have hz2:w.heap.size+1+1<(u3.setCell ⟨w.heap.size+1+1,2,none⟩ (.slice b2 g.ins.length s2)).heap.size:=by simpa using zO
 clear iI zI iO fO zO hr2 hb2 hz1
 generalize (u3.setCell ⟨w.heap.size+1+1,2,none⟩ (.slice b2 g.ins.length s2))=u4 at *
 refine (toIntS_any _ g.outs _ (hg.out.keep hB) hok.out).mono ?_
 rintro r u5 ⟨v3,rfl,hr3,hb3⟩
 obtain ⟨b3,s3,rfl⟩:=hr3.slice
 replace kR:=kR.keep hb3
 replace kO:=kO.keep hb3
 replace hB:=hB.trans (hb3.mono hB.size)
 replace hr1':=hr1'.keep hb3
 replace hr2':=hr2'.keep hb3
 obtain ⟨iO,fO,zO⟩:=kO.cell
 obtain ⟨iR,fR,zR⟩:=kR.cell
 go_wp2_with fail
 have hr3':=hr3.mono (B':=w.heap.size+1+1+1) (by omega)
 refine bodyPost_ret (v:=.agg #[.int .i64 g.wires,.slice b1 g.edges.length s1,.slice b2 g.ins.length s2,.slice b3 g.outs.length s3]) (by simp [results,Tryz.results29,go_sem,iR]) rfl ⟨_,_,_,rfl,⟨?_,?_,?_⟩,?_⟩
 ·exact ((((((hr1'.low (by simp) _).low (by simp only [];omega) _).low (by simp only [];omega) _).low (by simp only [];omega) _).low (by simp only [];omega) _)).mono (by omega)
 ·exact (((((hr2'.other _ _ (by simp)).other _ _ (by simp only [];omega)).other _ _ (by simp only [];omega)).other _ _ (by simp only [];omega)).other _ _ (by simp only [];omega)).mono (by omega)
 ·exact (((((hr3'.other _ _ (by simp)).other _ _ (by simp only [];omega)).other _ _ (by simp only [];omega)).other _ _ (by simp only [];omega)).other _ _ (by simp only [];omega)).mono (by omega)
 ·exact ((((hB.setCell (by simp;omega) _).setCell (by simp) _).setCell (by simp) _).setCell (by simp) _).setCell (by simp) _
def grz:GrI × Value × Value × Value:=(⟨0,[],[],[]⟩,.slice none 0 0,.slice none 0 0,.slice none 0 0)
def GrEl (w:World) (B:Nat) (x:GrI × Value × Value × Value):Prop:=GrO w B x.2.1 x.2.2.1 x.2.2.2 x.1
theorem GrO.slices {w:World} {B:Nat} {ve vi vo:Value} {g:GrI} (h:GrO w B ve vi vo g):(∃ a c,ve=.slice a g.edges.length c)∧(∃ a c,vi=.slice a g.ins.length c)∧∃ a c,vo=.slice a g.outs.length c:=h.at.slices
theorem toGraphS_any (v:Value) (L:List GrI) (w:World) (hv:GrsAt w v L) (hn:L.length≤1048576) (hs:∀ e ∈ L,GrOk e) :
  Calls Tryz.prog 58 #[v] w fun e w'=>∃ v',e=.returned v'∧GrsO w' w.heap.size v' L∧Below w.heap.size w w':=by
 obtain ⟨a,cap,rfl,hc,hat⟩:=hv
 obtain ⟨i0,hi,hz0,hz1,hz2⟩:=info_parts infoGraph
 go_enter Tryz.func58,Tryz.ntmps58
 go_wp2_with (at_make;refine wpList_make_full _ rfl _ _ _ rfl w.heap.size 53 i0 _ 4 Tryz.underlying50 hi hz0 hz1 _ _ _ _ L.length rfl rfl rfl rfl (by rw [hz2];omega) (by unfold maxLen;omega) (Nat.le_refl _) ?_;intro w1 hown hgr)
 have hst:To4 53 grCells grz GrEl w w1 w.heap.size L.length []:=To4.start grCells_len hown hgr
 clear hown hgr hi hz0 hz1 hz2
 go_loopw [4] (fun i wr=>∃ (k:Nat) (ys:List (GrI × Value × Value × Value)),k≤L.length∧i=.int .i64 k∧ys.map Prod.fst=L.take k∧To4 53 grCells grz GrEl w wr w.heap.size L.length ys) (fun i _=>L.length - (intOf i).toNat)
 case atStart=>exact ⟨0,[],Nat.zero_le _,rfl,rfl,hst⟩
 case round =>
  clear hst
  obtain ⟨k,ys,hk,rfl,hfs,hst⟩:=hrel
  have hyl:ys.length=k:=by have:=congrArg List.length hfs;simpa [Nat.min_eq_left hk] using this
  by_cases hlt:k<L.length
  ·obtain ⟨b,o,rfl,_,hnd⟩:=hat k hlt
   have hsz0:=hst.lt
   obtain ⟨c0,ve,vi,vo,c1,c2,c3,hg⟩:=hnd.keep (hst.bel.mono (Nat.le_refl _))
   have hok:=hs L[k] (List.getElem_mem _)
   have hLt:L.take (k+1)=L.take k ++ [L[k]]:=List.take_succ_eq_append_getElem hlt
   have HY:=Lib.hid (And.intro hfs (And.intro hyl hLt))
   obtain ⟨⟨ae,ce,rfl⟩,⟨ai,ci,rfl⟩,ao,co,rfl⟩:=hg.slices
   clear hat hnd hs hfs hyl hLt
   go_wp2_with (go_at_call 29;refine (toGraph_any L[k] _ _ _ _ hg hok).mono ?_;rintro r w2 ⟨u0,u1,u2,rfl,hr1,hb2⟩;obtain ⟨d,hf2,hgz⟩:=hst.old grCells_len HY.out.2.1 hlt hb2;have d0:w2.cell? ⟨w.heap.size,k * 4,none⟩=some (.int .i64 0):=d 0 (by omega);have d1:w2.cell? ⟨w.heap.size,k * 4+1,none⟩=some (.slice none 0 0):=d 1 (by omega);have d2:w2.cell? ⟨w.heap.size,k * 4+2,none⟩=some (.slice none 0 0):=d 2 (by omega);have d3:w2.cell? ⟨w.heap.size,k * 4+3,none⟩=some (.slice none 0 0):=d 3 (by omega);clear d;obtain ⟨⟨b0,s0,rfl⟩,⟨b1,s1,rfl⟩,b2,s2,rfl⟩:=hr1.slices)
   have hst2:=To4.step (ok:=GrEl) grCells_len (fun hb h=>GrO.keep hb h) (fun ha h=>GrO.low h ha _) (fun hB h=>GrO.mono hB h) hst HY.out.2.1 hlt hb2 (L[k],.slice b0 L[k].edges.length s0,.slice b1 L[k].ins.length s1,.slice b2 L[k].outs.length s2) hr1 rfl
   go_roundw
   case rel=>exact ⟨k+1,_,by omega,by go_num,by rw [List.map_append,HY.out.1,HY.out.2.2];rfl,hst2⟩
   case measure=>simp [intOf];omega
  ·obtain rfl:k=L.length:=by omega
   go_wp2
   go_ret
   rw [List.take_length] at hfs
   refine ⟨_,rfl,⟨ys,hfs,?_,fun x hx=>(hst.els x hx).mono (by omega)⟩,hst.bel⟩
   have:=hst.row
   rw [hyl] at this ⊢
   simpa using this
end Go.Proofs.YtbljmfcifljkaaaGreatDoor
/-
  The laws' comparisons of edges, graphs and sessions that are equal. Own work.
-/
namespace Go.Proofs.YtbljmfcifljkaaaGreatDoor
open Go.RowKit
set_option maxRecDepth 100000
set_option maxHeartbeats 2000000
theorem eqIntS_same (v v':Value) (a:List Int) (w:World) (hv:IntsAt w v a) (hv':IntsAt w v' a) (hn:a.length≤1048576) :
  Calls Tryz.prog 74 #[v,v'] w (FlP true w):=by
 obtain ⟨p,cap,rfl,hc,hat⟩:=hv
 obtain ⟨p',cap',rfl,hc',hat'⟩:=hv'
 have hl1:((a.length:Int) != a.length)=false:=by simp
 go_enter Tryz.func74,Tryz.ntmps74
 go_wp2
 go_loopw [5] (fun i wr=>∃ k:Nat,k≤a.length∧i=.int .i64 k∧Below w.heap.size w wr) (fun i _=>a.length - (intOf i).toNat)
 case atStart=>exact ⟨0,Nat.zero_le _,rfl,Below.refl _ _⟩
 case round =>
  obtain ⟨k,hk,rfl,hbel⟩:=hrel
  by_cases hlt:k<a.length
  ·obtain ⟨g,o,rfl,_,c0⟩:=hat k hlt
   obtain ⟨g',o',rfl,_,d0⟩:=hat' k hlt
   rw [Nat.mul_one] at c0 d0
   replace c0:=cell_keep hbel c0
   replace d0:=cell_keep hbel d0
   obtain ⟨z,hz⟩:∃ z,a[k]=z:=⟨_,rfl⟩
   rw [hz] at c0 d0
   have hzz:(z != z)=false:=by simp
   clear hat hat' hz
   go_wp2_with fail
   go_still_tail 8,(by kernel_rfl)
   go_wp2_with fail
   have hs:=hbel.drew.size
   go_roundw
   case rel=>exact ⟨k+1,by omega,by go_num,hbel.drew⟩
   case measure=>simp [intOf];omega
  ·go_wp2
   go_ret
   exact ⟨rfl,hbel⟩
theorem eqEdge_same (k v:Int) (vi vo vi' vo':Value) (e:EdI) (w:World) (hi:IntsAt w vi e.ins) (ho:IntsAt w vo e.outs) (hi':IntsAt w vi' e.ins) (ho':IntsAt w vo' e.outs) (hok:EdOk e) :
  Calls Tryz.prog 155 #[.agg #[.int .i64 k,.int .i64 v,vi,vo],.agg #[.int .i64 k,.int .i64 v,vi',vo']] w (FlP true w):=by
 obtain ⟨a1,q1,rfl⟩:=hi.slice
 obtain ⟨a2,q2,rfl⟩:=ho.slice
 obtain ⟨a3,q3,rfl⟩:=hi'.slice
 obtain ⟨a4,q4,rfl⟩:=ho'.slice
 have hA:∀ x y,Below w.heap.size w ((w.alloc x).alloc y):=fun x y=>(alloc_below _ _).alloc (by simp) _
 have hk:(k != k)=false:=by simp
 have hv:(v != v)=false:=by simp
 go_enter Tryz.func155,Tryz.ntmps155
 go_wp2_with fail
 refine (eqIntS_same _ _ e.ins _ (hi.keep (hA _ _)) (hi'.keep (hA _ _)) hok.inn).mono ?_
 rintro r w1 ⟨rfl,hb1⟩
 have hB1:=(hA (.cells #[.int .i64 k,.int .i64 v,.slice a1 e.ins.length q1,.slice a2 e.outs.length q2] 189) (.cells #[.int .i64 k,.int .i64 v,.slice a3 e.ins.length q3,.slice a4 e.outs.length q4] 189)).trans (hb1.mono (by simp;omega))
 have c0:=hb1.cell (p:=⟨w.heap.size,3,none⟩) (by simp;omega)
 have c1:=hb1.cell (p:=⟨w.heap.size+1,3,none⟩) (by simp)
 simp [go_sem] at c0 c1
 have z0:=cell_lt c0
 have z1:=cell_lt c1
 go_wp2_with fail
 refine (eqIntS_same _ _ e.outs _ (ho.keep hB1) (ho'.keep hB1) hok.out).mono ?_
 rintro r w2 ⟨rfl,hb2⟩
 go_wp2
 go_ret
 exact ⟨rfl,hB1.trans (hb2.mono hB1.size)⟩
theorem eqEdgeS_same (v v':Value) (a:List EdI) (w:World) (hv:EdsAt w v a) (hv':EdsAt w v' a) (hn:a.length≤1048576) (hs:∀ e ∈ a,EdOk e) :
  Calls Tryz.prog 73 #[v,v'] w (FlP true w):=by
 obtain ⟨p,cap,rfl,hc,hat⟩:=hv
 obtain ⟨p',cap',rfl,hc',hat'⟩:=hv'
 have hl1:((a.length:Int) != a.length)=false:=by simp
 go_enter Tryz.func73,Tryz.ntmps73
 go_wp2
 go_loopw [5] (fun i wr=>∃ k:Nat,k≤a.length∧i=.int .i64 k∧Below w.heap.size w wr) (fun i _=>a.length - (intOf i).toNat)
 case atStart=>exact ⟨0,Nat.zero_le _,rfl,Below.refl _ _⟩
 case round =>
  obtain ⟨k,hk,rfl,hbel⟩:=hrel
  by_cases hlt:k<a.length
  ·obtain ⟨g,o,rfl,_,hnd⟩:=hat k hlt
   obtain ⟨g',o',rfl,_,hnd'⟩:=hat' k hlt
   obtain ⟨c0,c1,vi,vo,c2,c3,hi,ho⟩:=hnd.keep hbel
   obtain ⟨d0,d1,vi',vo',d2,d3,hi',ho'⟩:=hnd'.keep hbel
   have hok:=hs a[k] (List.getElem_mem _)
   obtain ⟨a1,q1,rfl⟩:=hi.slice
   obtain ⟨a2,q2,rfl⟩:=ho.slice
   obtain ⟨a3,q3,rfl⟩:=hi'.slice
   obtain ⟨a4,q4,rfl⟩:=ho'.slice
   clear hat hat' hnd hnd' hs
   go_wp2_with fail
   go_still_tail 8,(by kernel_rfl)
   go_wp2_with (go_at_call 155;refine (eqEdge_same _ _ _ _ _ _ a[k] wr.drew hi ho hi' ho' hok).mono ?_;rintro e w2 ⟨rfl,hb2⟩)
   have hs:=hbel.drew.size
   go_roundw
   case rel=>exact ⟨k+1,by omega,by go_num,hbel.drew.trans (hb2.mono (by omega))⟩
   case measure=>simp [intOf];omega
  ·go_wp2
   go_ret
   exact ⟨rfl,hbel⟩
theorem eqGraph_same (n:Int) (ve vi vo ve' vi' vo':Value) (g:GrI) (w:World) (h:GrR w ve vi vo g) (h':GrR w ve' vi' vo' g) (hok:GrOk g) :
  Calls Tryz.prog 32 #[.agg #[.int .i64 n,ve,vi,vo],.agg #[.int .i64 n,ve',vi',vo']] w (FlP true w):=by
 obtain ⟨⟨a0,q0,rfl⟩,⟨a1,q1,rfl⟩,a2,q2,rfl⟩:=h.slices
 obtain ⟨⟨b0,r0,rfl⟩,⟨b1,r1,rfl⟩,b2,r2,rfl⟩:=h'.slices
 have hA:∀ x y,Below w.heap.size w ((w.alloc x).alloc y):=fun x y=>(alloc_below _ _).alloc (by simp) _
 have hk:(n != n)=false:=by simp
 go_enter Tryz.func32,Tryz.ntmps32
 go_wp2_with fail
 refine (eqEdgeS_same _ _ g.edges _ (h.ed.keep (hA _ _)) (h'.ed.keep (hA _ _)) hok.ed hok.eds).mono ?_
 rintro r w1 ⟨rfl,hb1⟩
 have hB1:=(hA (.cells #[.int .i64 n,.slice a0 g.edges.length q0,.slice a1 g.ins.length q1,.slice a2 g.outs.length q2] 53) (.cells #[.int .i64 n,.slice b0 g.edges.length r0,.slice b1 g.ins.length r1,.slice b2 g.outs.length r2] 53)).trans (hb1.mono (by simp;omega))
 have c0:=hb1.cell (p:=⟨w.heap.size,2,none⟩) (by simp;omega)
 have c1:=hb1.cell (p:=⟨w.heap.size+1,2,none⟩) (by simp)
 have d0:=hb1.cell (p:=⟨w.heap.size,3,none⟩) (by simp;omega)
 have d1:=hb1.cell (p:=⟨w.heap.size+1,3,none⟩) (by simp)
 simp [go_sem] at c0 c1 d0 d1
 have z0:=cell_lt c0
 have z1:=cell_lt c1
 go_wp2_with fail
 refine (eqIntS_same _ _ g.ins _ (h.inn.keep hB1) (h'.inn.keep hB1) hok.inn).mono ?_
 rintro r w2 ⟨rfl,hb2⟩
 have hB2:=hB1.trans (hb2.mono hB1.size)
 replace d0:=cell_keep hb2 d0
 replace d1:=cell_keep hb2 d1
 have y0:=cell_lt d0
 have y1:=cell_lt d1
 go_wp2_with fail
 refine (eqIntS_same _ _ g.outs _ (h.out.keep hB2) (h'.out.keep hB2) hok.out).mono ?_
 rintro r w3 ⟨rfl,hb3⟩
 go_wp2
 go_ret
 exact ⟨rfl,hB2.trans (hb3.mono hB2.size)⟩
theorem eqGraphS_same (v v':Value) (a:List GrI) (w:World) (hv:GrsAt w v a) (hv':GrsAt w v' a) (hn:a.length≤1048576) (hs:∀ g ∈ a,GrOk g) :
  Calls Tryz.prog 61 #[v,v'] w (FlP true w):=by
 obtain ⟨p,cap,rfl,hc,hat⟩:=hv
 obtain ⟨p',cap',rfl,hc',hat'⟩:=hv'
 have hl1:((a.length:Int) != a.length)=false:=by simp
 go_enter Tryz.func61,Tryz.ntmps61
 go_wp2
 go_loopw [5] (fun i wr=>∃ k:Nat,k≤a.length∧i=.int .i64 k∧Below w.heap.size w wr) (fun i _=>a.length - (intOf i).toNat)
 case atStart=>exact ⟨0,Nat.zero_le _,rfl,Below.refl _ _⟩
 case round =>
  obtain ⟨k,hk,rfl,hbel⟩:=hrel
  by_cases hlt:k<a.length
  ·obtain ⟨g,o,rfl,_,hnd⟩:=hat k hlt
   obtain ⟨g',o',rfl,_,hnd'⟩:=hat' k hlt
   obtain ⟨c0,ve,vi,vo,c1,c2,c3,h⟩:=hnd.keep hbel
   obtain ⟨d0,ve',vi',vo',d1,d2,d3,h'⟩:=hnd'.keep hbel
   have hok:=hs a[k] (List.getElem_mem _)
   obtain ⟨⟨a0,q0,rfl⟩,⟨a1,q1,rfl⟩,a2,q2,rfl⟩:=h.slices
   obtain ⟨⟨b0,r0,rfl⟩,⟨b1,r1,rfl⟩,b2,r2,rfl⟩:=h'.slices
   clear hat hat' hnd hnd' hs
   go_wp2_with fail
   go_still_tail 8,(by kernel_rfl)
   go_wp2_with (go_at_call 32;refine (eqGraph_same _ _ _ _ _ _ _ a[k] wr.drew (h.keep (Below.refl _ _).drew) (h'.keep (Below.refl _ _).drew) hok).mono ?_;rintro e w2 ⟨rfl,hb2⟩)
   have hs:=hbel.drew.size
   go_roundw
   case rel=>exact ⟨k+1,by omega,by go_num,hbel.drew.trans (hb2.mono (by omega))⟩
   case measure=>simp [intOf];omega
  ·go_wp2
   go_ret
   exact ⟨rfl,hbel⟩
end Go.Proofs.YtbljmfcifljkaaaGreatDoor
/-
  Sessions in the laws: size, copy, comparison. Own work.
-/
namespace Go.Proofs.YtbljmfcifljkaaaGreatDoor
open Go.RowKit
set_option maxRecDepth 100000
set_option maxHeartbeats 4000000
theorem SnR.slices {w:World} {vp ne ni no vf ge gi go:Value} {s:SnI} (h:SnR w vp ne ni no vf ge gi go s) :
  (∃ a c,vp=.slice a s.past.length c)∧((∃ a c,ne=.slice a s.now.edges.length c)∧(∃ a c,ni=.slice a s.now.ins.length c)∧∃ a c,no=.slice a s.now.outs.length c) ∧
   (∃ a c,vf=.slice a s.future.length c)∧(∃ a c,ge=.slice a s.goal.edges.length c)∧(∃ a c,gi=.slice a s.goal.ins.length c)∧∃ a c,go=.slice a s.goal.outs.length c :=
 ⟨h.past.slice,h.now.slices,h.future.slice,h.goal.slices⟩
theorem szSession_any (s:SnI) (vp ne ni no vf ge gi go:Value) (left:Int) (w:World) (h:SnR w vp ne ni no vf ge gi go s) (hok:SnOk s) (h0:0≤left) (h1:left≤1048576) :
  Calls Tryz.prog 18 #[snV s vp ne ni no vf ge gi go,.int .i64 left] w (SzPost left w):=by
 obtain ⟨⟨a1,c1,rfl⟩,⟨⟨a2,c2,rfl⟩,⟨a3,c3,rfl⟩,a4,c4,rfl⟩,⟨a5,c5,rfl⟩,⟨a6,c6,rfl⟩,⟨a7,c7,rfl⟩,a8,c8,rfl⟩:=h.slices
 unfold snV
 go_enter Tryz.func18,Tryz.ntmps18
 go_wp2_with fail
 have kI:=Bk.new w 44 #[.int .i64 s.p,.int .i64 s.k,.int .i64 s.l,.slice a1 s.past.length c1,.int .i64 s.now.wires,.slice a2 s.now.edges.length c2,.slice a3 s.now.ins.length c3,.slice a4 s.now.outs.length c4,.slice a5 s.future.length c5,.int .i64 s.goal.wires,.slice a6 s.goal.edges.length c6,.slice a7 s.goal.ins.length c7,.slice a8 s.goal.outs.length c8]
 have hB:=alloc_below w (.cells #[.int .i64 s.p,.int .i64 s.k,.int .i64 s.l,.slice a1 s.past.length c1,.int .i64 s.now.wires,.slice a2 s.now.edges.length c2,.slice a3 s.now.ins.length c3,.slice a4 s.now.outs.length c4,.slice a5 s.future.length c5,.int .i64 s.goal.wires,.slice a6 s.goal.edges.length c6,.slice a7 s.goal.ins.length c7,.slice a8 s.goal.outs.length c8] 44)
 generalize (w.alloc (.cells #[.int .i64 s.p,.int .i64 s.k,.int .i64 s.l,.slice a1 s.past.length c1,.int .i64 s.now.wires,.slice a2 s.now.edges.length c2,.slice a3 s.now.ins.length c3,.slice a4 s.now.outs.length c4,.slice a5 s.future.length c5,.int .i64 s.goal.wires,.slice a6 s.goal.edges.length c6,.slice a7 s.goal.ins.length c7,.slice a8 s.goal.outs.length c8] 44))=u0 at *
 refine (szGraphS_any _ s.past _ _ (h.past.keep hB) hok.past hok.np (by omega) (by omega)).mono ?_
 rintro r u1 ⟨r1,rfl,q0,q1,hb⟩
 replace hB:=hB.trans (hb.mono hB.size)
 replace kI:=kI.keep hb
 obtain ⟨iI,-,zI⟩:=kI.cell
 clear hb
 by_cases hneg:r1<0
 ·go_wp2
  go_ret
  exact ⟨_,rfl,by omega,by omega,hB⟩
 go_wp2_with fail
 refine (szGraph_any _ _ _ _ s.now _ _ (h.now.keep hB) hok.now (by omega) (by omega)).mono ?_
 clear iI zI
 rintro r u2 ⟨r2,rfl,q2,q3,hb⟩
 replace hB:=hB.trans (hb.mono hB.size)
 replace kI:=kI.keep hb
 obtain ⟨iI,-,zI⟩:=kI.cell
 clear hb
 by_cases hneg2:r2<0
 ·go_wp2
  go_ret
  exact ⟨_,rfl,by omega,by omega,hB⟩
 go_wp2_with fail
 refine (szGraphS_any _ s.future _ _ (h.future.keep hB) hok.future hok.nf (by omega) (by omega)).mono ?_
 clear iI zI
 rintro r u3 ⟨r3,rfl,q4,q5,hb⟩
 replace hB:=hB.trans (hb.mono hB.size)
 replace kI:=kI.keep hb
 obtain ⟨iI,-,zI⟩:=kI.cell
 clear hb
 by_cases hneg3:r3<0
 ·go_wp2
  go_ret
  exact ⟨_,rfl,by omega,by omega,hB⟩
 go_wp2_with fail
 refine (szGraph_any _ _ _ _ s.goal _ _ (h.goal.keep hB) hok.goal (by omega) (by omega)).mono ?_
 clear iI zI
 rintro r u4 ⟨r4,rfl,q6,q7,hb⟩
 replace hB:=hB.trans (hb.mono hB.size)
 go_wp2
 all_goals
  go_ret
  exact ⟨_,rfl,by omega,by omega,hB⟩
theorem eqSession_same (s:SnI) (vp ne ni no vf ge gi go vp' ne' ni' no' vf' ge' gi' go':Value) (w:World) (h:SnR w vp ne ni no vf ge gi go s) (h':SnR w vp' ne' ni' no' vf' ge' gi' go' s) (hok:SnOk s) :
  Calls Tryz.prog 23 #[snV s vp ne ni no vf ge gi go,snV s vp' ne' ni' no' vf' ge' gi' go'] w (FlP true w):=by
 obtain ⟨⟨a1,c1,rfl⟩,⟨⟨a2,c2,rfl⟩,⟨a3,c3,rfl⟩,a4,c4,rfl⟩,⟨a5,c5,rfl⟩,⟨a6,c6,rfl⟩,⟨a7,c7,rfl⟩,a8,c8,rfl⟩:=h.slices
 obtain ⟨⟨b1,d1,rfl⟩,⟨⟨b2,d2,rfl⟩,⟨b3,d3,rfl⟩,b4,d4,rfl⟩,⟨b5,d5,rfl⟩,⟨b6,d6,rfl⟩,⟨b7,d7,rfl⟩,b8,d8,rfl⟩:=h'.slices
 unfold snV
 have e1:(s.p != s.p)=false:=by simp
 have e2:(s.k != s.k)=false:=by simp
 have e3:(s.l != s.l)=false:=by simp
 go_enter Tryz.func23,Tryz.ntmps23
 go_wp2_with fail
 have kI:=(Bk.new w 55 #[.int .i64 s.p,.int .i64 s.k,.int .i64 s.l,.slice a1 s.past.length c1,.int .i64 s.now.wires,.slice a2 s.now.edges.length c2,.slice a3 s.now.ins.length c3,.slice a4 s.now.outs.length c4,.slice a5 s.future.length c5,.int .i64 s.goal.wires,.slice a6 s.goal.edges.length c6,.slice a7 s.goal.ins.length c7,.slice a8 s.goal.outs.length c8]).alloc (.cells #[.int .i64 s.p,.int .i64 s.k,.int .i64 s.l,.slice b1 s.past.length d1,.int .i64 s.now.wires,.slice b2 s.now.edges.length d2,.slice b3 s.now.ins.length d3,.slice b4 s.now.outs.length d4,.slice b5 s.future.length d5,.int .i64 s.goal.wires,.slice b6 s.goal.edges.length d6,.slice b7 s.goal.ins.length d7,.slice b8 s.goal.outs.length d8] 55)
 have kJ:=Bk.new (w.alloc (.cells #[.int .i64 s.p,.int .i64 s.k,.int .i64 s.l,.slice a1 s.past.length c1,.int .i64 s.now.wires,.slice a2 s.now.edges.length c2,.slice a3 s.now.ins.length c3,.slice a4 s.now.outs.length c4,.slice a5 s.future.length c5,.int .i64 s.goal.wires,.slice a6 s.goal.edges.length c6,.slice a7 s.goal.ins.length c7,.slice a8 s.goal.outs.length c8] 55)) 55 #[.int .i64 s.p,.int .i64 s.k,.int .i64 s.l,.slice b1 s.past.length d1,.int .i64 s.now.wires,.slice b2 s.now.edges.length d2,.slice b3 s.now.ins.length d3,.slice b4 s.now.outs.length d4,.slice b5 s.future.length d5,.int .i64 s.goal.wires,.slice b6 s.goal.edges.length d6,.slice b7 s.goal.ins.length d7,.slice b8 s.goal.outs.length d8]
 have hB:=(alloc_below w (.cells #[.int .i64 s.p,.int .i64 s.k,.int .i64 s.l,.slice a1 s.past.length c1,.int .i64 s.now.wires,.slice a2 s.now.edges.length c2,.slice a3 s.now.ins.length c3,.slice a4 s.now.outs.length c4,.slice a5 s.future.length c5,.int .i64 s.goal.wires,.slice a6 s.goal.edges.length c6,.slice a7 s.goal.ins.length c7,.slice a8 s.goal.outs.length c8] 55)).alloc (by simp) (.cells #[.int .i64 s.p,.int .i64 s.k,.int .i64 s.l,.slice b1 s.past.length d1,.int .i64 s.now.wires,.slice b2 s.now.edges.length d2,.slice b3 s.now.ins.length d3,.slice b4 s.now.outs.length d4,.slice b5 s.future.length d5,.int .i64 s.goal.wires,.slice b6 s.goal.edges.length d6,.slice b7 s.goal.ins.length d7,.slice b8 s.goal.outs.length d8] 55)
 simp only [World.size_alloc] at kJ
 generalize ((w.alloc (.cells #[.int .i64 s.p,.int .i64 s.k,.int .i64 s.l,.slice a1 s.past.length c1,.int .i64 s.now.wires,.slice a2 s.now.edges.length c2,.slice a3 s.now.ins.length c3,.slice a4 s.now.outs.length c4,.slice a5 s.future.length c5,.int .i64 s.goal.wires,.slice a6 s.goal.edges.length c6,.slice a7 s.goal.ins.length c7,.slice a8 s.goal.outs.length c8] 55)).alloc (.cells #[.int .i64 s.p,.int .i64 s.k,.int .i64 s.l,.slice b1 s.past.length d1,.int .i64 s.now.wires,.slice b2 s.now.edges.length d2,.slice b3 s.now.ins.length d3,.slice b4 s.now.outs.length d4,.slice b5 s.future.length d5,.int .i64 s.goal.wires,.slice b6 s.goal.edges.length d6,.slice b7 s.goal.ins.length d7,.slice b8 s.goal.outs.length d8] 55))=u0 at *
 refine (eqGraphS_same _ _ s.past _ (h.past.keep hB) (h'.past.keep hB) hok.np hok.past).mono ?_
 rintro r u1 ⟨rfl,hb⟩
 replace hB:=hB.trans (hb.mono hB.size)
 replace kI:=kI.keep hb
 replace kJ:=kJ.keep hb
 obtain ⟨iI,-,zI⟩:=kI.cell
 obtain ⟨iJ,-,zJ⟩:=kJ.cell
 clear hb
 go_wp2_with fail
 refine (eqGraph_same _ _ _ _ _ _ _ s.now _ (h.now.keep hB) (h'.now.keep hB) hok.now).mono ?_
 clear iI zI iJ zJ
 rintro r u2 ⟨rfl,hb⟩
 replace hB:=hB.trans (hb.mono hB.size)
 replace kI:=kI.keep hb
 replace kJ:=kJ.keep hb
 obtain ⟨iI,-,zI⟩:=kI.cell
 obtain ⟨iJ,-,zJ⟩:=kJ.cell
 clear hb
 go_wp2_with fail
 refine (eqGraphS_same _ _ s.future _ (h.future.keep hB) (h'.future.keep hB) hok.nf hok.future).mono ?_
 clear iI zI iJ zJ
 rintro r u3 ⟨rfl,hb⟩
 replace hB:=hB.trans (hb.mono hB.size)
 replace kI:=kI.keep hb
 replace kJ:=kJ.keep hb
 obtain ⟨iI,-,zI⟩:=kI.cell
 obtain ⟨iJ,-,zJ⟩:=kJ.cell
 clear hb
 go_wp2_with fail
 refine (eqGraph_same _ _ _ _ _ _ _ s.goal _ (h.goal.keep hB) (h'.goal.keep hB) hok.goal).mono ?_
 clear iI zI iJ zJ
 rintro r u4 ⟨rfl,hb⟩
 replace hB:=hB.trans (hb.mono hB.size)
 go_wp2
 go_ret
 exact ⟨rfl,hB⟩
end Go.Proofs.YtbljmfcifljkaaaGreatDoor
/-
  The laws' copy of a session. Own work.
-/
namespace Go.Proofs.YtbljmfcifljkaaaGreatDoor
open Go.RowKit
set_option maxRecDepth 100000
set_option maxHeartbeats 4000000
theorem GrsO.slice {w:World} {B:Nat} {v:Value} {xs:List GrI} (h:GrsO w B v xs):∃ a c,v=.slice a xs.length c:=h.at.slice
theorem toSession_any (s:SnI) (vp ne ni no vf ge gi go:Value) (w:World) (h:SnR w vp ne ni no vf ge gi go s) (hok:SnOk s) :
  Calls Tryz.prog 20 #[snV s vp ne ni no vf ge gi go] w fun r w'=>∃ vp' ne' ni' no' vf' ge' gi' go',r=.returned (snV s vp' ne' ni' no' vf' ge' gi' go')∧SnR w' vp' ne' ni' no' vf' ge' gi' go' s∧Below w.heap.size w w':=by
 obtain ⟨⟨a1,c1,rfl⟩,⟨⟨a2,c2,rfl⟩,⟨a3,c3,rfl⟩,a4,c4,rfl⟩,⟨a5,c5,rfl⟩,⟨a6,c6,rfl⟩,⟨a7,c7,rfl⟩,a8,c8,rfl⟩:=h.slices
 unfold snV
 go_enter Tryz.func20,Tryz.ntmps20
 go_wp2_with fail
 have kI:=((Bk.new w 44 #[.int .i64 s.p,.int .i64 s.k,.int .i64 s.l,.slice a1 s.past.length c1,.int .i64 s.now.wires,.slice a2 s.now.edges.length c2,.slice a3 s.now.ins.length c3,.slice a4 s.now.outs.length c4,.slice a5 s.future.length c5,.int .i64 s.goal.wires,.slice a6 s.goal.edges.length c6,.slice a7 s.goal.ins.length c7,.slice a8 s.goal.outs.length c8]).alloc (.cells #[.int .i64 0,.int .i64 0,.int .i64 0,.slice none 0 0,.int .i64 0,.slice none 0 0,.slice none 0 0,.slice none 0 0,.slice none 0 0,.int .i64 0,.slice none 0 0,.slice none 0 0,.slice none 0 0] 55)).alloc (.cells #[.int .i64 s.p,.int .i64 s.k,.int .i64 s.l,.slice none 0 0,.int .i64 0,.slice none 0 0,.slice none 0 0,.slice none 0 0,.slice none 0 0,.int .i64 0,.slice none 0 0,.slice none 0 0,.slice none 0 0] 55)
 have kR:=(Bk.new (w.alloc (.cells #[.int .i64 s.p,.int .i64 s.k,.int .i64 s.l,.slice a1 s.past.length c1,.int .i64 s.now.wires,.slice a2 s.now.edges.length c2,.slice a3 s.now.ins.length c3,.slice a4 s.now.outs.length c4,.slice a5 s.future.length c5,.int .i64 s.goal.wires,.slice a6 s.goal.edges.length c6,.slice a7 s.goal.ins.length c7,.slice a8 s.goal.outs.length c8] 44)) 55 #[.int .i64 0,.int .i64 0,.int .i64 0,.slice none 0 0,.int .i64 0,.slice none 0 0,.slice none 0 0,.slice none 0 0,.slice none 0 0,.int .i64 0,.slice none 0 0,.slice none 0 0,.slice none 0 0]).alloc (.cells #[.int .i64 s.p,.int .i64 s.k,.int .i64 s.l,.slice none 0 0,.int .i64 0,.slice none 0 0,.slice none 0 0,.slice none 0 0,.slice none 0 0,.int .i64 0,.slice none 0 0,.slice none 0 0,.slice none 0 0] 55)
 have kO:=Bk.new ((w.alloc (.cells #[.int .i64 s.p,.int .i64 s.k,.int .i64 s.l,.slice a1 s.past.length c1,.int .i64 s.now.wires,.slice a2 s.now.edges.length c2,.slice a3 s.now.ins.length c3,.slice a4 s.now.outs.length c4,.slice a5 s.future.length c5,.int .i64 s.goal.wires,.slice a6 s.goal.edges.length c6,.slice a7 s.goal.ins.length c7,.slice a8 s.goal.outs.length c8] 44)).alloc (.cells #[.int .i64 0,.int .i64 0,.int .i64 0,.slice none 0 0,.int .i64 0,.slice none 0 0,.slice none 0 0,.slice none 0 0,.slice none 0 0,.int .i64 0,.slice none 0 0,.slice none 0 0,.slice none 0 0] 55)) 55 #[.int .i64 s.p,.int .i64 s.k,.int .i64 s.l,.slice none 0 0,.int .i64 0,.slice none 0 0,.slice none 0 0,.slice none 0 0,.slice none 0 0,.int .i64 0,.slice none 0 0,.slice none 0 0,.slice none 0 0]
 have hB:=((alloc_below w (.cells #[.int .i64 s.p,.int .i64 s.k,.int .i64 s.l,.slice a1 s.past.length c1,.int .i64 s.now.wires,.slice a2 s.now.edges.length c2,.slice a3 s.now.ins.length c3,.slice a4 s.now.outs.length c4,.slice a5 s.future.length c5,.int .i64 s.goal.wires,.slice a6 s.goal.edges.length c6,.slice a7 s.goal.ins.length c7,.slice a8 s.goal.outs.length c8] 44)).alloc (by simp) (.cells #[.int .i64 0,.int .i64 0,.int .i64 0,.slice none 0 0,.int .i64 0,.slice none 0 0,.slice none 0 0,.slice none 0 0,.slice none 0 0,.int .i64 0,.slice none 0 0,.slice none 0 0,.slice none 0 0] 55)).alloc (by simp;omega) (.cells #[.int .i64 s.p,.int .i64 s.k,.int .i64 s.l,.slice none 0 0,.int .i64 0,.slice none 0 0,.slice none 0 0,.slice none 0 0,.slice none 0 0,.int .i64 0,.slice none 0 0,.slice none 0 0,.slice none 0 0] 55)
 have hz:w.heap.size+1+1<(((w.alloc (.cells #[.int .i64 s.p,.int .i64 s.k,.int .i64 s.l,.slice a1 s.past.length c1,.int .i64 s.now.wires,.slice a2 s.now.edges.length c2,.slice a3 s.now.ins.length c3,.slice a4 s.now.outs.length c4,.slice a5 s.future.length c5,.int .i64 s.goal.wires,.slice a6 s.goal.edges.length c6,.slice a7 s.goal.ins.length c7,.slice a8 s.goal.outs.length c8] 44)).alloc (.cells #[.int .i64 0,.int .i64 0,.int .i64 0,.slice none 0 0,.int .i64 0,.slice none 0 0,.slice none 0 0,.slice none 0 0,.slice none 0 0,.int .i64 0,.slice none 0 0,.slice none 0 0,.slice none 0 0] 55)).alloc (.cells #[.int .i64 s.p,.int .i64 s.k,.int .i64 s.l,.slice none 0 0,.int .i64 0,.slice none 0 0,.slice none 0 0,.slice none 0 0,.slice none 0 0,.int .i64 0,.slice none 0 0,.slice none 0 0,.slice none 0 0] 55)).heap.size:=by simp
 simp only [World.size_alloc] at kR kO
 generalize (((w.alloc (.cells #[.int .i64 s.p,.int .i64 s.k,.int .i64 s.l,.slice a1 s.past.length c1,.int .i64 s.now.wires,.slice a2 s.now.edges.length c2,.slice a3 s.now.ins.length c3,.slice a4 s.now.outs.length c4,.slice a5 s.future.length c5,.int .i64 s.goal.wires,.slice a6 s.goal.edges.length c6,.slice a7 s.goal.ins.length c7,.slice a8 s.goal.outs.length c8] 44)).alloc (.cells #[.int .i64 0,.int .i64 0,.int .i64 0,.slice none 0 0,.int .i64 0,.slice none 0 0,.slice none 0 0,.slice none 0 0,.slice none 0 0,.int .i64 0,.slice none 0 0,.slice none 0 0,.slice none 0 0] 55)).alloc (.cells #[.int .i64 s.p,.int .i64 s.k,.int .i64 s.l,.slice none 0 0,.int .i64 0,.slice none 0 0,.slice none 0 0,.slice none 0 0,.slice none 0 0,.int .i64 0,.slice none 0 0,.slice none 0 0,.slice none 0 0] 55))=u0 at *
 refine (toGraphS_any _ s.past _ (h.past.keep hB) hok.np hok.past).mono ?_
 rintro r u1 ⟨v,rfl,hr0,hb⟩
 obtain ⟨b1,d1,rfl⟩:=hr0.slice
 replace kI:=kI.keep hb
 replace kR:=kR.keep hb
 replace kO:=kO.keep hb
 replace hB:=hB.trans (hb.mono hB.size)
 replace hr0:=hr0.mono (B':=w.heap.size+1+1+1) (by omega)
 clear hz
 have hz:w.heap.size+1+1<u1.heap.size:=kO.lt
 clear hb
 obtain ⟨iI,-,zI⟩:=kI.cell
 obtain ⟨iO,fO,zO⟩:=kO.cell
 go_wp2_with fail
 replace kI:=kI.other ⟨w.heap.size+1+1,3,none⟩ (.slice b1 s.past.length d1) (by simp;omega)
 replace kR:=kR.other ⟨w.heap.size+1+1,3,none⟩ (.slice b1 s.past.length d1) (by simp)
 replace kO:=kO.set 3 (.slice b1 s.past.length d1)
 replace hB:Below w.heap.size w (u1.setCell ⟨w.heap.size+1+1,3,none⟩ (.slice b1 s.past.length d1)):=hB.setCell (by simp;omega) _
 replace hr0:=hr0.low (a:=⟨w.heap.size+1+1,3,none⟩) (by simp) (.slice b1 s.past.length d1)
 clear hz
 have hz:w.heap.size+1+1<(u1.setCell ⟨w.heap.size+1+1,3,none⟩ (.slice b1 s.past.length d1)).heap.size:=kO.lt
 clear iI zI iO fO zO
 replace kO:Bk (u1.setCell ⟨w.heap.size+1+1,3,none⟩ (.slice b1 s.past.length d1)) (w.heap.size+1+1) 55 #[.int .i64 s.p,.int .i64 s.k,.int .i64 s.l,.slice b1 s.past.length d1,.int .i64 0,.slice none 0 0,.slice none 0 0,.slice none 0 0,.slice none 0 0,.int .i64 0,.slice none 0 0,.slice none 0 0,.slice none 0 0]:=kO
 generalize (u1.setCell ⟨w.heap.size+1+1,3,none⟩ (.slice b1 s.past.length d1))=u2 at *
 refine (toGraph_any s.now _ _ _ _ (h.now.keep hB) hok.now).mono ?_
 rintro r u3 ⟨x1,x2,x3,rfl,hr1,hb⟩
 obtain ⟨⟨b2,d2,rfl⟩,⟨b3,d3,rfl⟩,b4,d4,rfl⟩:=hr1.slices
 replace kI:=kI.keep hb
 replace kR:=kR.keep hb
 replace kO:=kO.keep hb
 replace hB:=hB.trans (hb.mono hB.size)
 replace hr0:=hr0.keep hb
 replace hr1:=hr1.mono (B':=w.heap.size+1+1+1) (by omega)
 clear hz
 have hz:w.heap.size+1+1<u3.heap.size:=kO.lt
 clear hb
 obtain ⟨iI,-,zI⟩:=kI.cell
 obtain ⟨iO,fO,zO⟩:=kO.cell
 go_wp2_with fail
 replace kI:=kI.other ⟨w.heap.size+1+1,4,none⟩ (.int .i64 s.now.wires) (by simp;omega)
 replace kR:=kR.other ⟨w.heap.size+1+1,4,none⟩ (.int .i64 s.now.wires) (by simp)
 replace kO:=kO.set 4 (.int .i64 s.now.wires)
 replace hB:Below w.heap.size w (u3.setCell ⟨w.heap.size+1+1,4,none⟩ (.int .i64 s.now.wires)):=hB.setCell (by simp;omega) _
 replace hr0:=hr0.low (a:=⟨w.heap.size+1+1,4,none⟩) (by simp) (.int .i64 s.now.wires)
 replace hr1:=hr1.low (a:=⟨w.heap.size+1+1,4,none⟩) (by simp) (.int .i64 s.now.wires)
 replace kI:=kI.other ⟨w.heap.size+1+1,5,none⟩ (.slice b2 s.now.edges.length d2) (by simp;omega)
 replace kR:=kR.other ⟨w.heap.size+1+1,5,none⟩ (.slice b2 s.now.edges.length d2) (by simp)
 replace kO:=kO.set 5 (.slice b2 s.now.edges.length d2)
 replace hB:Below w.heap.size w ((u3.setCell ⟨w.heap.size+1+1,4,none⟩ (.int .i64 s.now.wires)).setCell ⟨w.heap.size+1+1,5,none⟩ (.slice b2 s.now.edges.length d2)):=hB.setCell (by simp;omega) _
 replace hr0:=hr0.low (a:=⟨w.heap.size+1+1,5,none⟩) (by simp) (.slice b2 s.now.edges.length d2)
 replace hr1:=hr1.low (a:=⟨w.heap.size+1+1,5,none⟩) (by simp) (.slice b2 s.now.edges.length d2)
 replace kI:=kI.other ⟨w.heap.size+1+1,6,none⟩ (.slice b3 s.now.ins.length d3) (by simp;omega)
 replace kR:=kR.other ⟨w.heap.size+1+1,6,none⟩ (.slice b3 s.now.ins.length d3) (by simp)
 replace kO:=kO.set 6 (.slice b3 s.now.ins.length d3)
 replace hB:Below w.heap.size w (((u3.setCell ⟨w.heap.size+1+1,4,none⟩ (.int .i64 s.now.wires)).setCell ⟨w.heap.size+1+1,5,none⟩ (.slice b2 s.now.edges.length d2)).setCell ⟨w.heap.size+1+1,6,none⟩ (.slice b3 s.now.ins.length d3)):=hB.setCell (by simp;omega) _
 replace hr0:=hr0.low (a:=⟨w.heap.size+1+1,6,none⟩) (by simp) (.slice b3 s.now.ins.length d3)
 replace hr1:=hr1.low (a:=⟨w.heap.size+1+1,6,none⟩) (by simp) (.slice b3 s.now.ins.length d3)
 replace kI:=kI.other ⟨w.heap.size+1+1,7,none⟩ (.slice b4 s.now.outs.length d4) (by simp;omega)
 replace kR:=kR.other ⟨w.heap.size+1+1,7,none⟩ (.slice b4 s.now.outs.length d4) (by simp)
 replace kO:=kO.set 7 (.slice b4 s.now.outs.length d4)
 replace hB:Below w.heap.size w ((((u3.setCell ⟨w.heap.size+1+1,4,none⟩ (.int .i64 s.now.wires)).setCell ⟨w.heap.size+1+1,5,none⟩ (.slice b2 s.now.edges.length d2)).setCell ⟨w.heap.size+1+1,6,none⟩ (.slice b3 s.now.ins.length d3)).setCell ⟨w.heap.size+1+1,7,none⟩ (.slice b4 s.now.outs.length d4)):=hB.setCell (by simp;omega) _
 replace hr0:=hr0.low (a:=⟨w.heap.size+1+1,7,none⟩) (by simp) (.slice b4 s.now.outs.length d4)
 replace hr1:=hr1.low (a:=⟨w.heap.size+1+1,7,none⟩) (by simp) (.slice b4 s.now.outs.length d4)
 clear hz
 have hz:w.heap.size+1+1<((((u3.setCell ⟨w.heap.size+1+1,4,none⟩ (.int .i64 s.now.wires)).setCell ⟨w.heap.size+1+1,5,none⟩ (.slice b2 s.now.edges.length d2)).setCell ⟨w.heap.size+1+1,6,none⟩ (.slice b3 s.now.ins.length d3)).setCell ⟨w.heap.size+1+1,7,none⟩ (.slice b4 s.now.outs.length d4)).heap.size:=kO.lt
 clear iI zI iO fO zO
 replace kO:Bk ((((u3.setCell ⟨w.heap.size+1+1,4,none⟩ (.int .i64 s.now.wires)).setCell ⟨w.heap.size+1+1,5,none⟩ (.slice b2 s.now.edges.length d2)).setCell ⟨w.heap.size+1+1,6,none⟩ (.slice b3 s.now.ins.length d3)).setCell ⟨w.heap.size+1+1,7,none⟩ (.slice b4 s.now.outs.length d4)) (w.heap.size+1+1) 55 #[.int .i64 s.p,.int .i64 s.k,.int .i64 s.l,.slice b1 s.past.length d1,.int .i64 s.now.wires,.slice b2 s.now.edges.length d2,.slice b3 s.now.ins.length d3,.slice b4 s.now.outs.length d4,.slice none 0 0,.int .i64 0,.slice none 0 0,.slice none 0 0,.slice none 0 0]:=kO
 generalize ((((u3.setCell ⟨w.heap.size+1+1,4,none⟩ (.int .i64 s.now.wires)).setCell ⟨w.heap.size+1+1,5,none⟩ (.slice b2 s.now.edges.length d2)).setCell ⟨w.heap.size+1+1,6,none⟩ (.slice b3 s.now.ins.length d3)).setCell ⟨w.heap.size+1+1,7,none⟩ (.slice b4 s.now.outs.length d4))=u4 at *
 refine (toGraphS_any _ s.future _ (h.future.keep hB) hok.nf hok.future).mono ?_
 rintro r u5 ⟨v,rfl,hr2,hb⟩
 obtain ⟨b5,d5,rfl⟩:=hr2.slice
 replace kI:=kI.keep hb
 replace kR:=kR.keep hb
 replace kO:=kO.keep hb
 replace hB:=hB.trans (hb.mono hB.size)
 replace hr0:=hr0.keep hb
 replace hr1:=hr1.keep hb
 replace hr2:=hr2.mono (B':=w.heap.size+1+1+1) (by omega)
 clear hz
 have hz:w.heap.size+1+1<u5.heap.size:=kO.lt
 clear hb
 obtain ⟨iI,-,zI⟩:=kI.cell
 obtain ⟨iO,fO,zO⟩:=kO.cell
 go_wp2_with fail
 replace kI:=kI.other ⟨w.heap.size+1+1,8,none⟩ (.slice b5 s.future.length d5) (by simp;omega)
 replace kR:=kR.other ⟨w.heap.size+1+1,8,none⟩ (.slice b5 s.future.length d5) (by simp)
 replace kO:=kO.set 8 (.slice b5 s.future.length d5)
 replace hB:Below w.heap.size w (u5.setCell ⟨w.heap.size+1+1,8,none⟩ (.slice b5 s.future.length d5)):=hB.setCell (by simp;omega) _
 replace hr0:=hr0.low (a:=⟨w.heap.size+1+1,8,none⟩) (by simp) (.slice b5 s.future.length d5)
 replace hr1:=hr1.low (a:=⟨w.heap.size+1+1,8,none⟩) (by simp) (.slice b5 s.future.length d5)
 replace hr2:=hr2.low (a:=⟨w.heap.size+1+1,8,none⟩) (by simp) (.slice b5 s.future.length d5)
 clear hz
 have hz:w.heap.size+1+1<(u5.setCell ⟨w.heap.size+1+1,8,none⟩ (.slice b5 s.future.length d5)).heap.size:=kO.lt
 clear iI zI iO fO zO
 replace kO:Bk (u5.setCell ⟨w.heap.size+1+1,8,none⟩ (.slice b5 s.future.length d5)) (w.heap.size+1+1) 55 #[.int .i64 s.p,.int .i64 s.k,.int .i64 s.l,.slice b1 s.past.length d1,.int .i64 s.now.wires,.slice b2 s.now.edges.length d2,.slice b3 s.now.ins.length d3,.slice b4 s.now.outs.length d4,.slice b5 s.future.length d5,.int .i64 0,.slice none 0 0,.slice none 0 0,.slice none 0 0]:=kO
 generalize (u5.setCell ⟨w.heap.size+1+1,8,none⟩ (.slice b5 s.future.length d5))=u6 at *
 refine (toGraph_any s.goal _ _ _ _ (h.goal.keep hB) hok.goal).mono ?_
 rintro r u7 ⟨x1,x2,x3,rfl,hr3,hb⟩
 obtain ⟨⟨b6,d6,rfl⟩,⟨b7,d7,rfl⟩,b8,d8,rfl⟩:=hr3.slices
 replace kI:=kI.keep hb
 replace kR:=kR.keep hb
 replace kO:=kO.keep hb
 replace hB:=hB.trans (hb.mono hB.size)
 replace hr0:=hr0.keep hb
 replace hr1:=hr1.keep hb
 replace hr2:=hr2.keep hb
 replace hr3:=hr3.mono (B':=w.heap.size+1+1+1) (by omega)
 clear hz
 have hz:w.heap.size+1+1<u7.heap.size:=kO.lt
 clear hb
 obtain ⟨iO,fO,zO⟩:=kO.cell
 obtain ⟨iR,fR,zR⟩:=kR.cell
 go_wp2_with fail
 clear kI kO iO fO iR fR zR hz
 replace kR:Bk (u7.setCell ⟨w.heap.size+1+1,9,none⟩ (.int .i64 s.goal.wires)) (w.heap.size+1) 55 _:=kR.other ⟨w.heap.size+1+1,9,none⟩ (.int .i64 s.goal.wires) (by simp)
 replace hB:Below w.heap.size w (u7.setCell ⟨w.heap.size+1+1,9,none⟩ (.int .i64 s.goal.wires)):=hB.setCell (by simp;omega) _
 replace hr0:=hr0.low (a:=⟨w.heap.size+1+1,9,none⟩) (by simp) (.int .i64 s.goal.wires)
 replace hr1:=hr1.low (a:=⟨w.heap.size+1+1,9,none⟩) (by simp) (.int .i64 s.goal.wires)
 replace hr2:=hr2.low (a:=⟨w.heap.size+1+1,9,none⟩) (by simp) (.int .i64 s.goal.wires)
 replace hr3:=hr3.low (a:=⟨w.heap.size+1+1,9,none⟩) (by simp) (.int .i64 s.goal.wires)
 generalize (u7.setCell ⟨w.heap.size+1+1,9,none⟩ (.int .i64 s.goal.wires))=x1 at *
 replace kR:Bk (x1.setCell ⟨w.heap.size+1+1,10,none⟩ (.slice b6 s.goal.edges.length d6)) (w.heap.size+1) 55 _:=kR.other ⟨w.heap.size+1+1,10,none⟩ (.slice b6 s.goal.edges.length d6) (by simp)
 replace hB:Below w.heap.size w (x1.setCell ⟨w.heap.size+1+1,10,none⟩ (.slice b6 s.goal.edges.length d6)):=hB.setCell (by simp;omega) _
 replace hr0:=hr0.low (a:=⟨w.heap.size+1+1,10,none⟩) (by simp) (.slice b6 s.goal.edges.length d6)
 replace hr1:=hr1.low (a:=⟨w.heap.size+1+1,10,none⟩) (by simp) (.slice b6 s.goal.edges.length d6)
 replace hr2:=hr2.low (a:=⟨w.heap.size+1+1,10,none⟩) (by simp) (.slice b6 s.goal.edges.length d6)
 replace hr3:=hr3.low (a:=⟨w.heap.size+1+1,10,none⟩) (by simp) (.slice b6 s.goal.edges.length d6)
 generalize (x1.setCell ⟨w.heap.size+1+1,10,none⟩ (.slice b6 s.goal.edges.length d6))=x2 at *
 replace kR:Bk (x2.setCell ⟨w.heap.size+1+1,11,none⟩ (.slice b7 s.goal.ins.length d7)) (w.heap.size+1) 55 _:=kR.other ⟨w.heap.size+1+1,11,none⟩ (.slice b7 s.goal.ins.length d7) (by simp)
 replace hB:Below w.heap.size w (x2.setCell ⟨w.heap.size+1+1,11,none⟩ (.slice b7 s.goal.ins.length d7)):=hB.setCell (by simp;omega) _
 replace hr0:=hr0.low (a:=⟨w.heap.size+1+1,11,none⟩) (by simp) (.slice b7 s.goal.ins.length d7)
 replace hr1:=hr1.low (a:=⟨w.heap.size+1+1,11,none⟩) (by simp) (.slice b7 s.goal.ins.length d7)
 replace hr2:=hr2.low (a:=⟨w.heap.size+1+1,11,none⟩) (by simp) (.slice b7 s.goal.ins.length d7)
 replace hr3:=hr3.low (a:=⟨w.heap.size+1+1,11,none⟩) (by simp) (.slice b7 s.goal.ins.length d7)
 generalize (x2.setCell ⟨w.heap.size+1+1,11,none⟩ (.slice b7 s.goal.ins.length d7))=x3 at *
 replace kR:Bk (x3.setCell ⟨w.heap.size+1+1,12,none⟩ (.slice b8 s.goal.outs.length d8)) (w.heap.size+1) 55 _:=kR.other ⟨w.heap.size+1+1,12,none⟩ (.slice b8 s.goal.outs.length d8) (by simp)
 replace hB:Below w.heap.size w (x3.setCell ⟨w.heap.size+1+1,12,none⟩ (.slice b8 s.goal.outs.length d8)):=hB.setCell (by simp;omega) _
 replace hr0:=hr0.low (a:=⟨w.heap.size+1+1,12,none⟩) (by simp) (.slice b8 s.goal.outs.length d8)
 replace hr1:=hr1.low (a:=⟨w.heap.size+1+1,12,none⟩) (by simp) (.slice b8 s.goal.outs.length d8)
 replace hr2:=hr2.low (a:=⟨w.heap.size+1+1,12,none⟩) (by simp) (.slice b8 s.goal.outs.length d8)
 replace hr3:=hr3.low (a:=⟨w.heap.size+1+1,12,none⟩) (by simp) (.slice b8 s.goal.outs.length d8)
 generalize (x3.setCell ⟨w.heap.size+1+1,12,none⟩ (.slice b8 s.goal.outs.length d8))=x4 at *
 replace kR:Bk (x4.setCell ⟨w.heap.size+1,0,none⟩ (.int .i64 s.p)) (w.heap.size+1) 55 #[.int .i64 s.p,.int .i64 0,.int .i64 0,.slice none 0 0,.int .i64 0,.slice none 0 0,.slice none 0 0,.slice none 0 0,.slice none 0 0,.int .i64 0,.slice none 0 0,.slice none 0 0,.slice none 0 0]:=kR.set 0 (.int .i64 s.p)
 replace hB:Below w.heap.size w (x4.setCell ⟨w.heap.size+1,0,none⟩ (.int .i64 s.p)):=hB.setCell (by simp) _
 replace hr0:=hr0.low (a:=⟨w.heap.size+1,0,none⟩) (by simp only [];omega) (.int .i64 s.p)
 replace hr1:=hr1.low (a:=⟨w.heap.size+1,0,none⟩) (by simp only [];omega) (.int .i64 s.p)
 replace hr2:=hr2.low (a:=⟨w.heap.size+1,0,none⟩) (by simp only [];omega) (.int .i64 s.p)
 replace hr3:=hr3.low (a:=⟨w.heap.size+1,0,none⟩) (by simp only [];omega) (.int .i64 s.p)
 generalize (x4.setCell ⟨w.heap.size+1,0,none⟩ (.int .i64 s.p))=x5 at *
 replace kR:Bk (x5.setCell ⟨w.heap.size+1,1,none⟩ (.int .i64 s.k)) (w.heap.size+1) 55 #[.int .i64 s.p,.int .i64 s.k,.int .i64 0,.slice none 0 0,.int .i64 0,.slice none 0 0,.slice none 0 0,.slice none 0 0,.slice none 0 0,.int .i64 0,.slice none 0 0,.slice none 0 0,.slice none 0 0]:=kR.set 1 (.int .i64 s.k)
 replace hB:Below w.heap.size w (x5.setCell ⟨w.heap.size+1,1,none⟩ (.int .i64 s.k)):=hB.setCell (by simp) _
 replace hr0:=hr0.low (a:=⟨w.heap.size+1,1,none⟩) (by simp only [];omega) (.int .i64 s.k)
 replace hr1:=hr1.low (a:=⟨w.heap.size+1,1,none⟩) (by simp only [];omega) (.int .i64 s.k)
 replace hr2:=hr2.low (a:=⟨w.heap.size+1,1,none⟩) (by simp only [];omega) (.int .i64 s.k)
 replace hr3:=hr3.low (a:=⟨w.heap.size+1,1,none⟩) (by simp only [];omega) (.int .i64 s.k)
 generalize (x5.setCell ⟨w.heap.size+1,1,none⟩ (.int .i64 s.k))=x6 at *
 replace kR:Bk (x6.setCell ⟨w.heap.size+1,2,none⟩ (.int .i64 s.l)) (w.heap.size+1) 55 #[.int .i64 s.p,.int .i64 s.k,.int .i64 s.l,.slice none 0 0,.int .i64 0,.slice none 0 0,.slice none 0 0,.slice none 0 0,.slice none 0 0,.int .i64 0,.slice none 0 0,.slice none 0 0,.slice none 0 0]:=kR.set 2 (.int .i64 s.l)
 replace hB:Below w.heap.size w (x6.setCell ⟨w.heap.size+1,2,none⟩ (.int .i64 s.l)):=hB.setCell (by simp) _
 replace hr0:=hr0.low (a:=⟨w.heap.size+1,2,none⟩) (by simp only [];omega) (.int .i64 s.l)
 replace hr1:=hr1.low (a:=⟨w.heap.size+1,2,none⟩) (by simp only [];omega) (.int .i64 s.l)
 replace hr2:=hr2.low (a:=⟨w.heap.size+1,2,none⟩) (by simp only [];omega) (.int .i64 s.l)
 replace hr3:=hr3.low (a:=⟨w.heap.size+1,2,none⟩) (by simp only [];omega) (.int .i64 s.l)
 generalize (x6.setCell ⟨w.heap.size+1,2,none⟩ (.int .i64 s.l))=x7 at *
 replace kR:Bk (x7.setCell ⟨w.heap.size+1,3,none⟩ (.slice b1 s.past.length d1)) (w.heap.size+1) 55 #[.int .i64 s.p,.int .i64 s.k,.int .i64 s.l,.slice b1 s.past.length d1,.int .i64 0,.slice none 0 0,.slice none 0 0,.slice none 0 0,.slice none 0 0,.int .i64 0,.slice none 0 0,.slice none 0 0,.slice none 0 0]:=kR.set 3 (.slice b1 s.past.length d1)
 replace hB:Below w.heap.size w (x7.setCell ⟨w.heap.size+1,3,none⟩ (.slice b1 s.past.length d1)):=hB.setCell (by simp) _
 replace hr0:=hr0.low (a:=⟨w.heap.size+1,3,none⟩) (by simp only [];omega) (.slice b1 s.past.length d1)
 replace hr1:=hr1.low (a:=⟨w.heap.size+1,3,none⟩) (by simp only [];omega) (.slice b1 s.past.length d1)
 replace hr2:=hr2.low (a:=⟨w.heap.size+1,3,none⟩) (by simp only [];omega) (.slice b1 s.past.length d1)
 replace hr3:=hr3.low (a:=⟨w.heap.size+1,3,none⟩) (by simp only [];omega) (.slice b1 s.past.length d1)
 generalize (x7.setCell ⟨w.heap.size+1,3,none⟩ (.slice b1 s.past.length d1))=x8 at *
 replace kR:Bk (x8.setCell ⟨w.heap.size+1,4,none⟩ (.int .i64 s.now.wires)) (w.heap.size+1) 55 #[.int .i64 s.p,.int .i64 s.k,.int .i64 s.l,.slice b1 s.past.length d1,.int .i64 s.now.wires,.slice none 0 0,.slice none 0 0,.slice none 0 0,.slice none 0 0,.int .i64 0,.slice none 0 0,.slice none 0 0,.slice none 0 0]:=kR.set 4 (.int .i64 s.now.wires)
 replace hB:Below w.heap.size w (x8.setCell ⟨w.heap.size+1,4,none⟩ (.int .i64 s.now.wires)):=hB.setCell (by simp) _
 replace hr0:=hr0.low (a:=⟨w.heap.size+1,4,none⟩) (by simp only [];omega) (.int .i64 s.now.wires)
 replace hr1:=hr1.low (a:=⟨w.heap.size+1,4,none⟩) (by simp only [];omega) (.int .i64 s.now.wires)
 replace hr2:=hr2.low (a:=⟨w.heap.size+1,4,none⟩) (by simp only [];omega) (.int .i64 s.now.wires)
 replace hr3:=hr3.low (a:=⟨w.heap.size+1,4,none⟩) (by simp only [];omega) (.int .i64 s.now.wires)
 generalize (x8.setCell ⟨w.heap.size+1,4,none⟩ (.int .i64 s.now.wires))=x9 at *
 replace kR:Bk (x9.setCell ⟨w.heap.size+1,5,none⟩ (.slice b2 s.now.edges.length d2)) (w.heap.size+1) 55 #[.int .i64 s.p,.int .i64 s.k,.int .i64 s.l,.slice b1 s.past.length d1,.int .i64 s.now.wires,.slice b2 s.now.edges.length d2,.slice none 0 0,.slice none 0 0,.slice none 0 0,.int .i64 0,.slice none 0 0,.slice none 0 0,.slice none 0 0]:=kR.set 5 (.slice b2 s.now.edges.length d2)
 replace hB:Below w.heap.size w (x9.setCell ⟨w.heap.size+1,5,none⟩ (.slice b2 s.now.edges.length d2)):=hB.setCell (by simp) _
 replace hr0:=hr0.low (a:=⟨w.heap.size+1,5,none⟩) (by simp only [];omega) (.slice b2 s.now.edges.length d2)
 replace hr1:=hr1.low (a:=⟨w.heap.size+1,5,none⟩) (by simp only [];omega) (.slice b2 s.now.edges.length d2)
 replace hr2:=hr2.low (a:=⟨w.heap.size+1,5,none⟩) (by simp only [];omega) (.slice b2 s.now.edges.length d2)
 replace hr3:=hr3.low (a:=⟨w.heap.size+1,5,none⟩) (by simp only [];omega) (.slice b2 s.now.edges.length d2)
 generalize (x9.setCell ⟨w.heap.size+1,5,none⟩ (.slice b2 s.now.edges.length d2))=x10 at *
 replace kR:Bk (x10.setCell ⟨w.heap.size+1,6,none⟩ (.slice b3 s.now.ins.length d3)) (w.heap.size+1) 55 #[.int .i64 s.p,.int .i64 s.k,.int .i64 s.l,.slice b1 s.past.length d1,.int .i64 s.now.wires,.slice b2 s.now.edges.length d2,.slice b3 s.now.ins.length d3,.slice none 0 0,.slice none 0 0,.int .i64 0,.slice none 0 0,.slice none 0 0,.slice none 0 0]:=kR.set 6 (.slice b3 s.now.ins.length d3)
 replace hB:Below w.heap.size w (x10.setCell ⟨w.heap.size+1,6,none⟩ (.slice b3 s.now.ins.length d3)):=hB.setCell (by simp) _
 replace hr0:=hr0.low (a:=⟨w.heap.size+1,6,none⟩) (by simp only [];omega) (.slice b3 s.now.ins.length d3)
 replace hr1:=hr1.low (a:=⟨w.heap.size+1,6,none⟩) (by simp only [];omega) (.slice b3 s.now.ins.length d3)
 replace hr2:=hr2.low (a:=⟨w.heap.size+1,6,none⟩) (by simp only [];omega) (.slice b3 s.now.ins.length d3)
 replace hr3:=hr3.low (a:=⟨w.heap.size+1,6,none⟩) (by simp only [];omega) (.slice b3 s.now.ins.length d3)
 generalize (x10.setCell ⟨w.heap.size+1,6,none⟩ (.slice b3 s.now.ins.length d3))=x11 at *
 replace kR:Bk (x11.setCell ⟨w.heap.size+1,7,none⟩ (.slice b4 s.now.outs.length d4)) (w.heap.size+1) 55 #[.int .i64 s.p,.int .i64 s.k,.int .i64 s.l,.slice b1 s.past.length d1,.int .i64 s.now.wires,.slice b2 s.now.edges.length d2,.slice b3 s.now.ins.length d3,.slice b4 s.now.outs.length d4,.slice none 0 0,.int .i64 0,.slice none 0 0,.slice none 0 0,.slice none 0 0]:=kR.set 7 (.slice b4 s.now.outs.length d4)
 replace hB:Below w.heap.size w (x11.setCell ⟨w.heap.size+1,7,none⟩ (.slice b4 s.now.outs.length d4)):=hB.setCell (by simp) _
 replace hr0:=hr0.low (a:=⟨w.heap.size+1,7,none⟩) (by simp only [];omega) (.slice b4 s.now.outs.length d4)
 replace hr1:=hr1.low (a:=⟨w.heap.size+1,7,none⟩) (by simp only [];omega) (.slice b4 s.now.outs.length d4)
 replace hr2:=hr2.low (a:=⟨w.heap.size+1,7,none⟩) (by simp only [];omega) (.slice b4 s.now.outs.length d4)
 replace hr3:=hr3.low (a:=⟨w.heap.size+1,7,none⟩) (by simp only [];omega) (.slice b4 s.now.outs.length d4)
 generalize (x11.setCell ⟨w.heap.size+1,7,none⟩ (.slice b4 s.now.outs.length d4))=x12 at *
 replace kR:Bk (x12.setCell ⟨w.heap.size+1,8,none⟩ (.slice b5 s.future.length d5)) (w.heap.size+1) 55 #[.int .i64 s.p,.int .i64 s.k,.int .i64 s.l,.slice b1 s.past.length d1,.int .i64 s.now.wires,.slice b2 s.now.edges.length d2,.slice b3 s.now.ins.length d3,.slice b4 s.now.outs.length d4,.slice b5 s.future.length d5,.int .i64 0,.slice none 0 0,.slice none 0 0,.slice none 0 0]:=kR.set 8 (.slice b5 s.future.length d5)
 replace hB:Below w.heap.size w (x12.setCell ⟨w.heap.size+1,8,none⟩ (.slice b5 s.future.length d5)):=hB.setCell (by simp) _
 replace hr0:=hr0.low (a:=⟨w.heap.size+1,8,none⟩) (by simp only [];omega) (.slice b5 s.future.length d5)
 replace hr1:=hr1.low (a:=⟨w.heap.size+1,8,none⟩) (by simp only [];omega) (.slice b5 s.future.length d5)
 replace hr2:=hr2.low (a:=⟨w.heap.size+1,8,none⟩) (by simp only [];omega) (.slice b5 s.future.length d5)
 replace hr3:=hr3.low (a:=⟨w.heap.size+1,8,none⟩) (by simp only [];omega) (.slice b5 s.future.length d5)
 generalize (x12.setCell ⟨w.heap.size+1,8,none⟩ (.slice b5 s.future.length d5))=x13 at *
 replace kR:Bk (x13.setCell ⟨w.heap.size+1,9,none⟩ (.int .i64 s.goal.wires)) (w.heap.size+1) 55 #[.int .i64 s.p,.int .i64 s.k,.int .i64 s.l,.slice b1 s.past.length d1,.int .i64 s.now.wires,.slice b2 s.now.edges.length d2,.slice b3 s.now.ins.length d3,.slice b4 s.now.outs.length d4,.slice b5 s.future.length d5,.int .i64 s.goal.wires,.slice none 0 0,.slice none 0 0,.slice none 0 0]:=kR.set 9 (.int .i64 s.goal.wires)
 replace hB:Below w.heap.size w (x13.setCell ⟨w.heap.size+1,9,none⟩ (.int .i64 s.goal.wires)):=hB.setCell (by simp) _
 replace hr0:=hr0.low (a:=⟨w.heap.size+1,9,none⟩) (by simp only [];omega) (.int .i64 s.goal.wires)
 replace hr1:=hr1.low (a:=⟨w.heap.size+1,9,none⟩) (by simp only [];omega) (.int .i64 s.goal.wires)
 replace hr2:=hr2.low (a:=⟨w.heap.size+1,9,none⟩) (by simp only [];omega) (.int .i64 s.goal.wires)
 replace hr3:=hr3.low (a:=⟨w.heap.size+1,9,none⟩) (by simp only [];omega) (.int .i64 s.goal.wires)
 generalize (x13.setCell ⟨w.heap.size+1,9,none⟩ (.int .i64 s.goal.wires))=x14 at *
 replace kR:Bk (x14.setCell ⟨w.heap.size+1,10,none⟩ (.slice b6 s.goal.edges.length d6)) (w.heap.size+1) 55 #[.int .i64 s.p,.int .i64 s.k,.int .i64 s.l,.slice b1 s.past.length d1,.int .i64 s.now.wires,.slice b2 s.now.edges.length d2,.slice b3 s.now.ins.length d3,.slice b4 s.now.outs.length d4,.slice b5 s.future.length d5,.int .i64 s.goal.wires,.slice b6 s.goal.edges.length d6,.slice none 0 0,.slice none 0 0]:=kR.set 10 (.slice b6 s.goal.edges.length d6)
 replace hB:Below w.heap.size w (x14.setCell ⟨w.heap.size+1,10,none⟩ (.slice b6 s.goal.edges.length d6)):=hB.setCell (by simp) _
 replace hr0:=hr0.low (a:=⟨w.heap.size+1,10,none⟩) (by simp only [];omega) (.slice b6 s.goal.edges.length d6)
 replace hr1:=hr1.low (a:=⟨w.heap.size+1,10,none⟩) (by simp only [];omega) (.slice b6 s.goal.edges.length d6)
 replace hr2:=hr2.low (a:=⟨w.heap.size+1,10,none⟩) (by simp only [];omega) (.slice b6 s.goal.edges.length d6)
 replace hr3:=hr3.low (a:=⟨w.heap.size+1,10,none⟩) (by simp only [];omega) (.slice b6 s.goal.edges.length d6)
 generalize (x14.setCell ⟨w.heap.size+1,10,none⟩ (.slice b6 s.goal.edges.length d6))=x15 at *
 replace kR:Bk (x15.setCell ⟨w.heap.size+1,11,none⟩ (.slice b7 s.goal.ins.length d7)) (w.heap.size+1) 55 #[.int .i64 s.p,.int .i64 s.k,.int .i64 s.l,.slice b1 s.past.length d1,.int .i64 s.now.wires,.slice b2 s.now.edges.length d2,.slice b3 s.now.ins.length d3,.slice b4 s.now.outs.length d4,.slice b5 s.future.length d5,.int .i64 s.goal.wires,.slice b6 s.goal.edges.length d6,.slice b7 s.goal.ins.length d7,.slice none 0 0]:=kR.set 11 (.slice b7 s.goal.ins.length d7)
 replace hB:Below w.heap.size w (x15.setCell ⟨w.heap.size+1,11,none⟩ (.slice b7 s.goal.ins.length d7)):=hB.setCell (by simp) _
 replace hr0:=hr0.low (a:=⟨w.heap.size+1,11,none⟩) (by simp only [];omega) (.slice b7 s.goal.ins.length d7)
 replace hr1:=hr1.low (a:=⟨w.heap.size+1,11,none⟩) (by simp only [];omega) (.slice b7 s.goal.ins.length d7)
 replace hr2:=hr2.low (a:=⟨w.heap.size+1,11,none⟩) (by simp only [];omega) (.slice b7 s.goal.ins.length d7)
 replace hr3:=hr3.low (a:=⟨w.heap.size+1,11,none⟩) (by simp only [];omega) (.slice b7 s.goal.ins.length d7)
 generalize (x15.setCell ⟨w.heap.size+1,11,none⟩ (.slice b7 s.goal.ins.length d7))=x16 at *
 replace kR:Bk (x16.setCell ⟨w.heap.size+1,12,none⟩ (.slice b8 s.goal.outs.length d8)) (w.heap.size+1) 55 #[.int .i64 s.p,.int .i64 s.k,.int .i64 s.l,.slice b1 s.past.length d1,.int .i64 s.now.wires,.slice b2 s.now.edges.length d2,.slice b3 s.now.ins.length d3,.slice b4 s.now.outs.length d4,.slice b5 s.future.length d5,.int .i64 s.goal.wires,.slice b6 s.goal.edges.length d6,.slice b7 s.goal.ins.length d7,.slice b8 s.goal.outs.length d8]:=kR.set 12 (.slice b8 s.goal.outs.length d8)
 replace hB:Below w.heap.size w (x16.setCell ⟨w.heap.size+1,12,none⟩ (.slice b8 s.goal.outs.length d8)):=hB.setCell (by simp) _
 replace hr0:=hr0.low (a:=⟨w.heap.size+1,12,none⟩) (by simp only [];omega) (.slice b8 s.goal.outs.length d8)
 replace hr1:=hr1.low (a:=⟨w.heap.size+1,12,none⟩) (by simp only [];omega) (.slice b8 s.goal.outs.length d8)
 replace hr2:=hr2.low (a:=⟨w.heap.size+1,12,none⟩) (by simp only [];omega) (.slice b8 s.goal.outs.length d8)
 replace hr3:=hr3.low (a:=⟨w.heap.size+1,12,none⟩) (by simp only [];omega) (.slice b8 s.goal.outs.length d8)
 generalize (x16.setCell ⟨w.heap.size+1,12,none⟩ (.slice b8 s.goal.outs.length d8))=x17 at *
 obtain ⟨iF,-,-⟩:=kR.cell
 refine bodyPost_ret (v:=.agg #[.int .i64 s.p,.int .i64 s.k,.int .i64 s.l,.slice b1 s.past.length d1,.int .i64 s.now.wires,.slice b2 s.now.edges.length d2,.slice b3 s.now.ins.length d3,.slice b4 s.now.outs.length d4,.slice b5 s.future.length d5,.int .i64 s.goal.wires,.slice b6 s.goal.edges.length d6,.slice b7 s.goal.ins.length d7,.slice b8 s.goal.outs.length d8]) (by simp [results,Tryz.results20,go_sem,iF]) rfl ⟨_,_,_,_,_,_,_,_,rfl,⟨hr0.at,hr1.at,hr2.at,hr3.at⟩,hB⟩
end Go.Proofs.YtbljmfcifljkaaaGreatDoor
