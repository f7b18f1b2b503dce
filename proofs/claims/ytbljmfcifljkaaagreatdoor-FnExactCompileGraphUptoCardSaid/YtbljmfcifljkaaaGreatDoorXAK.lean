/-
  Own rows of edges grow: append of one edge in a region that draws. Own work.
-/
import Derived.Test.YtbljmfcifljkaaaGreatDoorXAG
import Derived.Test.YtbljmfcifljkaaaGreatDoorXAI
import Derived.Test.YtbljmfcifljkaaaGreatDoorXAJ
import Derived.Test.YtbljmfcifljkaaaGreatDoorXAB
import Derived.Test.YtbljmfcifljkaaaGreatDoorXAE
set_option linter.all false
set_option maxRecDepth 100000
set_option maxHeartbeats 8000000
namespace Go.Proofs.YtbljmfcifljkaaaGreatDoor
open Go.RowKit
abbrev EdV:=EdI × Value × Value
def EdAll (w:World) (B:Nat) (ys:List EdV):Prop:=∀ y ∈ ys,Rw w B y.2.1 y.1.ins∧Rw w B y.2.2 y.1.outs
theorem EdAll.keep {w w':World} {B:Nat} {ys:List EdV} (hb:Below w.heap.size w w') (h:EdAll w B ys):EdAll w' B ys:=fun y hy=>⟨(h y hy).1.keep hb,(h y hy).2.keep hb⟩
theorem EdAll.mono {w:World} {B B':Nat} {ys:List EdV} (hB:B'≤B) (h:EdAll w B ys):EdAll w B' ys:=fun y hy=>⟨(h y hy).1.mono hB,(h y hy).2.mono hB⟩
structure EdS (w:World) (B:Nat) (v:Value) (xs:List EdV):Prop where
 row:w.ownsRow B 189 4 v xs.length (xs.flatMap edCells)
 rws:EdAll w B xs
theorem EdS.keep {w w':World} {B:Nat} {v:Value} {xs:List EdV} (hb:Below w.heap.size w w') (h:EdS w B v xs):EdS w' B v xs:=⟨owns_keep hb h.row,h.rws.keep hb⟩
theorem EdS.o {w:World} {B:Nat} {v:Value} {xs:List EdV} (h:EdS w B v xs):EdsO w B v (xs.map Prod.fst):=⟨xs,rfl,h.row,h.rws⟩
theorem EdS.nil (w:World) (B:Nat):EdS w B (.slice none 0 0) []:=⟨World.ownsRow_nil _ _ _ _,fun y hy=>by cases hy⟩
theorem EdS.app {w w':World} {B:Nat} {v v':Value} {xs ys:List EdV} (h:EdS w B v xs) (hy:EdAll w B ys)
  (hown:w'.ownsRow B 189 4 v' (xs.length+ys.length) (xs.flatMap edCells ++ ys.flatMap edCells)) (hg:w.grownBy w' v.ownBlock):EdS w' B v' (xs ++ ys):=by
 have mv:∀ (u:Value) zs,Rw w B u zs → Rw w' B u zs:=fun u zs hu=>hu.grown hg fun k hk e=>owns_ne hu h.row (by decide) k hk e
 refine ⟨?_,fun x hx=>?_⟩
 ·rw [List.length_append,List.flatMap_append];exact hown
 ·rcases List.mem_append.1 hx with hx|hx
  ·exact ⟨mv _ _ (h.rws x hx).1,mv _ _ (h.rws x hx).2⟩
  ·exact ⟨mv _ _ (hy x hx).1,mv _ _ (hy x hx).2⟩
theorem EdS.setB {w:World} {B b:Nat} {v:Value} {xs:List EdV} {t:TypeId} {cs:Array Value} (h:EdS w B v xs) (kb:Bk w b t cs) (h1:189 ≠ t) (h2:3 ≠ t) (j:Nat) (u:Value):EdS (w.setCell ⟨b,j,none⟩ u) B v xs :=
 ⟨owns_other h.row _ _ (row_blk_ne h.row kb h1),fun y hy=>⟨owns_other (h.rws y hy).1 _ _ (row_blk_ne (h.rws y hy).1 kb h2),owns_other (h.rws y hy).2 _ _ (row_blk_ne (h.rws y hy).2 kb h2)⟩⟩
def RwQ (xs:List Int) (w:World) (e:Ending) (w':World):Prop:=∃ a c,e=.returned (.slice a xs.length c)∧Rw w' w.heap.size (.slice a xs.length c) xs∧Below w.heap.size w w'
theorem RwP.q {xs:List Int} {w w':World} {e:Ending} (h:RwP xs w e w'):RwQ xs w e w':=by
 obtain ⟨v,rfl,h1,h2⟩:=h
 obtain ⟨a,c,rfl⟩:=h1.slice
 exact ⟨a,c,rfl,h1,h2⟩
def GrS (w:World) (B:Nat) (ve vi vo:Value) (g:GrI):Prop:=∃ C D,B≤C∧C≤D∧EdsO w D ve g.edges∧Rw w B vi g.ins∧Rw w C vo g.outs∧(∀ j,vi.ownBlock=some j → j<C)∧(∀ j,vo.ownBlock=some j → j<D)∧D≤w.heap.size
theorem GrS.o {w:World} {B:Nat} {ve vi vo:Value} {g:GrI} (h:GrS w B ve vi vo g):GrO w B ve vi vo g:=by
 obtain ⟨C,D,h1,h2,h3,h4,h5,-⟩:=h
 exact ⟨h3.mono (Nat.le_trans h1 h2),h4,h5.mono h1⟩
theorem GrS.keep {w w':World} {B:Nat} {ve vi vo:Value} {g:GrI} (hb:Below w.heap.size w w') (h:GrS w B ve vi vo g):GrS w' B ve vi vo g:=by
 obtain ⟨C,D,h1,h2,h3,h4,h5,h6,h7,h8⟩:=h
 exact ⟨C,D,h1,h2,h3.keep hb,h4.keep hb,h5.keep hb,h6,h7,Nat.le_trans h8 hb.size⟩
theorem GrS.mono {w:World} {B B':Nat} {ve vi vo:Value} {g:GrI} (hB:B'≤B) (h:GrS w B ve vi vo g):GrS w B' ve vi vo g:=by
 obtain ⟨C,D,h1,h2,h3,h4,h5,h6⟩:=h
 exact ⟨C,D,Nat.le_trans hB h1,h2,h3,h4.mono hB,h5,h6⟩
theorem GrS.low {w:World} {B:Nat} {ve vi vo:Value} {g:GrI} (h:GrS w B ve vi vo g) {a:Addr} (ha:a.block<B) (u:Value):GrS (w.setCell a u) B ve vi vo g:=by
 obtain ⟨C,D,h1,h2,h3,h4,h5,h6⟩:=h
 exact ⟨C,D,h1,h2,h3.low (by omega) u,h4.other a u ha,h5.other a u (by omega),h6.1,h6.2.1,by rw [World.size_setCell];exact h6.2.2⟩
def GrMs (g:GrI) (w:World) (e:Ending) (w':World):Prop:=∃ ve vi vo,e=.returned (.agg #[.int .i64 g.wires,ve,vi,vo])∧GrS w' w.heap.size ve vi vo g∧Below w.heap.size w w'
def GrMk (g:GrI) (w:World) (e:Ending) (w':World):Prop:=∃ ve vi vo,e=.returned (.agg #[.int .i64 g.wires,ve,vi,vo])∧GrO w' w.heap.size ve vi vo g∧Below w.heap.size w w'
end Go.Proofs.YtbljmfcifljkaaaGreatDoor
/-
  Counts of wires, plain. Own work.
-/
namespace Go.Proofs.YtbljmfcifljkaaaGreatDoor
def cnW (n:Nat) (l:List Int):List Int:=(List.range n).map fun w:Nat=>(l.count (w:Int):Int)
theorem cnW_length (n:Nat) (l:List Int):(cnW n l).length=n:=by simp [cnW]
theorem cnW_get (n:Nat) (l:List Int) (k:Nat) (h:k<(cnW n l).length):(cnW n l)[k]=(l.count (k:Int):Int):=by simp [cnW]
theorem cnW_nil (n:Nat):cnW n []=List.replicate n 0:=by
 apply List.ext_getElem
 ·simp [cnW]
 ·intro i h1 h2;simp [cnW]
theorem cnW_snoc (n:Nat) (l:List Int) (k:Nat) (hk:k<n):cnW n (l ++ [(k:Int)])=(cnW n l).set k ((l.count (k:Int):Int)+1):=by
 apply List.ext_getElem
 ·simp [cnW]
 ·intro i h1 h2
  rw [List.getElem_set,cnW_get,cnW_get,List.count_append]
  by_cases h:k=i
  ·subst h;simp
  ·rw [if_neg h]
   have:¬ (k:Int)=(i:Int):=by omega
   simp [this]
theorem cnt_le (l:List Int) (x:Int):l.count x≤l.length:=List.count_le_length
theorem met_iff (a b:List Int) (x:Int):((a.count x:Int)+(b.count x:Int)=0) ↔ ¬ ((a ++ b).contains x=true):=by
 have h:(a ++ b).count x=a.count x+b.count x:=List.count_append
 have h2:0<(a ++ b).count x ↔ x ∈ a ++ b:=List.count_pos_iff
 have h3:(a ++ b).contains x=true ↔ x ∈ a ++ b:=by simp
 rw [h3,← h2,h]
 omega
end Go.Proofs.YtbljmfcifljkaaaGreatDoor
/-
  A valid graph by the reference's tests, plain. Own work.
-/
namespace Go.Proofs.YtbljmfcifljkaaaGreatDoor
theorem inG_append (n:Int) (a b:List Int):inG n (a ++ b)=(inG n a && inG n b):=List.all_append
theorem inG_flat (n:Int):∀ es:List EdI,inG n (es.flatMap fun e=>e.ins ++ e.outs)=es.all fun e=>inG n e.ins && inG n e.outs
 | []=>rfl
 | e :: es=>by rw [List.flatMap_cons,inG_append,inG_append,inG_flat n es,List.all_cons]
theorem all_and {α:Type} (f g:α → Bool):∀ l:List α,(l.all fun x=>f x && g x)=(l.all f && l.all g)
 | []=>rfl
 | x :: l=>by rw [List.all_cons,List.all_cons,List.all_cons,all_and f g l];cases f x <;> cases g x <;> cases l.all f <;> rfl
theorem mem_places (g:GrI) (x:Int):x ∈ g.origs ++ g.dests ↔ x ∈ g.places:=by
 unfold GrI.origs GrI.dests GrI.places
 simp only [List.mem_append,List.mem_flatMap]
 constructor
 ·rintro ((h|⟨e,he,h⟩)|(h|⟨e,he,h⟩))
  ·exact .inl h
  ·exact .inr (.inr ⟨e,he,.inr h⟩)
  ·exact .inr (.inl h)
  ·exact .inr (.inr ⟨e,he,.inl h⟩)
 ·rintro (h|h|⟨e,he,h|h⟩)
  ·exact .inl (.inl h)
  ·exact .inr (.inl h)
  ·exact .inr (.inr ⟨e,he,h⟩)
  ·exact .inl (.inr ⟨e,he,h⟩)
theorem allG_counts (g:GrI):allG g=true ↔ ∀ w:Nat,(w:Int)<g.wires → ¬ ((g.origs.count (w:Int):Int)+(g.dests.count (w:Int):Int)=0):=by
 unfold allG
 rw [List.all_eq_true]
 constructor
 ·intro h w hw he
  rw [met_iff] at he
  have h1:=h w (List.mem_range.2 (by omega))
  refine he ?_
  rw [List.contains_iff_mem] at h1 ⊢
  exact (mem_places g _).2 h1
 ·intro h w hw
  have h1:=h w (by have:=List.mem_range.1 hw;omega)
  rw [met_iff,Decidable.not_not,List.contains_iff_mem] at h1
  rw [List.contains_iff_mem]
  exact (mem_places g _).1 h1
def hgFitB (g:GrI):Bool:=gfitB g && (inG g.wires g.ins && inG g.wires g.outs)
theorem grB_hg (g:GrI):grB g=(hgFitB g && ((g.edges.all fun e=>hgEdB e g.wires) && allG g)):=by
 unfold grB hgFitB GrI.places hgEdB
 rw [inG_append,inG_append,inG_flat,all_and edB (fun e=>inG g.wires e.ins && inG g.wires e.outs) g.edges]
 generalize (g.edges.all fun e=>inG g.wires e.ins && inG g.wires e.outs)=q
 generalize g.edges.all edB=r
 generalize allG g=t
 cases gfitB g <;> cases r <;> cases inG g.wires g.ins <;> cases inG g.wires g.outs <;> cases q <;> cases t <;> rfl
end Go.Proofs.YtbljmfcifljkaaaGreatDoor
/-
  Monogamous by the counts, and values below p: plain. Own work.
-/
namespace Go.Proofs.YtbljmfcifljkaaaGreatDoor
theorem inG_iff (n:Int) (l:List Int):inG n l=true ↔ ∀ x ∈ l,0≤x∧x<n:=by
 unfold inG
 rw [List.all_eq_true]
 constructor
 ·intro h x hx
  have:=h x hx
  simp [inB] at this
  omega
 ·intro h x hx
  have:=h x hx
  simp [inB]
  omega
theorem allB_one (n:Nat) (l:List Int):allB 1 1 (cnW n l)=true ↔ ∀ w:Nat,w<n → l.count (w:Int)=1:=by
 unfold allB cnW
 rw [List.all_eq_true]
 constructor
 ·intro h w hw
  have:=h _ (List.mem_map.2 ⟨w,List.mem_range.2 hw,rfl⟩)
  simp [inB] at this
  omega
 ·intro h z hz
  obtain ⟨w,hw,rfl⟩:=List.mem_map.1 hz
  have:=h w (List.mem_range.1 hw)
  simp [inB]
  omega
theorem perm_counts (n:Int) (l:List Int) (hn:0≤n) (h:∀ x ∈ l,0≤x∧x<n):permB l n=allB 1 1 (cnW n.toNat l):=by
 have h2:=once_iff n.toNat l (fun x hx=>⟨(h x hx).1,by have:=(h x hx).2;omega⟩)
 have h3:=allB_one n.toNat l
 have h4:=(inG_iff n l).2 h
 unfold permB
 rw [h4,Bool.true_and,Bool.eq_iff_iff,h3,← h2,Bool.and_eq_true,decide_eq_true_iff,decide_eq_true_iff]
 constructor
 ·rintro ⟨a,b⟩;exact ⟨by omega,b⟩
 ·rintro ⟨a,b⟩;exact ⟨by omega,b⟩
theorem gr_range {g:GrI} (h:grB g=true):(0≤g.wires∧g.wires≤100)∧∀ x ∈ g.places,0≤x∧x<g.wires:=by
 unfold grB gfitB at h
 simp only [Bool.and_eq_true] at h
 obtain ⟨⟨h1,-⟩,-,h2,-⟩:=h
 exact ⟨by simpa [inB] using h1,(inG_iff _ _).1 h2⟩
theorem mono_counts {g:GrI} (h:grB g=true):monoB g=(allB 1 1 (cnW g.wires.toNat g.origs) && allB 1 1 (cnW g.wires.toNat g.dests)):=by
 obtain ⟨⟨h1,-⟩,h2⟩:=gr_range h
 unfold monoB
 rw [perm_counts _ _ h1 (fun x hx=>h2 x ((mem_places g x).1 (List.mem_append.2 (.inl hx)))),perm_counts _ _ h1 (fun x hx=>h2 x ((mem_places g x).1 (List.mem_append.2 (.inr hx))))]
theorem over_lt {g:GrI} {p:Int} (h:grB g=true) (hp:0<p):overB p g=g.edges.all fun e=>decide (e.value<p):=by
 unfold grB at h
 simp only [Bool.and_eq_true] at h
 obtain ⟨-,he,-⟩:=h
 rw [List.all_eq_true] at he
 unfold overB
 rw [Bool.eq_iff_iff,List.all_eq_true,List.all_eq_true]
 refine forall_congr' fun e=>forall_congr' fun hm=>?_
 have h1:=he e hm
 unfold edB genValB at h1
 simp only [Bool.and_eq_true] at h1
 obtain ⟨-,hg,-⟩:=h1
 cases hv:valB e.kind with
 | true=>rw [Bool.not_true,Bool.false_or]
 | false =>
  rw [hv] at hg
  have hz:e.value=0:=by simpa using hg
  rw [Bool.not_false,Bool.true_or,hz]
  simp [hp]
end Go.Proofs.YtbljmfcifljkaaaGreatDoor
/-
  hgMono, given the counts' contract. Own work.
-/
namespace Go.Proofs.YtbljmfcifljkaaaGreatDoor
open Go.RowKit
set_option maxRecDepth 100000
set_option maxHeartbeats 4000000
def CntP (g:GrI) (w:World) (e:Ending) (w':World):Prop :=
 ∃ v1 v2,e=.returned (.tuple #[v1,v2])∧IntsAt w' v1 (cnW g.wires.toNat g.origs)∧IntsAt w' v2 (cnW g.wires.toNat g.dests)∧Below w.heap.size w w'
theorem hgMono_any (g:GrI) (be bi bo:Option Addr) (de di dO:Nat) (w:World) (h:grB g=true)
  (hC:∀ u,Below w.heap.size w u → Calls Tryz.prog 197 #[.agg #[.int .i64 g.wires,.slice be g.edges.length de,.slice bi g.ins.length di,.slice bo g.outs.length dO]] u (CntP g u)) :
  Calls Tryz.prog 134 #[.agg #[.int .i64 g.wires,.slice be g.edges.length de,.slice bi g.ins.length di,.slice bo g.outs.length dO]] w (FlP (monoB g) w):=by
 have hA:=alloc_below w (.cells #[.int .i64 g.wires,.slice be g.edges.length de,.slice bi g.ins.length di,.slice bo g.outs.length dO] 53)
 have hCC:=hC _ hA
 clear hC
 unfold CntP at hCC
 have hm:=mono_counts h
 have hl1:(cnW g.wires.toNat g.origs).length≤1048576:=by rw [cnW_length];have:=gr_range h;omega
 have hl2:(cnW g.wires.toNat g.dests).length≤1048576:=by rw [cnW_length];have:=gr_range h;omega
 generalize cnW g.wires.toNat g.origs=l1 at *
 generalize cnW g.wires.toNat g.dests=l2 at *
 have hm2:∃ b1,allB 1 1 l1=b1:=⟨_,rfl⟩
 obtain ⟨b1,hb1⟩:=hm2
 have HM:=Lib.hid hm
 have H1:=Lib.hid hb1
 clear hm hb1 h
 cases b1
 all_goals
  go_enter Tryz.func134,Tryz.ntmps134
  go_wp2_with fail
  generalize (w.alloc (.cells #[.int .i64 g.wires,.slice be g.edges.length de,.slice bi g.ins.length di,.slice bo g.outs.length dO] 53))=u0 at *
  refine hCC.mono ?_
  rintro r w2 ⟨v1,v2,rfl,hv1,hv2,hB⟩
  have hA2:=hA.trans (hB.mono hA.size)
  clear hB hA hCC
  go_wp2_with (go_at_call 198;refine (l1All_any _ _ _ _ _ (by first|exact hv1|exact hv2) (by first|exact hl1|exact hl2)).mono ?_;rintro r w2 ⟨rfl,rfl⟩;(try rw [H1.out]))
  go_ret
  exact ⟨by rw [HM.out,H1.out];first|rfl|simp,hA2⟩
end Go.Proofs.YtbljmfcifljkaaaGreatDoor
/-
  The counts of wires, two rows made and filled: the state. Own work.
-/
namespace Go.Proofs.YtbljmfcifljkaaaGreatDoor
open Go.RowKit
set_option maxRecDepth 100000
set_option maxHeartbeats 4000000
structure CtSt (w0 w:World) (bf bt n:Nat) (a b:List Int):Prop where
 bel:Below w0.heap.size w0 w
 lo:w0.heap.size≤bf∧w0.heap.size≤bt
 ne:bf ≠ bt
 rf:w.ownsRow w0.heap.size 3 1 (.slice (some ⟨bf,0,none⟩) n n) n ((cnW n a).flatMap iCell)
 rt:w.ownsRow w0.heap.size 3 1 (.slice (some ⟨bt,0,none⟩) n n) n ((cnW n b).flatMap iCell)
theorem CtSt.keep {w0 w w':World} {bf bt n:Nat} {a b:List Int} (h:CtSt w0 w bf bt n a b) (hb:Below w.heap.size w w'):CtSt w0 w' bf bt n a b :=
 ⟨h.bel.trans (hb.mono h.bel.size),h.lo,h.ne,owns_keep hb h.rf,owns_keep hb h.rt⟩
theorem CtSt.from {w0 w:World} {bf bt n:Nat} {a b:List Int} (h:CtSt w0 w bf bt n a b) (k:Nat) (hk:k<n) :
  CtSt w0 (w.setCell ⟨bf,k,none⟩ (.int .i64 ((a.count (k:Int):Int)+1))) bf bt n (a ++ [(k:Int)]) b:=by
 obtain ⟨h1,h2,h3,h4,h5⟩:=h
 refine ⟨h1.setCell h2.1 _,h2,h3,?_,owns_other h5 _ _ (by simp [Value.ownBlock];exact fun e=>h3 e.symm)⟩
 rw [cnW_snoc n a k hk]
 exact owns_set iCell_len h4 k 0 k (by rw [cnW_length];exact hk) (by omega) (by omega) _ _ (by rfl)
theorem CtSt.to {w0 w:World} {bf bt n:Nat} {a b:List Int} (h:CtSt w0 w bf bt n a b) (k:Nat) (hk:k<n) :
  CtSt w0 (w.setCell ⟨bt,k,none⟩ (.int .i64 ((b.count (k:Int):Int)+1))) bf bt n a (b ++ [(k:Int)]):=by
 obtain ⟨h1,h2,h3,h4,h5⟩:=h
 refine ⟨h1.setCell h2.2 _,h2,h3,owns_other h4 _ _ (by simp [Value.ownBlock];exact h3),?_⟩
 rw [cnW_snoc n b k hk]
 exact owns_set iCell_len h5 k 0 k (by rw [cnW_length];exact hk) (by omega) (by omega) _ _ (by rfl)
theorem CtSt.cf {w0 w:World} {bf bt n:Nat} {a b:List Int} (h:CtSt w0 w bf bt n a b) (k:Nat) (hk:k<n) :
  w.cell? ⟨bf,k,none⟩=some (.int .i64 (a.count (k:Int):Int))∧w.frozen? ⟨bf,k,none⟩=false:=by
 have s0:=owns_cell iCell_len h.rf k 0 (by rw [cnW_length];exact hk) (by omega)
 rw [cnW_get] at s0
 simp only [iCell,Nat.mul_one,Nat.add_zero,List.getElem?_cons_zero] at s0
 exact ⟨s0,h.rf.frozenAt k⟩
theorem CtSt.ct {w0 w:World} {bf bt n:Nat} {a b:List Int} (h:CtSt w0 w bf bt n a b) (k:Nat) (hk:k<n) :
  w.cell? ⟨bt,k,none⟩=some (.int .i64 (b.count (k:Int):Int))∧w.frozen? ⟨bt,k,none⟩=false:=by
 have s0:=owns_cell iCell_len h.rt k 0 (by rw [cnW_length];exact hk) (by omega)
 rw [cnW_get] at s0
 simp only [iCell,Nat.mul_one,Nat.add_zero,List.getElem?_cons_zero] at s0
 exact ⟨s0,h.rt.frozenAt k⟩
theorem CtSt.ints {w0 w:World} {bf bt n:Nat} {a b:List Int} (h:CtSt w0 w bf bt n a b) :
  IntsAt w (.slice (some ⟨bf,0,none⟩) n n) (cnW n a)∧IntsAt w (.slice (some ⟨bt,0,none⟩) n n) (cnW n b):=by
 refine ⟨Rw.at (B:=w0.heap.size) ?_,Rw.at (B:=w0.heap.size) ?_⟩
 ·unfold Rw;rw [cnW_length];exact h.rf
 ·unfold Rw;rw [cnW_length];exact h.rt
theorem CtSt.start {w0 w:World} {bf bt n:Nat} (h1:Below w0.heap.size w0 w) (h2:w0.heap.size≤bf∧w0.heap.size≤bt) (h3:bf ≠ bt)
  (h4:w.ownsRow w0.heap.size 3 1 (.slice (some ⟨bf,0,none⟩) n n) n (madeCells (iCell 0).toArray (n * 1)).toList)
  (h5:w.ownsRow w0.heap.size 3 1 (.slice (some ⟨bt,0,none⟩) n n) n (madeCells (iCell 0).toArray (n * 1)).toList):CtSt w0 w bf bt n [] []:=by
 have hz:=made_flat (f:=iCell) (0:Int) n (sz:=1) (by omega) rfl
 rw [hz] at h4 h5
 refine ⟨h1,h2,h3,?_,?_⟩
 ·rw [cnW_nil];exact h4
 ·rw [cnW_nil];exact h5
theorem take_one {α:Type} (l:List α) (k:Nat) (h:k<l.length):l.take (k+1)=l.take k ++ [l[k]]:=List.take_succ_eq_append_getElem h
theorem take_flat {α β:Type} (f:α → List β) (l:List α) (k:Nat) (h:k<l.length):(l.take (k+1)).flatMap f=(l.take k).flatMap f ++ f l[k]:=by
 rw [take_one l k h,List.flatMap_append];simp
theorem places_mem {g:GrI}:(∀ x ∈ g.ins,x ∈ g.places)∧(∀ x ∈ g.outs,x ∈ g.places)∧∀ k,∀ h:k<g.edges.length,(∀ x ∈ (g.edges[k]'h).ins,x ∈ g.places)∧∀ x ∈ (g.edges[k]'h).outs,x ∈ g.places:=by
 unfold GrI.places
 refine ⟨fun x h=>by simp [h],fun x h=>by simp [h],fun k h=>⟨fun x hx=>?_,fun x hx=>?_⟩⟩
 ·simp only [List.mem_append,List.mem_flatMap]
  exact .inr (.inr ⟨_,List.getElem_mem h,.inl hx⟩)
 ·simp only [List.mem_append,List.mem_flatMap]
  exact .inr (.inr ⟨_,List.getElem_mem h,.inr hx⟩)
end Go.Proofs.YtbljmfcifljkaaaGreatDoor
/-
  The reference's hgMap: a graph with other wires. Own work; printed by parRg.py.
-/
namespace Go.Proofs.YtbljmfcifljkaaaGreatDoor
open Go.RowKit
set_option maxRecDepth 100000
set_option maxHeartbeats 8000000
structure MpSt (w wr:World) (bA C D:Nat) (cnt:Int) (vi vo:Value) (li lo:List Int) (L:List EdI) (a:Option Addr) (n c:Nat) (xs:List EdV):Prop where
 blk:Bk wr bA 53 #[.int .i64 cnt,.slice a n c,vi,vo]
 row:EdS wr D (.slice a n c) xs
 len:n=xs.length
 fst:xs.map Prod.fst=L
 inn:Rw wr w.heap.size vi li
 out:Rw wr C vo lo
 bel:Below w.heap.size w wr
 lo:w.heap.size≤bA
 sz:D≤wr.heap.size
theorem MpSt.keep {w wr w':World} {bA C D:Nat} {cnt:Int} {vi vo:Value} {li lo:List Int} {L:List EdI} {a:Option Addr} {n c:Nat} {xs:List EdV} (h:MpSt w wr bA C D cnt vi vo li lo L a n c xs) (hb:Below wr.heap.size wr w'):MpSt w w' bA C D cnt vi vo li lo L a n c xs :=
 ⟨h.blk.keep hb,h.row.keep hb,h.len,h.fst,h.inn.keep hb,h.out.keep hb,h.bel.trans (hb.mono h.bel.size),h.lo,Nat.le_trans h.sz hb.size⟩
end Go.Proofs.YtbljmfcifljkaaaGreatDoor
/-
  Own rows of edges appended outside a drawn region; hgOwn and the identity graphs. Own work.
-/
namespace Go.Proofs.YtbljmfcifljkaaaGreatDoor
open Go.RowKit
set_option maxRecDepth 100000
set_option maxHeartbeats 4000000
theorem EdsO.setB {w:World} {B b:Nat} {v:Value} {L:List EdI} {t:TypeId} {cs:Array Value} (h:EdsO w B v L) (kb:Bk w b t cs) (h1:189 ≠ t) (h2:3 ≠ t) (j:Nat) (u:Value):EdsO (w.setCell ⟨b,j,none⟩ u) B v L:=by
 obtain ⟨xs,rfl,h3,h4⟩:=h
 exact (EdS.setB ⟨h3,h4⟩ kb h1 h2 j u).o
theorem Rw.setB {w:World} {B b:Nat} {v:Value} {l:List Int} {t:TypeId} {cs:Array Value} (h:Rw w B v l) (kb:Bk w b t cs) (h2:3 ≠ t) (j:Nat) (u:Value):Rw (w.setCell ⟨b,j,none⟩ u) B v l:=owns_other h _ _ (row_blk_ne h kb h2)
theorem GrO.setB {w:World} {B b:Nat} {ve vi vo:Value} {g:GrI} {t:TypeId} {cs:Array Value} (h:GrO w B ve vi vo g) (kb:Bk w b t cs) (h1:189 ≠ t) (h2:3 ≠ t) (j:Nat) (u:Value):GrO (w.setCell ⟨b,j,none⟩ u) B ve vi vo g :=
 ⟨h.ed.setB kb h1 h2 j u,h.inn.setB kb h2 j u,h.out.setB kb h2 j u⟩
theorem GrS.setB {w:World} {B b:Nat} {ve vi vo:Value} {g:GrI} {t:TypeId} {cs:Array Value} (h:GrS w B ve vi vo g) (kb:Bk w b t cs) (h1:189 ≠ t) (h2:3 ≠ t) (j:Nat) (u:Value):GrS (w.setCell ⟨b,j,none⟩ u) B ve vi vo g:=by
 obtain ⟨C,D,q1,q2,q3,q4,q5,q6,q7,q8⟩:=h
 exact ⟨C,D,q1,q2,q3.setB kb h1 h2 j u,q4.setB kb h2 j u,q5.setB kb h2 j u,q6,q7,by rw [World.size_setCell];exact q8⟩
theorem owns_grow {w w':World} {B e sz n:Nat} {v:Value} {xs:List Value} {row:Option Nat} (h:w.ownsRow B e sz v n xs) (hg:w.grownBy w' row) (hr:∀ k,v.ownBlock=some k → row ≠ some k):w'.ownsRow B e sz v n xs:=by
 refine ⟨h.1,?_⟩
 rcases h.2 with hn|⟨g,cap,cur,rfl,hbb,hgg,rest⟩
 ·exact .inl hn
 ·exact .inr ⟨g,cap,cur,rfl,hbb,(hg.block g (Array.getElem?_eq_some_iff.1 hgg).1 (fun e=>hr g rfl e.symm)).trans hgg,rest⟩
theorem EdsO.grown {w w':World} {B:Nat} {v r:Value} {L:List EdI} (h:EdsO w B v L) (hg:w.grownBy w' r.ownBlock) {B2 n:Nat} {zs:List Value} (hr:w.ownsRow B2 3 1 r n zs) (hlt:∀ j,r.ownBlock=some j → j<B):EdsO w' B v L:=by
 obtain ⟨xs,rfl,h3,h4⟩:=h
 have mv:∀ (u:Value) l,Rw w B u l → Rw w' B u l:=fun u l hu=>hu.grown hg fun k hk e=>by
  have:=(World.ownsRow.lt hu k hk).1
  have:=hlt k e
  omega
 exact ⟨xs,rfl,owns_grow h3 hg (fun k hk e=>owns_ne h3 hr (by decide) k hk e),fun x hx=>⟨mv _ _ (h4 x hx).1,mv _ _ (h4 x hx).2⟩⟩
theorem GrMs.q {g:GrI} {w w':World} {e:Ending} (h:GrMs g w e w'):∃ a1 c1 a2 c2 a3 c3,e=.returned (.agg #[.int .i64 g.wires,.slice a1 g.edges.length c1,.slice a2 g.ins.length c2,.slice a3 g.outs.length c3]) ∧
  GrS w' w.heap.size (.slice a1 g.edges.length c1) (.slice a2 g.ins.length c2) (.slice a3 g.outs.length c3) g∧Below w.heap.size w w':=by
 obtain ⟨v1,v2,v3,rfl,h1,h2⟩:=h
 obtain ⟨⟨x1,y1,rfl⟩,⟨x2,y2,rfl⟩,x3,y3,rfl⟩:=h1.o.at.slices
 exact ⟨x1,y1,x2,y2,x3,y3,rfl,h1,h2⟩
theorem GrMk.q {g:GrI} {w w':World} {e:Ending} (h:GrMk g w e w'):∃ a1 c1 a2 c2 a3 c3,e=.returned (.agg #[.int .i64 g.wires,.slice a1 g.edges.length c1,.slice a2 g.ins.length c2,.slice a3 g.outs.length c3]) ∧
  GrO w' w.heap.size (.slice a1 g.edges.length c1) (.slice a2 g.ins.length c2) (.slice a3 g.outs.length c3) g∧Below w.heap.size w w':=by
 obtain ⟨v1,v2,v3,rfl,h1,h2⟩:=h
 obtain ⟨⟨x1,y1,rfl⟩,⟨x2,y2,rfl⟩,x3,y3,rfl⟩:=h1.at.slices
 exact ⟨x1,y1,x2,y2,x3,y3,rfl,h1,h2⟩
theorem GrMs.k {g:GrI} {w w':World} {e:Ending} (h:GrMs g w e w'):GrMk g w e w':=by
 obtain ⟨v1,v2,v3,rfl,h1,h2⟩:=h
 exact ⟨v1,v2,v3,rfl,h1.o,h2⟩
end Go.Proofs.YtbljmfcifljkaaaGreatDoor
