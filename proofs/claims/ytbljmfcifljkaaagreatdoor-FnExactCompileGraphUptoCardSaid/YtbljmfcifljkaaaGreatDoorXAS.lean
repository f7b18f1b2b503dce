/-
  Own rows of gates, of instructions and of edges that share their lists. Own work.
-/
import Derived.Test.YtbljmfcifljkaaaGreatDoorXAR
import Derived.Test.YtbljmfcifljkaaaGreatDoorXAD
set_option linter.all false
set_option maxRecDepth 100000
set_option maxHeartbeats 8000000
namespace Go.Proofs.YtbljmfcifljkaaaGreatDoor
open Go.RowKit
set_option maxRecDepth 100000
set_option maxHeartbeats 1000000
theorem infoGate:(Tryz.prog.info? 203).map (fun i=>(i.zero,i.size,i.bytes))=some (some (.agg #[.int .i64 0,.int .i64 0,.int .i64 0,.int .i64 0]),4,32):=by kernel_rfl
theorem infoInstr:(Tryz.prog.info? 206).map (fun i=>(i.zero,i.size,i.bytes))=some (some (.agg #[.int .i64 0,.int .i64 0,.int .i64 0,.int .i64 0,.int .i64 0]),5,40):=by kernel_rfl
theorem infoInts:(Tryz.prog.info? 40).map (fun i=>(i.zero,i.size,i.bytes))=some (some (.slice none 0 0),1,24):=by kernel_rfl
def GRw (w:World) (B:Nat) (v:Value) (gs:List GtI):Prop:=w.ownsRow B 203 4 v gs.length (gs.flatMap gtCells)
theorem gtCells_len (g:GtI):(gtCells g).length=4:=rfl
theorem gtCells_one (gs:List GtI):∀ u ∈ gs.flatMap gtCells,u.oneCell'=true:=by
 intro u hu
 obtain ⟨g,_,hd⟩:=List.mem_flatMap.1 hu
 simp only [gtCells,List.mem_cons,List.not_mem_nil,or_false] at hd
 rcases hd with rfl|rfl|rfl|rfl <;> rfl
theorem GRw.keep {w w':World} {B:Nat} {v:Value} {gs:List GtI} (hb:Below w.heap.size w w') (h:GRw w B v gs):GRw w' B v gs:=owns_keep hb h
theorem GRw.slice {w:World} {B:Nat} {v:Value} {gs:List GtI} (h:GRw w B v gs):∃ a c,v=.slice a gs.length c:=by
 rcases h.2 with ⟨e,h0⟩|⟨g,cap,cur,e,_⟩
 ·subst e
  have:gs.length=0:=by
   have h1:=h.1
   cases gs with
   | nil=>rfl
   | cons x r=>simp [gtCells] at h0
  exact ⟨none,0,by rw [this]⟩
 ·exact ⟨_,_,e⟩
theorem GRw.at {w:World} {B:Nat} {v:Value} {gs:List GtI} (h:GRw w B v gs):GtsAt w v gs:=by
 refine owns_slat h _ fun i b o hi hc=>⟨hi,?_⟩
 have g:∀ j,j<4 → w.cell? ⟨b,o+j,none⟩=(gtCells gs[i])[j]?:=fun j hj=>(hc j hj).trans (flat_get gtCells_len gs i j hi hj)
 exact ⟨g 0 (by omega),g 1 (by omega),g 2 (by omega),g 3 (by omega)⟩
theorem gts_src {w:World} {v:Value} {gs:List GtI} (h:GtsAt w v gs):SrcAt w 4 v gs.length (gs.flatMap gtCells):=by
 refine slat_src (by omega) gtCells_len h ?_
 rintro i b o hi ⟨_,h0,h1,h2,h3⟩ j hj
 match j,hj with
 | 0,_=>exact h0
 | 1,_=>exact h1
 | 2,_=>exact h2
 | 3,_=>exact h3
theorem gts_append {w:World} {v:Value} {zs:List GtI} (h:GtsAt w v zs) {ops:Array Oper} {rest:List Oper} {o:Oper} {a:Act} {Q:Exit → Act → World → Prop} (hgd:o.guard=none) (s x:Operand)
  (ho:o.op=.call { callee:=.builtin .append,args:=#[s,x],argTypes:=#[110,110] })
  (B:Nat) (u:Value) (xs:List GtI) (hs:a.eval s=u) (hx:a.eval x=v) (hown:GRw w B u xs) (hB:B≤w.heap.size) (hl:xs.length+zs.length≤1048576)
  (H:∀ v' w',GRw w' B v' (xs ++ zs) → w.grownBy w' u.ownBlock → (v'.ownBlock=u.ownBlock∨v'.ownBlock=some w.heap.size) → wpList Tryz.prog ops Q rest (a.put o.dst v') w'):wpList Tryz.prog ops Q (o :: rest) a w:=by
 obtain ⟨i0,hi,hz0,hz1,hz2⟩:=info_parts infoGate
 refine wpList_append_src hgd s x 110 ho B 203 i0 _ 4 32 Tryz.underlying110 hi hz0 hz1 hz2 rfl (by decide) u xs.length _ hs hown v zs.length _ hx (gts_src h) (gtCells_one zs) (by unfold maxLen;omega) (by omega) hB ?_
 intro v' w' h1 h2 h3
 refine H v' w' ?_ h2 h3
 unfold GRw
 rw [List.length_append,List.flatMap_append]
 exact h1
theorem gat_one (w:World) (g:GtI):GtsAt (w.alloc (.cells #[.int .i64 g.kind,.int .i64 g.a,.int .i64 g.b,.int .i64 g.value] 203)) (.slice (some ⟨w.heap.size,0,none⟩) 1 1) [g]:=by
 refine ⟨_,_,rfl,Nat.le_refl _,fun i hi=>⟨_,_,rfl,by simpa using hi,?_⟩⟩
 obtain rfl:i=0:=by simp at hi;omega
 exact ⟨by simp,by simp,by simp,by simp⟩
def inCells (i:InI):List Value:=[.int .i64 i.op,.int .i64 i.r,.int .i64 i.a,.int .i64 i.b,.int .i64 i.value]
def InAt (w:World) (i:InI) (b o:Nat):Prop :=
 w.cell? ⟨b,o,none⟩=some (.int .i64 i.op)∧w.cell? ⟨b,o+1,none⟩=some (.int .i64 i.r)∧w.cell? ⟨b,o+2,none⟩=some (.int .i64 i.a)∧w.cell? ⟨b,o+3,none⟩=some (.int .i64 i.b)∧w.cell? ⟨b,o+4,none⟩=some (.int .i64 i.value)
def InsAt (w:World) (v:Value) (is:List InI):Prop:=SlAt 5 v is.length fun i b o=>∃ h:i<is.length,InAt w is[i] b o
theorem InAt.keep {w w':World} (hb:Below w.heap.size w w') {i:InI} {b o:Nat} (h:InAt w i b o):InAt w' i b o:=⟨cell_keep hb h.1,cell_keep hb h.2.1,cell_keep hb h.2.2.1,cell_keep hb h.2.2.2.1,cell_keep hb h.2.2.2.2⟩
theorem InsAt.keep {w w':World} (hb:Below w.heap.size w w') {v:Value} {is:List InI} (h:InsAt w v is):InsAt w' v is:=SlAt.mono h fun _ _ _ ⟨hi,r⟩=>⟨hi,r.keep hb⟩
theorem InsAt.slice {w:World} {v:Value} {is:List InI} (h:InsAt w v is):∃ a c,v=.slice a is.length c∧is.length≤c:=by obtain ⟨a,c,rfl,hc,_⟩:=h;exact ⟨a,c,rfl,hc⟩
def IRw (w:World) (B:Nat) (v:Value) (is:List InI):Prop:=w.ownsRow B 206 5 v is.length (is.flatMap inCells)
theorem inCells_len (i:InI):(inCells i).length=5:=rfl
theorem inCells_one (is:List InI):∀ u ∈ is.flatMap inCells,u.oneCell'=true:=by
 intro u hu
 obtain ⟨g,_,hd⟩:=List.mem_flatMap.1 hu
 simp only [inCells,List.mem_cons,List.not_mem_nil,or_false] at hd
 rcases hd with rfl|rfl|rfl|rfl|rfl <;> rfl
theorem IRw.keep {w w':World} {B:Nat} {v:Value} {is:List InI} (hb:Below w.heap.size w w') (h:IRw w B v is):IRw w' B v is:=owns_keep hb h
theorem IRw.slice {w:World} {B:Nat} {v:Value} {is:List InI} (h:IRw w B v is):∃ a c,v=.slice a is.length c:=by
 rcases h.2 with ⟨e,h0⟩|⟨g,cap,cur,e,_⟩
 ·subst e
  have:is.length=0:=by
   cases is with
   | nil=>rfl
   | cons x r=>simp [inCells] at h0
  exact ⟨none,0,by rw [this]⟩
 ·exact ⟨_,_,e⟩
theorem IRw.at {w:World} {B:Nat} {v:Value} {is:List InI} (h:IRw w B v is):InsAt w v is:=by
 refine owns_slat h _ fun i b o hi hc=>⟨hi,?_⟩
 have g:∀ j,j<5 → w.cell? ⟨b,o+j,none⟩=(inCells is[i])[j]?:=fun j hj=>(hc j hj).trans (flat_get inCells_len is i j hi hj)
 exact ⟨g 0 (by omega),g 1 (by omega),g 2 (by omega),g 3 (by omega),g 4 (by omega)⟩
theorem ins_src {w:World} {v:Value} {is:List InI} (h:InsAt w v is):SrcAt w 5 v is.length (is.flatMap inCells):=by
 refine slat_src (by omega) inCells_len h ?_
 rintro i b o hi ⟨_,h0,h1,h2,h3,h4⟩ j hj
 match j,hj with
 | 0,_=>exact h0
 | 1,_=>exact h1
 | 2,_=>exact h2
 | 3,_=>exact h3
 | 4,_=>exact h4
theorem ins_append {w:World} {v:Value} {zs:List InI} (h:InsAt w v zs) {ops:Array Oper} {rest:List Oper} {o:Oper} {a:Act} {Q:Exit → Act → World → Prop} (hgd:o.guard=none) (s x:Operand)
  (ho:o.op=.call { callee:=.builtin .append,args:=#[s,x],argTypes:=#[66,66] })
  (B:Nat) (u:Value) (xs:List InI) (hs:a.eval s=u) (hx:a.eval x=v) (hown:IRw w B u xs) (hB:B≤w.heap.size) (hl:xs.length+zs.length≤1048576)
  (H:∀ v' w',IRw w' B v' (xs ++ zs) → w.grownBy w' u.ownBlock → (v'.ownBlock=u.ownBlock∨v'.ownBlock=some w.heap.size) → wpList Tryz.prog ops Q rest (a.put o.dst v') w'):wpList Tryz.prog ops Q (o :: rest) a w:=by
 obtain ⟨i0,hi,hz0,hz1,hz2⟩:=info_parts infoInstr
 refine wpList_append_src hgd s x 66 ho B 206 i0 _ 5 40 Tryz.underlying66 hi hz0 hz1 hz2 rfl (by decide) u xs.length _ hs hown v zs.length _ hx (ins_src h) (inCells_one zs) (by unfold maxLen;omega) (by omega) hB ?_
 intro v' w' h1 h2 h3
 refine H v' w' ?_ h2 h3
 unfold IRw
 rw [List.length_append,List.flatMap_append]
 exact h1
theorem inst_one (w:World) (i:InI):InsAt (w.alloc (.cells #[.int .i64 i.op,.int .i64 i.r,.int .i64 i.a,.int .i64 i.b,.int .i64 i.value] 206)) (.slice (some ⟨w.heap.size,0,none⟩) 1 1) [i]:=by
 refine ⟨_,_,rfl,Nat.le_refl _,fun j hj=>⟨_,_,rfl,by simpa using hj,?_⟩⟩
 obtain rfl:j=0:=by simp at hj;omega
 exact ⟨by simp,by simp,by simp,by simp,by simp⟩
abbrev EgV:=EdI × Value × Value
def evCells (x:EgV):List Value:=[.int .i64 x.1.kind,.int .i64 x.1.value,x.2.1,x.2.2]
def EvOk (w:World) (x:EgV):Prop:=IntsAt w x.2.1 x.1.ins∧IntsAt w x.2.2 x.1.outs
theorem EvOk.keep {w w':World} (hb:Below w.heap.size w w') {x:EgV} (h:EvOk w x):EvOk w' x:=⟨h.1.keep hb,h.2.keep hb⟩
structure EvR (w0 w:World) (B:Nat) (v:Value) (xs:List EgV):Prop where
 row:w.ownsRow B 189 4 v xs.length (xs.flatMap evCells)
 els:∀ x ∈ xs,EvOk w0 x
theorem EvR.keep {w0 w w':World} {B:Nat} {v:Value} {xs:List EgV} (hb:Below w.heap.size w w') (h:EvR w0 w B v xs):EvR w0 w' B v xs:=⟨owns_keep hb h.row,h.els⟩
theorem evCells_len (x:EgV):(evCells x).length=4:=rfl
theorem EvR.at {w0 w:World} {B:Nat} {v:Value} {xs:List EgV} (h:EvR w0 w B v xs) (hb:Below w0.heap.size w0 w):EdsAt w v (xs.map Prod.fst):=by
 have ho:w.ownsRow B 189 4 v (xs.map Prod.fst).length (xs.flatMap evCells):=by rw [List.length_map];exact h.row
 refine owns_slat ho _ fun i b o hi' hc=>⟨hi',?_⟩
 have hi:i<xs.length:=by simpa using hi'
 have g:∀ j,j<4 → w.cell? ⟨b,o+j,none⟩=(evCells xs[i])[j]?:=fun j hj=>(hc j hj).trans (flat_get evCells_len xs i j hi hj)
 rw [List.getElem_map]
 have hk:=(h.els _ (List.getElem_mem hi)).keep hb
 exact ⟨g 0 (by omega),g 1 (by omega),xs[i].2.1,xs[i].2.2,g 2 (by omega),g 3 (by omega),hk.1,hk.2⟩
theorem EvR.slice {w0 w:World} {B:Nat} {v:Value} {xs:List EgV} (h:EvR w0 w B v xs):∃ a c,v=.slice a xs.length c:=by
 rcases h.row.2 with ⟨e,h0⟩|⟨g,cap,cur,e,_⟩
 ·subst e
  have:xs.length=0:=by
   cases xs with
   | nil=>rfl
   | cons x r=>simp [evCells] at h0
  exact ⟨none,0,by rw [this]⟩
 ·exact ⟨_,_,e⟩
theorem EvR.nil (w0 w:World) (B:Nat):EvR w0 w B (.slice none 0 0) []:=⟨World.ownsRow_nil _ _ _ _,by simp⟩
theorem ev_one (w:World) (x:EgV) (hx:∀ u,u=x.2.1∨u=x.2.2 → u.oneCell'=true):SrcAt (w.alloc (.cells #[.int .i64 x.1.kind,.int .i64 x.1.value,x.2.1,x.2.2] 189)) 4 (.slice (some ⟨w.heap.size,0,none⟩) 1 1) 1 (evCells x):=by
 refine ⟨rfl,.inr ⟨_,_,rfl,fun j u hj=>?_⟩⟩
 have hj4:j<4:=by
  rcases Nat.lt_or_ge j 4 with h|h
  ·exact h
  ·rw [List.getElem?_eq_none (by simpa [evCells] using h)] at hj;cases hj
 match j,hj4 with
 | 0,_=>simp [evCells] at hj;subst hj;simp [Addr.add]
 | 1,_=>simp [evCells] at hj;subst hj;simp [Addr.add]
 | 2,_=>simp [evCells] at hj;subst hj;simp [Addr.add]
 | 3,_=>simp [evCells] at hj;subst hj;simp [Addr.add]
theorem ints_cell1 {w:World} {v:Value} {zs:List Int} (h:IntsAt w v zs):v.oneCell'=true:=by obtain ⟨a,c,rfl,_⟩:=h;rfl
theorem ev_append {w0 w:World} {u:Value} {x:EgV} (h:SrcAt w 4 u 1 (evCells x)) (hx0:EvOk w0 x) {ops:Array Oper} {rest:List Oper} {o:Oper} {a:Act} {Q:Exit → Act → World → Prop} (hgd:o.guard=none) (s y:Operand)
  (ho:o.op=.call { callee:=.builtin .append,args:=#[s,y],argTypes:=#[51,51] })
  (B:Nat) (v:Value) (xs:List EgV) (hs:a.eval s=v) (hy:a.eval y=u) (hown:EvR w0 w B v xs) (hB:B≤w.heap.size) (hl:xs.length≤1000000)
  (H:∀ v' w',EvR w0 w' B v' (xs ++ [x]) → w.grownBy w' v.ownBlock → (v'.ownBlock=v.ownBlock∨v'.ownBlock=some w.heap.size) → wpList Tryz.prog ops Q rest (a.put o.dst v') w'):wpList Tryz.prog ops Q (o :: rest) a w:=by
 obtain ⟨i0,hi,hz0,hz1,hz2⟩:=info_parts infoEdge
 refine wpList_append_src hgd s y 51 ho B 189 i0 _ 4 64 Tryz.underlying51 hi hz0 hz1 hz2 rfl (by decide) v xs.length _ hs hown.row u 1 _ hy h ?_ (by unfold maxLen;omega) (by omega) hB ?_
 ·intro z hz
  simp only [evCells,List.mem_cons,List.not_mem_nil,or_false] at hz
  rcases hz with rfl|rfl|rfl|rfl
  ·rfl
  ·rfl
  ·exact ints_cell1 hx0.1
  ·exact ints_cell1 hx0.2
 intro v' w' h1 h2 h3
 refine H v' w' ⟨?_,fun y hy=>?_⟩ h2 h3
 ·rw [List.length_append,List.flatMap_append,List.flatMap_cons,List.flatMap_nil,List.append_nil]
  exact h1
 ·rcases List.mem_append.1 hy with hy|hy
  ·exact hown.els y hy
  ·simp at hy;subst hy;exact hx0
end Go.Proofs.YtbljmfcifljkaaaGreatDoor
