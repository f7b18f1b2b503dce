/-
  The program of a circuit, by the reference: its state. Own work.
-/
import Derived.Test.YtbljmfcifljkaaaGreatDoorXAW
import Derived.Test.YtbljmfcifljkaaaGreatDoorXBB
set_option linter.all false
set_option maxRecDepth 100000
set_option maxHeartbeats 8000000
namespace Go.Proofs.YtbljmfcifljkaaaGreatDoor
open Go.RowKit
set_option maxRecDepth 100000
set_option maxHeartbeats 2000000
theorem x_insapp {ops:Array Oper} {Q:Exit → Act → World → Prop} {T:Nat → Prop} {w0:World} {i:Nat} {l:List Nat} {bs:Nat → Prop} {a:Act} {w:World} {o:Oper} (ho:ops[i]?=some o) (hk:opKind o=.act) (hg:o.guard=none) (hC:Exc T w0 w) (s x:Operand)
  (hop:o.op=Op.call { callee:=Callee.builtin Builtin.append,args:=#[s,x],argTypes:=#[66,66] })
  (B:Nat) (v:Value) (xs ys:List InI) (b m c:Nat) (hm:ys.length=m) (hs:a.eval s=v) (hx:a.eval x=.slice (some ⟨b,0,none⟩) m c)
  (hvT:∀ k,v.ownBlock=some k → (k<w0.heap.size∧T k)∨(w0.heap.size≤k∧bs k)) (hbase:B≤w.heap.size) (hl:xs.length+m≤100000)
  (hrow:IRw w B v xs) (hbo:w.heap[b]?=some (.cells (ys.flatMap inCells).toArray 206))
  (h:∀ K:(Nat → Prop) → Act → World → Prop,(∀ bs a w,WX Tryz.prog ops (Exc T w0) w0.heap.size Q l bs a w → K bs a w) → ∀ w1 w2 v',Exc T w0 w1 → Below w.heap.size w w1 →
   IRw w2 B v' (xs ++ ys) → w1.grownBy w2 v.ownBlock → Exc T w0 w2 → (v'.ownBlock=v.ownBlock∨v'.ownBlock=some w1.heap.size) → K (more bs w1 w2) (a.put o.dst v') w2) :
  WX Tryz.prog ops (Exc T w0) w0.heap.size Q (i :: l) bs a w:=by
 subst hm
 obtain ⟨i0,hi,hz0,hz1,hz2⟩:=info_parts infoInstr
 refine x_src ho hk hg hC s x 66 hop B 206 i0 _ 5 40 Tryz.underlying66 hi hz0 hz1 hz2 rfl (by decide) v xs.length (xs.flatMap inCells) hs hvT (.slice (some ⟨b,0,none⟩) ys.length c) ys.length (ys.flatMap inCells) hx ?_ (by unfold maxLen;omega) (by omega) hbase ?_ ?_
 ·exact inCells_one ys
 ·intro w1 hw1 hb1
  refine ⟨hrow.keep hb1,flat_length inCells_len ys,.inr ⟨_,c,rfl,?_⟩⟩
  obtain ⟨m0,_,_⟩:=made_cell ((hb1.block b (made_cell hbo).2.2).trans hbo)
  intro j u hj
  rw [addr_add,Nat.zero_add,m0 j]
  simpa using hj
 ·intro K hK w1 w2 v' hw1 hb1 h1 h2 h3 h4
  refine h K hK w1 w2 v' hw1 hb1 ?_ h2 h3 h4
  unfold IRw
  rw [List.length_append,List.flatMap_append]
  exact h1
structure CmW (w:World) (i0 i1 i2 r:Int) (wr:World) (vh vr vp:Value) (H R:List Int) (P:List InI):Prop where
 kx:Bk wr w.heap.size 68 #[.int .i64 i0,.int .i64 i1,.int .i64 i2,.int .i64 r,vp]
 rh:Rw wr w.heap.size vh H
 rr:Rw wr w.heap.size vr R
 rp:IRw wr w.heap.size vp P
 ap:∀ j,vh.ownBlock=some j → vr.ownBlock ≠ some j
 bel:Below w.heap.size w wr
section
variable {w:World} {i0 i1 i2 r:Int} {wr w':World} {vh vr vp:Value} {H R:List Int} {P:List InI}
theorem CmW.keep (h:CmW w i0 i1 i2 r wr vh vr vp H R P) (hb:Below wr.heap.size wr w'):CmW w i0 i1 i2 r w' vh vr vp H R P :=
 ⟨h.kx.keep hb,h.rh.keep hb,h.rr.keep hb,h.rp.keep hb,h.ap,h.bel.trans (hb.mono h.bel.size)⟩
theorem CmW.appH {vh':Value} {H':List Int} (h:CmW w i0 i1 i2 r wr vh vr vp H R P) (hg:wr.grownBy w' vh.ownBlock) (q:Rw w' w.heap.size vh' H') (q3:vh'.ownBlock=vh.ownBlock∨vh'.ownBlock=some wr.heap.size):CmW w i0 i1 i2 r w' vh' vr vp H' R P :=
 ⟨h.kx.grown hg (row_blk_ne h.rh h.kx (by decide)),q,h.rr.grown hg (fun k hk e=>h.ap k e hk),owns_grown h.rp hg (fun k hk e=>owns_ne h.rh h.rp (by decide) k e hk),
  fun j hj e=>by
   rcases q3 with q3|q3
   ·exact h.ap j (q3 ▸ hj) e
   ·rw [q3] at hj
    cases hj
    have:=(World.ownsRow.lt h.rr _ e).2
    omega,h.bel.grown hg h.bel.size (fun j hj=>(World.ownsRow.lt h.rh j hj).1)⟩
theorem CmW.putH (h:CmW w i0 i1 i2 r wr vh vr vp H R P) {m:Nat} (hm:m<H.length) (z:Int) :
  ∃ q c old,vh=.slice (some ⟨q,0,none⟩) H.length c∧w.heap.size≤q∧wr.cell? ⟨q,m,none⟩=some (.int .i64 old)∧wr.frozen? ⟨q,m,none⟩=false∧q<wr.heap.size∧(∀ {b t cs},Bk wr b t cs → 3 ≠ t → b ≠ q)∧CmW w i0 i1 i2 r (wr.setCell ⟨q,m,none⟩ (.int .i64 z)) vh vr vp (H.set m z) R P:=by
 obtain ⟨q,c,e,hg,hBg⟩:=h.rh.block (by omega)
 subst e
 obtain ⟨⟨d0,f0⟩,hset⟩:=Rw.put h.rh rfl hm z
 have hne:∀ {b:Nat} {t:TypeId} {cs:Array Value},Bk wr b t cs → 3 ≠ t → b ≠ q:=fun hb ht e=>row_blk_ne h.rh hb ht (by simp [Value.ownBlock,e])
 exact ⟨q,c,_,rfl,hBg,d0,f0,hg,hne,h.kx.other ⟨q,m,none⟩ _ (hne h.kx (by decide)),hset,owns_other h.rr _ _ (h.ap q (by simp [Value.ownBlock])),owns_other h.rp _ _ (fun e=>owns_ne h.rh h.rp (by decide) q (by simp [Value.ownBlock]) e),h.ap,h.bel.setCell hBg _⟩
theorem CmW.putR (h:CmW w i0 i1 i2 r wr vh vr vp H R P) {m:Nat} (hm:m<R.length) (z:Int) :
  ∃ q c old,vr=.slice (some ⟨q,0,none⟩) R.length c∧w.heap.size≤q∧wr.cell? ⟨q,m,none⟩=some (.int .i64 old)∧wr.frozen? ⟨q,m,none⟩=false∧q<wr.heap.size∧(∀ {b t cs},Bk wr b t cs → 3 ≠ t → b ≠ q)∧CmW w i0 i1 i2 r (wr.setCell ⟨q,m,none⟩ (.int .i64 z)) vh vr vp H (R.set m z) P:=by
 obtain ⟨q,c,e,hg,hBg⟩:=h.rr.block (by omega)
 subst e
 obtain ⟨⟨d0,f0⟩,hset⟩:=Rw.put h.rr rfl hm z
 have hne:∀ {b:Nat} {t:TypeId} {cs:Array Value},Bk wr b t cs → 3 ≠ t → b ≠ q:=fun hb ht e=>row_blk_ne h.rr hb ht (by simp [Value.ownBlock,e])
 exact ⟨q,c,_,rfl,hBg,d0,f0,hg,hne,h.kx.other ⟨q,m,none⟩ _ (hne h.kx (by decide)),owns_other h.rh _ _ (fun e=>h.ap q e (by simp [Value.ownBlock])),hset,owns_other h.rp _ _ (fun e=>owns_ne h.rr h.rp (by decide) q (by simp [Value.ownBlock]) e),h.ap,h.bel.setCell hBg _⟩
theorem CmW.growP {vp':Value} {P':List InI} (h:CmW w i0 i1 i2 r wr vh vr vp H R P) (hg:wr.grownBy w' vp.ownBlock) (q:IRw w' w.heap.size vp' P') :
  Bk w' w.heap.size 68 #[.int .i64 i0,.int .i64 i1,.int .i64 i2,.int .i64 r,vp]∧Rw w' w.heap.size vh H∧Rw w' w.heap.size vr R∧CmW w i0 i1 i2 r (w'.setCell ⟨w.heap.size,4,none⟩ vp') vh vr vp' H R P':=by
 have kx5:=h.kx.grown hg (row_blk_ne h.rp h.kx (by decide))
 have rh5:=h.rh.grown hg (fun k hk e=>owns_ne h.rp h.rh (by decide) k e hk)
 have rr5:=h.rr.grown hg (fun k hk e=>owns_ne h.rp h.rr (by decide) k e hk)
 have hb5:=h.bel.grown hg h.bel.size (fun j hj=>(World.ownsRow.lt h.rp j hj).1)
 exact ⟨kx5,rh5,rr5,by simpa using kx5.set 4 vp',owns_other rh5 _ _ (row_blk_ne rh5 kx5 (by decide)),owns_other rr5 _ _ (row_blk_ne rr5 kx5 (by decide)),owns_other q _ _ (row_blk_ne q kx5 (by decide)),h.ap,hb5.setCell (Nat.le_refl _) _⟩
theorem CmW.setH {q n c:Nat} (h:CmW w i0 i1 i2 r wr (.slice (some ⟨q,0,none⟩) n c) vr vp H R P) (hn:H.length=n) {m:Nat} (hm:m<n) (z:Int):CmW w i0 i1 i2 r (wr.setCell ⟨q,m,none⟩ (.int .i64 z)) (.slice (some ⟨q,0,none⟩) n c) vr vp (H.set m z) R P:=by
 obtain ⟨q',c',old,e,_,_,_,_,_,h2⟩:=h.putH (m:=m) (by omega) z
 simp only [Value.slice.injEq,Option.some.injEq,Addr.mk.injEq,and_true] at e
 obtain ⟨rfl,-⟩:=e
 exact h2
theorem CmW.setR {q n c:Nat} (h:CmW w i0 i1 i2 r wr vh (.slice (some ⟨q,0,none⟩) n c) vp H R P) (hn:R.length=n) {m:Nat} (hm:m<n) (z:Int):CmW w i0 i1 i2 r (wr.setCell ⟨q,m,none⟩ (.int .i64 z)) vh (.slice (some ⟨q,0,none⟩) n c) vp H (R.set m z) P:=by
 obtain ⟨q',c',old,e,_,_,_,_,_,h2⟩:=h.putR (m:=m) (by omega) z
 simp only [Value.slice.injEq,Option.some.injEq,Addr.mk.injEq,and_true] at e
 obtain ⟨rfl,-⟩:=e
 exact h2
theorem CmW.nes {q q2 n n2 c c2:Nat} (h:CmW w i0 i1 i2 r wr (.slice (some ⟨q,0,none⟩) n c) (.slice (some ⟨q2,0,none⟩) n2 c2) vp H R P):w.heap.size ≠ q∧w.heap.size ≠ q2∧q ≠ q2 :=
 ⟨fun e=>row_blk_ne h.rh h.kx (by decide) (by simp [Value.ownBlock,e]),fun e=>row_blk_ne h.rr h.kx (by decide) (by simp [Value.ownBlock,e]),fun e=>h.ap q (by simp [Value.ownBlock]) (by simp [Value.ownBlock,e])⟩
theorem CmW.putN (h:CmW w i0 i1 i2 r wr vh vr vp H R P) (z:Int):CmW w i0 i1 i2 z (wr.setCell ⟨w.heap.size,3,none⟩ (.int .i64 z)) vh vr vp H R P :=
 ⟨by simpa using h.kx.set 3 (.int .i64 z),owns_other h.rh _ _ (row_blk_ne h.rh h.kx (by decide)),owns_other h.rr _ _ (row_blk_ne h.rr h.kx (by decide)),owns_other h.rp _ _ (row_blk_ne h.rp h.kx (by decide)),h.ap,h.bel.setCell (Nat.le_refl _) _⟩
end
end Go.Proofs.YtbljmfcifljkaaaGreatDoor
