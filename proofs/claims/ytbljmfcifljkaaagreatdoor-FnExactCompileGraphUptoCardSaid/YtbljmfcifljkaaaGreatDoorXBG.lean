/-
  The circuit of a graph, by the reference: its state. Own work.
-/
import Derived.Test.YtbljmfcifljkaaaGreatDoorXAW
set_option linter.all false
set_option maxRecDepth 100000
set_option maxHeartbeats 8000000
namespace Go.Proofs.YtbljmfcifljkaaaGreatDoor
open Go.RowKit
set_option maxRecDepth 100000
set_option maxHeartbeats 2000000
structure CoS (w:World) (cs:Array Value) (inp:Int) (sa:Option Addr) (sc n:Nat) (wr:World) (vg vo:Value) (gs:List GtI) (S:List Int):Prop where
 kg:Bk wr w.heap.size 53 cs
 kz:Bk wr (w.heap.size+1) 112 #[.int .i64 0,.slice none 0 0,.slice none 0 0]
 kc:Bk wr (w.heap.size+2) 112 #[.int .i64 inp,vg,vo]
 rg:GRw wr w.heap.size vg gs
 rs:Rw wr w.heap.size (.slice sa n sc) S
 ls:S.length=n
 bel:Below w.heap.size w wr
section
variable {w:World} {cs:Array Value} {inp:Int} {sa:Option Addr} {sc n:Nat} {wr w':World} {vg vo:Value} {gs:List GtI} {S:List Int}
theorem CoS.keep (h:CoS w cs inp sa sc n wr vg vo gs S) (hb:Below wr.heap.size wr w'):CoS w cs inp sa sc n w' vg vo gs S :=
 ⟨h.kg.keep hb,h.kz.keep hb,h.kc.keep hb,h.rg.keep hb,h.rs.keep hb,h.ls,h.bel.trans (hb.mono h.bel.size)⟩
theorem CoS.src (h:CoS w cs inp sa sc n wr vg vo gs S) (hn:0<n):∃ q,sa=some ⟨q,0,none⟩∧w.heap.size+2 ≠ q∧w.heap.size≤q:=by
 have hlen:=h.ls
 obtain ⟨q,c',e,hg,hBg⟩:=h.rs.block (by omega)
 simp only [Value.slice.injEq] at e
 obtain ⟨rfl,-,rfl⟩:=e
 exact ⟨q,rfl,(fun e=>row_blk_ne h.rs h.kc (by decide) (by simp [Value.ownBlock,e])),hBg⟩
theorem CoS.putS (h:CoS w cs inp sa sc n wr vg vo gs S) {m:Nat} (hm:m<n) (z:Int) :
  ∃ q old,sa=some ⟨q,0,none⟩∧w.heap.size≤q∧wr.cell? ⟨q,m,none⟩=some (.int .i64 old)∧wr.frozen? ⟨q,m,none⟩=false∧(∀ {b t cs},Bk wr b t cs → 3 ≠ t → b ≠ q)∧CoS w cs inp sa sc n (wr.setCell ⟨q,m,none⟩ (.int .i64 z)) vg vo gs (S.set m z):=by
 have hlen:=h.ls
 obtain ⟨q,c',e,hg,hBg⟩:=h.rs.block (by omega)
 simp only [Value.slice.injEq] at e
 obtain ⟨rfl,-,rfl⟩:=e
 obtain ⟨⟨d0,f0⟩,hset⟩:=Rw.put h.rs h.ls hm z
 have hne:∀ {b:Nat} {t:TypeId} {cs:Array Value},Bk wr b t cs → 3 ≠ t → b ≠ q:=fun hb ht e=>row_blk_ne h.rs hb ht (by simp [Value.ownBlock,e])
 exact ⟨q,_,rfl,hBg,d0,f0,hne,h.kg.other ⟨q,m,none⟩ _ (hne h.kg (by decide)),h.kz.other ⟨q,m,none⟩ _ (hne h.kz (by decide)),h.kc.other ⟨q,m,none⟩ _ (hne h.kc (by decide)),owns_other h.rg _ _ (fun e=>owns_ne h.rg h.rs (by decide) q e (by simp [Value.ownBlock])),hset,by rw [List.length_set];exact h.ls,h.bel.setCell hBg _⟩
theorem CoS.app {w5:World} {vg':Value} {gs':List GtI} (h:CoS w cs inp sa sc n wr vg vo gs S) (hg:wr.grownBy w5 vg.ownBlock) (q1:GRw w5 w.heap.size vg' gs') :
  Bk w5 (w.heap.size+2) 112 #[.int .i64 inp,vg,vo]∧Rw w5 w.heap.size (.slice sa n sc) S∧CoS w cs inp sa sc n (w5.setCell ⟨w.heap.size+2,1,none⟩ vg') vg' vo gs' S:=by
 have kg5:=h.kg.grown hg (row_blk_ne h.rg h.kg (by decide))
 have kz5:=h.kz.grown hg (row_blk_ne h.rg h.kz (by decide))
 have kc5:=h.kc.grown hg (row_blk_ne h.rg h.kc (by decide))
 have rs5:=h.rs.grown hg (fun k hk e=>owns_ne h.rg h.rs (by decide) k e hk)
 have hb5:=h.bel.grown hg h.bel.size (fun j hj=>(World.ownsRow.lt h.rg j hj).1)
 refine ⟨kc5,rs5,kg5.other ⟨w.heap.size+2,1,none⟩ _ (by simp),kz5.other ⟨w.heap.size+2,1,none⟩ _ (by simp),by simpa using kc5.set 1 vg',owns_other q1 _ _ (row_blk_ne q1 kc5 (by decide)),owns_other rs5 _ _ (row_blk_ne rs5 kc5 (by decide)),h.ls,hb5.setCell (by simp) _⟩
theorem CoS.putG (h:CoS w cs inp sa sc n wr vg vo gs S) {i j:Nat} (hi:i<gs.length) (hj:j<4) (g':GtI) (v old:Value) (hold:(gtCells gs[i])[j]?=some old) (hv:gtCells g'=(gtCells gs[i]).set j v) :
  ∃ q c,vg=.slice (some ⟨q,0,none⟩) gs.length c∧w.heap.size≤q∧wr.cell? ⟨q,i * 4+j,none⟩=some old∧wr.frozen? ⟨q,i * 4+j,none⟩=false∧(∀ {b t cs},Bk wr b t cs → 203 ≠ t → b ≠ q)∧CoS w cs inp sa sc n (wr.setCell ⟨q,i * 4+j,none⟩ v) vg vo (gs.set i g') S:=by
 obtain ⟨q,c,rfl,hg,hBg⟩:=h.rg.block (by omega)
 obtain ⟨d0,f0,hset⟩:=GRw.put h.rg rfl hi hj g' v hv
 have hne:∀ {b:Nat} {t:TypeId} {cs:Array Value},Bk wr b t cs → 203 ≠ t → b ≠ q:=fun hb ht e=>row_blk_ne h.rg hb ht (by simp [Value.ownBlock,e])
 exact ⟨q,c,rfl,hBg,d0.trans hold,f0,hne,h.kg.other ⟨q,_,none⟩ _ (hne h.kg (by decide)),h.kz.other ⟨q,_,none⟩ _ (hne h.kz (by decide)),h.kc.other ⟨q,_,none⟩ _ (hne h.kc (by decide)),hset,owns_other h.rs _ _ (fun e=>owns_ne h.rs h.rg (by decide) q e (by simp [Value.ownBlock])),h.ls,h.bel.setCell hBg _⟩
theorem CoS.grownI {B:Nat} {ev:Value} {xs:List Int} (h:CoS w cs inp sa sc n wr vg vo gs S) (hg:wr.grownBy w' ev.ownBlock) (he:Rw wr B ev xs) (hB:w.heap.size≤B) (ha:∀ j,ev.ownBlock=some j → (Value.slice sa n sc).ownBlock ≠ some j):CoS w cs inp sa sc n w' vg vo gs S :=
 ⟨h.kg.grown hg (row_blk_ne he h.kg (by decide)),h.kz.grown hg (row_blk_ne he h.kz (by decide)),h.kc.grown hg (row_blk_ne he h.kc (by decide)),owns_grown h.rg hg (fun k hk e=>owns_ne h.rg he (by decide) k hk e),h.rs.grown hg (fun k hk e=>ha k e hk),h.ls,h.bel.grown hg h.bel.size (fun j hj=>Nat.le_trans hB (World.ownsRow.lt he j hj).1)⟩
theorem CoS.putO (h:CoS w cs inp sa sc n wr vg vo gs S) (v:Value):CoS w cs inp sa sc n (wr.setCell ⟨w.heap.size+2,2,none⟩ v) vg v gs S:=by
 exact ⟨h.kg.other ⟨w.heap.size+2,2,none⟩ _ (by simp),h.kz.other ⟨w.heap.size+2,2,none⟩ _ (by simp),by simpa using h.kc.set 2 v,owns_other h.rg _ _ (row_blk_ne h.rg h.kc (by decide)),h.rs.setB h.kc (by decide) 2 v,h.ls,h.bel.setCell (by simp) _⟩
theorem CoS.grownE {B e sz k:Nat} {ev:Value} {xs:List Value} (h:CoS w cs inp sa sc n wr vg vo gs S) (hg:wr.grownBy w' ev.ownBlock) (he:wr.ownsRow B e sz ev k xs) (hB:w.heap.size≤B) (h1:e ≠ 53) (h2:e ≠ 112) (h4:e ≠ 203) (h5:e ≠ 3):CoS w cs inp sa sc n w' vg vo gs S :=
 ⟨h.kg.grown hg (row_blk_ne he h.kg h1),h.kz.grown hg (row_blk_ne he h.kz h2),h.kc.grown hg (row_blk_ne he h.kc h2),owns_grown h.rg hg (fun k hk e=>owns_ne he h.rg h4 k e hk),h.rs.grown hg (fun k hk e=>owns_ne he h.rs h5 k e hk),h.ls,h.bel.grown hg h.bel.size (fun j hj=>Nat.le_trans hB (World.ownsRow.lt he j hj).1)⟩
end
def negW (wr:World) (sa:Option Addr) (n:Nat):Nat:=match sa with
 | some ad=>(List.range n).countP fun i=>match wr.cell? ⟨ad.block,i,none⟩ with
  | some (.int _ z)=>decide (z<0)
  | _=>false
 | none=>0
theorem countP_range (l:List Int):(List.range l.length).countP (fun i=>decide (l.getD i 0<0))=negN l:=by
 unfold negN
 induction l with
 | nil=>rfl
 | cons x l ih =>
  rw [List.length_cons,List.range_succ_eq_map,List.countP_cons,List.countP_map,List.countP_cons,← ih]
  rfl
theorem negW_eq {wr:World} {B n c:Nat} {sa:Option Addr} {l:List Int} (h:Rw wr B (.slice sa n c) l) (hl:l.length=n):negW wr sa n=negN l:=by
 subst hl
 rw [← countP_range]
 by_cases h0:0<l.length
 ·obtain ⟨q,c',e,_,_⟩:=h.block h0
  simp only [Value.slice.injEq] at e
  obtain ⟨rfl,-,rfl⟩:=e
  show (List.range l.length).countP _=_
  refine List.countP_congr (fun i hi=>?_)
  have hi:=List.mem_range.1 hi
  have hc:=Rw.cell h i hi
  simp only [hc,List.getD_eq_getElem?_getD,List.getElem?_eq_getElem hi,Option.getD_some]
 ·have:l=[]:=List.eq_nil_of_length_eq_zero (by omega)
  subst this
  cases sa <;> rfl
theorem gtE_at {E:List EdI}:∀ {k:Nat} (hk:k<E.length),isGt E[k]=true → (gtE E)[(gtE (E.take k)).length]?=some E[k]:=by
 intro k hk h
 have h1:E=E.take k ++ (E[k] :: E.drop (k+1)):=by rw [← List.drop_eq_getElem_cons hk,List.take_append_drop]
 have h2:gtE E=gtE (E.take k) ++ gtE (E[k] :: E.drop (k+1)):=by
  conv=>lhs;rw [h1]
  unfold gtE
  rw [List.filter_append]
 rw [h2,List.getElem?_append_right (Nat.le_refl _),Nat.sub_self]
 unfold gtE
 rw [List.filter_cons_of_pos h]
 rfl
end Go.Proofs.YtbljmfcifljkaaaGreatDoor
