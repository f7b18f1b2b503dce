/-
  The circuit of a graph, by the program: its state. Own work.
-/
import Derived.Test.YtbljmfcifljkaaaGreatDoorXAV
import Derived.Maps.OwnSet
import Derived.Test.YtbljmfcifljkaaaGreatDoorXAS
set_option linter.all false
set_option maxRecDepth 100000
set_option maxHeartbeats 8000000
namespace Go.Proofs.YtbljmfcifljkaaaGreatDoor
open Go.RowKit
set_option maxRecDepth 100000
set_option maxHeartbeats 2000000
theorem GRw.put {w:World} {B gb n c:Nat} {gs:List GtI} (h:GRw w B (.slice (some ⟨gb,0,none⟩) n c) gs) (hl:gs.length=n) {i j:Nat} (hi:i<gs.length) (hj:j<4) (g':GtI) (v:Value) (hv:gtCells g'=(gtCells gs[i]).set j v) :
  w.cell? ⟨gb,i * 4+j,none⟩=(gtCells gs[i])[j]?∧w.frozen? ⟨gb,i * 4+j,none⟩=false∧GRw (w.setCell ⟨gb,i * 4+j,none⟩ v) B (.slice (some ⟨gb,0,none⟩) n c) (gs.set i g'):=by
 subst hl
 have h0:=owns_cell gtCells_len h i j hi hj
 refine ⟨h0,?_,?_⟩
 ·rcases h.2 with ⟨e,_⟩|⟨g,cap,cur,e,_,hg,_⟩
  ·simp at e
  ·simp only [Value.slice.injEq,Option.some.injEq,Addr.mk.injEq,and_true,true_and] at e
   obtain ⟨rfl,-⟩:=e
   exact (Bk.cell (hg:Bk w gb 203 cur)).2.1 _
 ·have:=owns_set gtCells_len h i j _ hi hj rfl v g' hv
  unfold GRw
  rw [List.length_set]
  exact this
theorem GRw.block {w:World} {B:Nat} {v:Value} {gs:List GtI} (h:GRw w B v gs) (hx:0<gs.length):∃ g c,v=.slice (some ⟨g,0,none⟩) gs.length c∧g<w.heap.size∧B≤g:=by
 rcases h.2 with ⟨h',h0⟩|⟨g,cap,cur,h',hb,hg,_⟩
 ·omega
 ·exact ⟨g,cap,h',(Array.getElem?_eq_some_iff.1 hg).1,hb⟩
theorem owns_grown {w w':World} {B e sz n:Nat} {v:Value} {xs:List Value} {row:Option Nat} (h:w.ownsRow B e sz v n xs) (hg:w.grownBy w' row) (hr:∀ k,v.ownBlock=some k → row ≠ some k):w'.ownsRow B e sz v n xs:=by
 refine ⟨h.1,?_⟩
 rcases h.2 with hn|⟨g,cap,cur,rfl,hbb,hgg,rest⟩
 ·exact .inl hn
 ·exact .inr ⟨g,cap,cur,rfl,hbb,(hg.block g (Array.getElem?_eq_some_iff.1 hgg).1 (fun e=>hr g rfl e.symm)).trans hgg,rest⟩
theorem GRw.setB {w:World} {B b:Nat} {v:Value} {l:List GtI} {t:TypeId} {cs:Array Value} (h:GRw w B v l) (kb:Bk w b t cs) (h2:203 ≠ t) (j:Nat) (u:Value):GRw (w.setCell ⟨b,j,none⟩ u) B v l:=owns_other h _ _ (row_blk_ne h kb h2)
def EdsAt0 (w0 w:World) (v:Value) (L:List EdI):Prop:=SlAt 4 v L.length fun i b o=>∃ h:i<L.length,w.cell? ⟨b,o,none⟩=some (.int .i64 L[i].kind)∧w.cell? ⟨b,o+1,none⟩=some (.int .i64 L[i].value) ∧
 ∃ vi vo,w.cell? ⟨b,o+2,none⟩=some vi∧w.cell? ⟨b,o+3,none⟩=some vo∧IntsAt w0 vi L[i].ins∧IntsAt w0 vo L[i].outs
theorem EvR.read {w0 w:World} {B:Nat} {v:Value} {xs:List EgV} (h:EvR w0 w B v xs):EdsAt0 w0 w v (xs.map Prod.fst):=by
 have ho:w.ownsRow B 189 4 v (xs.map Prod.fst).length (xs.flatMap evCells):=by rw [List.length_map];exact h.row
 refine owns_slat ho _ fun i b o hi' hc=>⟨hi',?_⟩
 have hi:i<xs.length:=by simpa using hi'
 have g:∀ j,j<4 → w.cell? ⟨b,o+j,none⟩=(evCells xs[i])[j]?:=fun j hj=>(hc j hj).trans (flat_get evCells_len xs i j hi hj)
 rw [List.getElem_map]
 have hk:=h.els _ (List.getElem_mem hi)
 exact ⟨g 0 (by omega),g 1 (by omega),xs[i].2.1,xs[i].2.2,g 2 (by omega),g 3 (by omega),hk.1,hk.2⟩
structure CtS (w:World) (cs:Array Value) (bs:Nat) (inp:Int) (sa:Option Addr) (sc n:Nat) (wr:World) (vg vo:Value) (gs:List GtI) (S:List Int):Prop where
 kg:Bk wr w.heap.size 53 cs
 kz:Bk wr (w.heap.size+1) 112 #[.int .i64 0,.slice none 0 0,.slice none 0 0]
 kc:Bk wr (w.heap.size+2) 112 #[.int .i64 inp,vg,vo]
 ks:Bk wr bs 40 #[.slice sa n sc]
 rg:GRw wr w.heap.size vg gs
 rs:Rw wr w.heap.size (.slice sa n sc) S
 ls:S.length=n
 bel:Below w.heap.size w wr
section
variable {w:World} {cs:Array Value} {bs:Nat} {inp:Int} {sa:Option Addr} {sc n:Nat} {wr w':World} {vg vo:Value} {gs:List GtI} {S:List Int}
theorem CtS.keep (h:CtS w cs bs inp sa sc n wr vg vo gs S) (hb:Below wr.heap.size wr w'):CtS w cs bs inp sa sc n w' vg vo gs S :=
 ⟨h.kg.keep hb,h.kz.keep hb,h.kc.keep hb,h.ks.keep hb,h.rg.keep hb,h.rs.keep hb,h.ls,h.bel.trans (hb.mono h.bel.size)⟩
theorem CtS.src (h:CtS w cs bs inp sa sc n wr vg vo gs S) (hn:0<n):∃ q,sa=some ⟨q,0,none⟩∧w.heap.size+2 ≠ q∧bs ≠ q∧bs ≠ w.heap.size+2∧w.heap.size≤q:=by
 have hlen:=h.ls
 obtain ⟨q,c',e,hg,hBg⟩:=h.rs.block (by omega)
 simp only [Value.slice.injEq] at e
 obtain ⟨rfl,-,rfl⟩:=e
 have hne:∀ {b:Nat} {t:TypeId} {cs:Array Value},Bk wr b t cs → 3 ≠ t → b ≠ q:=fun hb ht e=>row_blk_ne h.rs hb ht (by simp [Value.ownBlock,e])
 refine ⟨q,rfl,hne h.kc (by decide),hne h.ks (by decide),fun e=>?_,hBg⟩
 have h1:=h.ks
 rw [e] at h1
 have:=h1.symm.trans h.kc
 simp at this
theorem CtS.putS (h:CtS w cs bs inp sa sc n wr vg vo gs S) {m:Nat} (hm:m<n) (z:Int) :
  ∃ q old,sa=some ⟨q,0,none⟩∧w.heap.size≤q∧wr.cell? ⟨q,m,none⟩=some (.int .i64 old)∧wr.frozen? ⟨q,m,none⟩=false∧(∀ {b t cs},Bk wr b t cs → 3 ≠ t → b ≠ q)∧CtS w cs bs inp sa sc n (wr.setCell ⟨q,m,none⟩ (.int .i64 z)) vg vo gs (S.set m z):=by
 have hlen:=h.ls
 obtain ⟨q,c',e,hg,hBg⟩:=h.rs.block (by omega)
 simp only [Value.slice.injEq] at e
 obtain ⟨rfl,-,rfl⟩:=e
 obtain ⟨⟨d0,f0⟩,hset⟩:=Rw.put h.rs h.ls hm z
 have hne:∀ {b:Nat} {t:TypeId} {cs:Array Value},Bk wr b t cs → 3 ≠ t → b ≠ q:=fun hb ht e=>row_blk_ne h.rs hb ht (by simp [Value.ownBlock,e])
 exact ⟨q,_,rfl,hBg,d0,f0,hne,h.kg.other ⟨q,m,none⟩ _ (hne h.kg (by decide)),h.kz.other ⟨q,m,none⟩ _ (hne h.kz (by decide)),h.kc.other ⟨q,m,none⟩ _ (hne h.kc (by decide)),h.ks.other ⟨q,m,none⟩ _ (hne h.ks (by decide)),
  owns_other h.rg _ _ (fun e=>owns_ne h.rg h.rs (by decide) q e (by simp [Value.ownBlock])),hset,by rw [List.length_set];exact h.ls,h.bel.setCell hBg _⟩
theorem CtS.app {w5:World} {vg':Value} {gs':List GtI} (h:CtS w cs bs inp sa sc n wr vg vo gs S) (hg:wr.grownBy w5 vg.ownBlock) (q1:GRw w5 w.heap.size vg' gs') :
  Bk w5 (w.heap.size+2) 112 #[.int .i64 inp,vg,vo]∧Bk w5 bs 40 #[.slice sa n sc]∧Rw w5 w.heap.size (.slice sa n sc) S∧CtS w cs bs inp sa sc n (w5.setCell ⟨w.heap.size+2,1,none⟩ vg') vg' vo gs' S:=by
 have kg5:=h.kg.grown hg (row_blk_ne h.rg h.kg (by decide))
 have kz5:=h.kz.grown hg (row_blk_ne h.rg h.kz (by decide))
 have kc5:=h.kc.grown hg (row_blk_ne h.rg h.kc (by decide))
 have ks5:=h.ks.grown hg (row_blk_ne h.rg h.ks (by decide))
 have rs5:=h.rs.grown hg (fun k hk e=>owns_ne h.rg h.rs (by decide) k e hk)
 have hb5:=h.bel.grown hg h.bel.size (fun j hj=>(World.ownsRow.lt h.rg j hj).1)
 have hne:bs ≠ w.heap.size+2:=fun e=>by
  subst e
  have:=ks5.symm.trans kc5
  simp at this
 refine ⟨kc5,ks5,rs5,kg5.other ⟨w.heap.size+2,1,none⟩ _ (by simp),kz5.other ⟨w.heap.size+2,1,none⟩ _ (by simp),by simpa using kc5.set 1 vg',ks5.other ⟨w.heap.size+2,1,none⟩ _ hne,owns_other q1 _ _ (row_blk_ne q1 kc5 (by decide)),owns_other rs5 _ _ (row_blk_ne rs5 kc5 (by decide)),h.ls,hb5.setCell (by simp) _⟩
theorem CtS.putG (h:CtS w cs bs inp sa sc n wr vg vo gs S) {i j:Nat} (hi:i<gs.length) (hj:j<4) (g':GtI) (v old:Value) (hold:(gtCells gs[i])[j]?=some old) (hv:gtCells g'=(gtCells gs[i]).set j v) :
  ∃ q c,vg=.slice (some ⟨q,0,none⟩) gs.length c∧w.heap.size≤q∧wr.cell? ⟨q,i * 4+j,none⟩=some old∧wr.frozen? ⟨q,i * 4+j,none⟩=false∧(∀ {b t cs},Bk wr b t cs → 203 ≠ t → b ≠ q)∧CtS w cs bs inp sa sc n (wr.setCell ⟨q,i * 4+j,none⟩ v) vg vo (gs.set i g') S:=by
 obtain ⟨q,c,rfl,hg,hBg⟩:=h.rg.block (by omega)
 obtain ⟨d0,f0,hset⟩:=GRw.put h.rg rfl hi hj g' v hv
 have hne:∀ {b:Nat} {t:TypeId} {cs:Array Value},Bk wr b t cs → 203 ≠ t → b ≠ q:=fun hb ht e=>row_blk_ne h.rg hb ht (by simp [Value.ownBlock,e])
 exact ⟨q,c,rfl,hBg,d0.trans hold,f0,hne,h.kg.other ⟨q,_,none⟩ _ (hne h.kg (by decide)),h.kz.other ⟨q,_,none⟩ _ (hne h.kz (by decide)),h.kc.other ⟨q,_,none⟩ _ (hne h.kc (by decide)),h.ks.other ⟨q,_,none⟩ _ (hne h.ks (by decide)),
  hset,owns_other h.rs _ _ (fun e=>owns_ne h.rs h.rg (by decide) q e (by simp [Value.ownBlock])),h.ls,h.bel.setCell hBg _⟩
theorem CtS.grownI {B:Nat} {ev:Value} {xs:List Int} (h:CtS w cs bs inp sa sc n wr vg vo gs S) (hg:wr.grownBy w' ev.ownBlock) (he:Rw wr B ev xs) (hB:w.heap.size≤B) (ha:∀ j,ev.ownBlock=some j → (Value.slice sa n sc).ownBlock ≠ some j):CtS w cs bs inp sa sc n w' vg vo gs S :=
 ⟨h.kg.grown hg (row_blk_ne he h.kg (by decide)),h.kz.grown hg (row_blk_ne he h.kz (by decide)),h.kc.grown hg (row_blk_ne he h.kc (by decide)),h.ks.grown hg (row_blk_ne he h.ks (by decide)),owns_grown h.rg hg (fun k hk e=>owns_ne h.rg he (by decide) k hk e),h.rs.grown hg (fun k hk e=>ha k e hk),h.ls,h.bel.grown hg h.bel.size (fun j hj=>Nat.le_trans hB (World.ownsRow.lt he j hj).1)⟩
theorem CtS.putO (h:CtS w cs bs inp sa sc n wr vg vo gs S) (v:Value):CtS w cs bs inp sa sc n (wr.setCell ⟨w.heap.size+2,2,none⟩ v) vg v gs S:=by
 have hne:bs ≠ w.heap.size+2:=fun e=>by
  have h1:=h.ks
  rw [e] at h1
  have:=h1.symm.trans h.kc
  simp at this
 exact ⟨h.kg.other ⟨w.heap.size+2,2,none⟩ _ (by simp),h.kz.other ⟨w.heap.size+2,2,none⟩ _ (by simp),by simpa using h.kc.set 2 v,h.ks.other ⟨w.heap.size+2,2,none⟩ _ hne,owns_other h.rg _ _ (row_blk_ne h.rg h.kc (by decide)),h.rs.setB h.kc (by decide) 2 v,h.ls,h.bel.setCell (by simp) _⟩
theorem CtS.grownE {B e sz k:Nat} {ev:Value} {xs:List Value} (h:CtS w cs bs inp sa sc n wr vg vo gs S) (hg:wr.grownBy w' ev.ownBlock) (he:wr.ownsRow B e sz ev k xs) (hB:w.heap.size≤B) (h1:e ≠ 53) (h2:e ≠ 112) (h3:e ≠ 40) (h4:e ≠ 203) (h5:e ≠ 3):CtS w cs bs inp sa sc n w' vg vo gs S :=
 ⟨h.kg.grown hg (row_blk_ne he h.kg h1),h.kz.grown hg (row_blk_ne he h.kz h2),h.kc.grown hg (row_blk_ne he h.kc h2),h.ks.grown hg (row_blk_ne he h.ks h3),owns_grown h.rg hg (fun k hk e=>owns_ne he h.rg h4 k e hk),h.rs.grown hg (fun k hk e=>owns_ne he h.rs h5 k e hk),h.ls,h.bel.grown hg h.bel.size (fun j hj=>Nat.le_trans hB (World.ownsRow.lt he j hj).1)⟩
end
theorem ev_nil (w0 w:World) (B:Nat) (hB:B≤w.heap.size):EvR w0 (w.alloc (.cells #[] 189)) B (.slice (some ⟨w.heap.size,0,none⟩) 0 0) [] :=
 ⟨⟨rfl,.inr ⟨w.heap.size,0,#[],rfl,hB,Bk.new w _ _,Nat.le_refl _,by unfold maxLen;omega,rfl,rfl⟩⟩,by simp⟩
def gsK (g:GrI) (k:Nat):List GtI:=inGs g.ins.length ++ (((gtE g.edges).take k).map (fullG (srcV g)) ++ ((gtE g.edges).drop k).map bareG)
theorem gsK_len (g:GrI) {k:Nat} (hk:k≤(gtE g.edges).length):(gsK g k).length=g.ins.length+(gtE g.edges).length:=by
 unfold gsK
 simp only [List.length_append,List.length_map,List.length_take,List.length_drop,inGs_len]
 omega
theorem gsK_zero (g:GrI):gsK g 0=(srcE g g.edges.length).2:=by
 rw [srcE_gs g _ (Nat.le_refl _),List.take_length];simp [gsK]
theorem gsK_all (g:GrI):gsK g (gtE g.edges).length=crGs g:=by
 unfold gsK crGs
 simp
theorem gsK_at (g:GrI) {k:Nat} (hk:k<(gtE g.edges).length):(gsK g k)[g.ins.length+k]?=some (bareG (gtE g.edges)[k]):=by
 unfold gsK
 rw [List.getElem?_append_right (by rw [inGs_len];omega),inGs_len,Nat.add_sub_cancel_left,List.getElem?_append_right (by simp;omega)]
 have hl:(((gtE g.edges).take k).map (fullG (srcV g))).length=k:=by simp;omega
 rw [hl,Nat.sub_self,List.getElem?_map,List.getElem?_drop,Nat.add_zero,List.getElem?_eq_getElem hk]
 rfl
theorem gsK_succ (g:GrI) {k:Nat} (hk:k<(gtE g.edges).length):gsK g (k+1)=(gsK g k).set (g.ins.length+k) (fullG (srcV g) (gtE g.edges)[k]):=by
 unfold gsK
 have hl:(((gtE g.edges).take k).map (fullG (srcV g))).length=k:=by simp;omega
 rw [List.set_append_right _ _ (by rw [inGs_len];omega),inGs_len,Nat.add_sub_cancel_left,List.set_append_right _ _ (by omega),hl,Nat.sub_self,List.drop_eq_getElem_cons hk,List.map_cons,List.set_cons_zero,List.take_succ_eq_append_getElem hk,List.map_append,List.append_assoc]
 rfl
theorem bare_ab {e:EdI} (h:isGt e=true):(bareG e).a=0∧(bareG e).b=0:=by
 unfold isGt at h
 unfold bareG
 unfold gtOf at h ⊢
 repeat' split at h
 all_goals simp_all
def CirP (inp:Int) (gs:List GtI) (os:List Int) (w:World) (e:Ending) (w':World):Prop :=
 ∃ a c oa oc,e=.returned (.agg #[.int .i64 inp,.slice a gs.length c,.slice oa os.length oc])∧GRw w' w.heap.size (.slice a gs.length c) gs∧Rw w' w.heap.size (.slice oa os.length oc) os∧Below w.heap.size w w'
end Go.Proofs.YtbljmfcifljkaaaGreatDoor
/-
  An own row of ints grows in a region that draws. Own work.
-/
namespace Go.Proofs.YtbljmfcifljkaaaGreatDoor
open Go.RowKit
set_option maxRecDepth 100000
set_option maxHeartbeats 1000000
theorem x_intapp {ops:Array Oper} {Q:Exit → Act → World → Prop} {T:Nat → Prop} {w0:World} {i:Nat} {l:List Nat} {bs:Nat → Prop} {a:Act} {w:World} {o:Oper} (ho:ops[i]?=some o) (hk:opKind o=.act) (hg:o.guard=none) (hC:Exc T w0 w) (s x:Operand)
  (hop:o.op=Op.call { callee:=Callee.builtin Builtin.append,args:=#[s,x],argTypes:=#[40,40] })
  (B:Nat) (v:Value) (xs ys:List Int) (b m c:Nat) (hm:ys.length=m) (hs:a.eval s=v) (hx:a.eval x=.slice (some ⟨b,0,none⟩) m c)
  (hvT:∀ k,v.ownBlock=some k → (k<w0.heap.size∧T k)∨(w0.heap.size≤k∧bs k)) (hbase:B≤w.heap.size) (hl:xs.length+m≤100000)
  (hrow:Rw w B v xs) (hbo:w.heap[b]?=some (.cells (ys.flatMap iCell).toArray 3))
  (h:∀ K:(Nat → Prop) → Act → World → Prop,(∀ bs a w,WX Tryz.prog ops (Exc T w0) w0.heap.size Q l bs a w → K bs a w) → ∀ w1 w2 v',Exc T w0 w1 → Below w.heap.size w w1 →
   Rw w2 B v' (xs ++ ys) → w1.grownBy w2 v.ownBlock → Exc T w0 w2 → (v'.ownBlock=v.ownBlock∨v'.ownBlock=some w1.heap.size) → K (more bs w1 w2) (a.put o.dst v') w2) :
  WX Tryz.prog ops (Exc T w0) w0.heap.size Q (i :: l) bs a w:=by
 subst hm
 obtain ⟨i0,hi,hz0,hz1,hz2⟩:=info_parts infoInt
 refine x_src ho hk hg hC s x 40 hop B 3 i0 _ 1 8 Tryz.underlying40 hi hz0 hz1 hz2 rfl (by decide) v xs.length (xs.flatMap iCell) hs hvT (.slice (some ⟨b,0,none⟩) ys.length c) ys.length (ys.flatMap iCell) hx ?_ (by unfold maxLen;omega) (by omega) hbase ?_ ?_
 ·exact iCell_one ys
 ·intro w1 hw1 hb1
  refine ⟨hrow.keep hb1,flat_length iCell_len ys,.inr ⟨_,c,rfl,?_⟩⟩
  obtain ⟨m0,_,_⟩:=made_cell ((hb1.block b (made_cell hbo).2.2).trans hbo)
  intro j u hj
  rw [addr_add,Nat.zero_add,m0 j]
  simpa using hj
 ·intro K hK w1 w2 v' hw1 hb1 h1 h2 h3 h4
  refine h K hK w1 w2 v' hw1 hb1 ?_ h2 h3 h4
  unfold Rw
  rw [List.length_append,List.flatMap_append]
  exact h1
end Go.Proofs.YtbljmfcifljkaaaGreatDoor
/-
  Maps from ints to bools: which gates are open. Own work.
-/
namespace Go.Proofs.YtbljmfcifljkaaaGreatDoor
open Go.RowKit Go.Maps
set_option maxRecDepth 100000
set_option maxHeartbeats 1000000
theorem kInt:Keyed Tryz.prog 3:=int_keyed Tryz.underlying3
theorem zBool (w:World):(zeroValue 4).run Tryz.prog w=.ok (.bool false) w:=by kernel_rfl
theorem zInt (w:World):(zeroValue 3).run Tryz.prog w=.ok (.int .i64 0) w:=by kernel_rfl
def kI (i:Int):Lit:=.int .i64 i
theorem kI_wf {i:Int} (h0:-1000000≤i) (h:i≤1000000):(Lit.int .i64 i).wf=true :=
  WalkArith.wf_i64 (by omega)
theorem kI_key {i:Int} (h0:-1000000≤i) (h:i≤1000000):keyOf Tryz.prog 3 (.int .i64 i)=some (kI i):=keyOf_int_mk Tryz.underlying3 (kI_wf h0 h)
theorem kI_lit (i:Int):WideAt.IsKeyLit (kI i):=trivial
theorem kI_ne {i j:Int} (h:¬ i=j):kI i ≠ kI j:=fun e=>h (by unfold kI at e;simpa using e)
structure MbI (D:DataW Unit) (dn:List Bool):Prop where
 has:∀ i:Nat,Maps.has D (kI i)=!(dn.getD i true)
 val:∀ i:Nat,D.atKey (kI i) (.lit (.bool false))=.lit (.bool (!(dn.getD i true)))
 size:Maps.size D=dn.count false
def MbB (w:World) (b n:Nat) (dn:List Bool):Prop:=∃ D,w.ownsMap Tryz.prog 3 (plainElem (H:=Unit) Tryz.prog 4) b n D∧MbI D dn
theorem MbB.lt {w:World} {b n:Nat} {dn:List Bool} (h:MbB w b n dn):b<w.heap.size:=by obtain ⟨D,h,_⟩:=h;exact h.lt
theorem MbB.keep {w w':World} {b n:Nat} {dn:List Bool} (hb:Below w.heap.size w w') (h:MbB w b n dn):MbB w' b n dn:=by
 obtain ⟨D,⟨es,clock,h1,r⟩,hm⟩:=h
 exact ⟨D,⟨es,clock,(hb.block b (Array.getElem?_eq_some_iff.1 h1).1).trans h1,r⟩,hm⟩
theorem set_at (dn:List Bool) (m i:Nat) (b:Bool) (hm:m<dn.length):(dn.set m b).getD i true=if i=m then b else dn.getD i true:=by
 by_cases h:i=m
 ·subst h;rw [if_pos rfl,List.getD_eq_getElem?_getD,List.getElem?_set_self hm];rfl
 ·rw [if_neg h,List.getD_eq_getElem?_getD,List.getElem?_set_ne (fun e=>h e.symm),← List.getD_eq_getElem?_getD]
theorem dn_grow {dn:List Bool} {i:Nat} (hi:i<dn.length) (h:dn[i]=true):(dn.set i false).count false=dn.count false+1:=by
 have h1:=dn_count (dn:=dn.set i false) (i:=i) (by simpa using hi) (by simp)
 rw [List.set_set] at h1
 have h2:dn.set i true=dn:=by rw [← h];exact List.set_getElem_self hi
 rw [h2] at h1
 omega
theorem mb_put {D:DataW Unit} {dn:List Bool} {m:Nat} (h:MbI D dn) (ht:Tidy D) (hm:m<dn.length) (hd:dn[m]=true):MbI (D.put (kI m) (.lit (.bool true))) (dn.set m false):=by
 have hold:dn.getD m true=true:=by rw [List.getD_eq_getElem?_getD,List.getElem?_eq_getElem hm,hd];rfl
 refine ⟨fun i=>?_,fun i=>?_,?_⟩
 ·rw [set_at _ _ _ _ hm]
  by_cases e:i=m
  ·subst e;rw [if_pos rfl];exact has_put_same ht.isMap (kI_lit _) _
  ·rw [if_neg e,has_put_other (kI_ne (by omega))];exact h.has i
 ·rw [set_at _ _ _ _ hm]
  by_cases e:i=m
  ·subst e;rw [if_pos rfl];exact atKey_put_same ht.isMap (kI_lit _) _ _
  ·rw [if_neg e,atKey_put_other (kI_ne (by omega))];exact h.val i
 ·rw [size_put ht,dn_grow hm hd,h.has m,hold,h.size]
  rfl
theorem mb_del {D:DataW Unit} {dn:List Bool} {m:Nat} (h:MbI D dn) (ht:Tidy D) (hm:m<dn.length) (hd:dn[m]=false):MbI (D.del (kI m)) (dn.set m true):=by
 have hold:dn.getD m true=false:=by rw [List.getD_eq_getElem?_getD,List.getElem?_eq_getElem hm,hd];rfl
 refine ⟨fun i=>?_,fun i=>?_,?_⟩
 ·rw [set_at _ _ _ _ hm]
  by_cases e:i=m
  ·subst e;rw [if_pos rfl];exact has_del_same
  ·rw [if_neg e,has_del_other (kI_ne (by omega))];exact h.has i
 ·rw [set_at _ _ _ _ hm]
  by_cases e:i=m
  ·subst e;rw [if_pos rfl];exact atKey_del_same _
  ·rw [if_neg e,atKey_del_other (kI_ne (by omega))];exact h.val i
 ·have h1:=size_del ht (k:=kI m)
  rw [h.has m,hold,h.size] at h1
  have h2:=dn_count hm hd
  simp at h1
  omega
theorem mb_empty (n:Nat):MbI (.map []) (List.replicate n true):=by
 refine ⟨fun i=>?_,fun i=>?_,?_⟩
 ·have:(List.replicate n true).getD i true=true:=by
   rw [List.getD_eq_getElem?_getD,List.getElem?_replicate];split <;> rfl
  rw [this];rfl
 ·have:(List.replicate n true).getD i true=true:=by
   rw [List.getD_eq_getElem?_getD,List.getElem?_replicate];split <;> rfl
  rw [this];rfl
 ·rw [List.count_replicate];rfl
theorem MbB.look {w:World} {b n:Nat} {dn:List Bool} (h:MbB w b n dn) (i:Nat) (hi:i≤1000000):(Instr.lookup 324 (.map (some b)) (.int .i64 i) false).run Tryz.prog w=.ok (.bool (!(dn.getD i true))) w:=by
 obtain ⟨D,hown,hm⟩:=h
 obtain ⟨v,ps,hrun,hv⟩:=hown.lookup kInt Tryz.underlying324 (zBool w) (zd:=.lit (.bool false)) (zp:=[]) (plainElem_bool Tryz.underlying4 false) (kI_key (i:=(i:Int)) (by omega) (by omega))
 rw [hm.val i] at hv
 unfold plainElem at hv
 rw [Tryz.underlying4] at hv
 cases v <;> simp at hv
 rw [hrun,hv.1,List.getD_eq_getElem?_getD]
def MnI (D:DataW Unit) (reg:List Int) (ks:List Int):Prop:=∀ k ∈ ks,D.atKey (kI k) (.lit (.int .i64 0))=.lit (.int .i64 (reg.getD k.toNat (-1)))
def MnB (w:World) (b n:Nat) (reg ks:List Int):Prop:=∃ D,w.ownsMap Tryz.prog 3 (plainElem (H:=Unit) Tryz.prog 3) b n D∧MnI D reg ks
theorem MnB.lt {w:World} {b n:Nat} {reg ks:List Int} (h:MnB w b n reg ks):b<w.heap.size:=by obtain ⟨D,h,_⟩:=h;exact h.lt
theorem MnB.keep {w w':World} {b n:Nat} {reg ks:List Int} (hb:Below w.heap.size w w') (h:MnB w b n reg ks):MnB w' b n reg ks:=by
 obtain ⟨D,⟨es,clock,h1,r⟩,hm⟩:=h
 exact ⟨D,⟨es,clock,(hb.block b (Array.getElem?_eq_some_iff.1 h1).1).trans h1,r⟩,hm⟩
theorem mn_put {D:DataW Unit} {reg ks:List Int} {i:Int} {r:Nat} (h:MnI D reg ks) (hD:IsMap D) (h0:0≤i) (hi:i.toNat<reg.length) (hr:∀ k ∈ ks,0≤k):MnI (D.put (kI i) (.lit (.int .i64 r))) (reg.set i.toNat r) (ks ++ [i]):=by
 intro k hk
 by_cases e:k=i
 ·subst e
  rw [atKey_put_same hD (kI_lit _),getD_set_self hi]
 ·rw [atKey_put_other (kI_ne e)]
  rcases List.mem_append.1 hk with h1|h1
  ·have:=hr k h1
   rw [getD_set_ne (by omega)]
   exact h k h1
  ·simp at h1;exact absurd h1 e
theorem MnB.look {w:World} {b n:Nat} {reg ks:List Int} (h:MnB w b n reg ks) {k:Int} (hk:k ∈ ks) (h0:0≤k) (h1:k≤1000000):(Instr.lookup 201 (.map (some b)) (.int .i64 k) false).run Tryz.prog w=.ok (.int .i64 (reg.getD k.toNat (-1))) w:=by
 obtain ⟨D,hown,hm⟩:=h
 obtain ⟨c,hrun,hat,_⟩:=hown.lookup_int kInt Tryz.underlying201 Tryz.underlying3 (zInt w) (kI_key (i:=k) (by omega) (by omega))
 rw [hm k hk] at hat
 simp only [DataW.lit.injEq,Lit.int.injEq,true_and] at hat
 rw [hrun,hat]
end Go.Proofs.YtbljmfcifljkaaaGreatDoor
