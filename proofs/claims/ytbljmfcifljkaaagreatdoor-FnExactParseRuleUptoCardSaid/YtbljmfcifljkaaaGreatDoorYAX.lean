/-
  The axioms, plain: trees, texts of the table with letters for numbers, and what their texts are read as. Own work; the table is printed by wip/parAx.py.
-/
import Derived.Test.YtbljmfcifljkaaaGreatDoorYLX
import Derived.Test.YtbljmfcifljkaaaGreatDoorYRU
import Derived.Test.YtbljmfcifljkaaaGreatDoorYPA
import Derived.Test.YtbljmfcifljkaaaGreatDoorYFL
set_option linter.all false
set_option maxRecDepth 100000
set_option maxHeartbeats 8000000
namespace Go.Proofs.YtbljmfcifljkaaaGreatDoor
def lf (k v:Int):Tr:=.leaf ⟨k,v,⟨#[]⟩⟩
def axT (k l m s n:Int):List (ByteArray × Tr × Tr) :=
 [(⟨#[99,111,112,121,97,115]⟩,(.seq (lf 3 0) (.par (lf 3 0) (lf 1 1))),(.seq (lf 3 0) (.par (lf 1 1) (lf 3 0)))),
  (⟨#[99,111,112,121,117,110]⟩,(.seq (lf 3 0) (.par (lf 4 0) (lf 1 1))),(lf 1 1)),
  (⟨#[99,111,112,121,99,109]⟩,(.seq (lf 3 0) (lf 2 0)),(lf 3 0)),
  (⟨#[97,100,100,97,115]⟩,(.seq (.par (lf 5 0) (lf 1 1)) (lf 5 0)),(.seq (.par (lf 1 1) (lf 5 0)) (lf 5 0))),
  (⟨#[97,100,100,117,110]⟩,(.seq (.par (lf 6 0) (lf 1 1)) (lf 5 0)),(lf 1 1)),
  (⟨#[97,100,100,99,109]⟩,(.seq (lf 2 0) (lf 5 0)),(lf 5 0)),
  (⟨#[97,100,100,99,111,112,121]⟩,(.seq (lf 5 0) (lf 3 0)),(.seq (.seq (.par (lf 3 0) (lf 3 0)) (.par (.par (lf 1 1) (lf 2 0)) (lf 1 1))) (.par (lf 5 0) (lf 5 0)))),
  (⟨#[97,100,100,100,105,115]⟩,(.seq (lf 5 0) (lf 4 0)),(.par (lf 4 0) (lf 4 0))),
  (⟨#[122,101,114,111,99,111,112]⟩,(.seq (lf 6 0) (lf 3 0)),(.par (lf 6 0) (lf 6 0))),
  (⟨#[122,101,114,111,100,105,115]⟩,(.seq (lf 6 0) (lf 4 0)),(lf 1 0)),
  (⟨#[115,99,111,110,101]⟩,(lf 7 1),(lf 1 1)),
  (⟨#[115,99,122,101,114,111]⟩,(lf 7 0),(.seq (lf 4 0) (lf 6 0))),
  (⟨#[115,99,109,117,108]⟩,(.seq (lf 7 k) (lf 7 l)),(lf 7 m)),
  (⟨#[115,99,97,100,100]⟩,(.seq (.seq (lf 3 0) (.par (lf 7 k) (lf 7 l))) (lf 5 0)),(lf 7 s)),
  (⟨#[115,99,116,104,114,117,97]⟩,(.seq (lf 5 0) (lf 7 k)),(.seq (.par (lf 7 k) (lf 7 k)) (lf 5 0))),
  (⟨#[115,99,116,104,114,117,99]⟩,(.seq (lf 7 k) (lf 3 0)),(.seq (lf 3 0) (.par (lf 7 k) (lf 7 k)))),
  (⟨#[115,99,100,105,115]⟩,(.seq (lf 7 k) (lf 4 0)),(lf 4 0)),
  (⟨#[122,101,114,111,115,99]⟩,(.seq (lf 6 0) (lf 7 k)),(lf 6 0)),
  (⟨#[102,114,111,98,99,111,112,121]⟩,(.seq (.par (lf 3 0) (lf 1 1)) (.par (lf 1 1) (lf 9 0))),(.seq (lf 9 0) (lf 3 0))),
  (⟨#[115,112,101,99,105,97,108]⟩,(.seq (lf 3 0) (lf 9 0)),(lf 1 1)),
  (⟨#[102,114,111,98,97,100,100]⟩,(.seq (.par (lf 11 0) (lf 1 1)) (.par (lf 1 1) (lf 5 0))),(.seq (lf 5 0) (lf 11 0))),
  (⟨#[97,100,100,115,112,101,99]⟩,(.seq (lf 11 0) (lf 5 0)),(lf 1 1)),
  (⟨#[98,111,110,101,99,111,112]⟩,(.seq (lf 10 0) (lf 4 0)),(lf 1 0)),
  (⟨#[98,111,110,101,97,100,100]⟩,(.seq (lf 6 0) (lf 12 0)),(lf 1 0)),
  (⟨#[97,100,100,99,97,112]⟩,(.seq (lf 5 0) (lf 12 0)),(.seq (.seq (.par (lf 1 1) (lf 7 n)) (lf 9 0)) (lf 4 0))),
  (⟨#[115,99,105,110,118]⟩,(.seq (lf 7 k) (lf 13 k)),(lf 1 1)),
  (⟨#[99,111,115,99,105,110,118]⟩,(.seq (lf 13 k) (lf 7 k)),(lf 1 1))]
def axTxt:List (ByteArray × ByteArray × ByteArray) :=
 [(⟨#[99,111,112,121,97,115]⟩,⟨#[99,111,112,121,32,59,32,40,99,111,112,121,32,42,32,105,100,32,49,41]⟩,⟨#[99,111,112,121,32,59,32,40,105,100,32,49,32,42,32,99,111,112,121,41]⟩),
  (⟨#[99,111,112,121,117,110]⟩,⟨#[99,111,112,121,32,59,32,40,100,105,115,99,97,114,100,32,42,32,105,100,32,49,41]⟩,⟨#[105,100,32,49]⟩),
  (⟨#[99,111,112,121,99,109]⟩,⟨#[99,111,112,121,32,59,32,115,119,97,112]⟩,⟨#[99,111,112,121]⟩),
  (⟨#[97,100,100,97,115]⟩,⟨#[40,97,100,100,32,42,32,105,100,32,49,41,32,59,32,97,100,100]⟩,⟨#[40,105,100,32,49,32,42,32,97,100,100,41,32,59,32,97,100,100]⟩),
  (⟨#[97,100,100,117,110]⟩,⟨#[40,122,101,114,111,32,42,32,105,100,32,49,41,32,59,32,97,100,100]⟩,⟨#[105,100,32,49]⟩),
  (⟨#[97,100,100,99,109]⟩,⟨#[115,119,97,112,32,59,32,97,100,100]⟩,⟨#[97,100,100]⟩),
  (⟨#[97,100,100,99,111,112,121]⟩,⟨#[97,100,100,32,59,32,99,111,112,121]⟩,⟨#[40,40,99,111,112,121,32,42,32,99,111,112,121,41,32,59,32,40,40,105,100,32,49,32,42,32,115,119,97,112,41,32,42,32,105,100,32,49,41,41,32,59,32,40,97,100,100,32,42,32,97,100,100,41]⟩),
  (⟨#[97,100,100,100,105,115]⟩,⟨#[97,100,100,32,59,32,100,105,115,99,97,114,100]⟩,⟨#[100,105,115,99,97,114,100,32,42,32,100,105,115,99,97,114,100]⟩),
  (⟨#[122,101,114,111,99,111,112]⟩,⟨#[122,101,114,111,32,59,32,99,111,112,121]⟩,⟨#[122,101,114,111,32,42,32,122,101,114,111]⟩),
  (⟨#[122,101,114,111,100,105,115]⟩,⟨#[122,101,114,111,32,59,32,100,105,115,99,97,114,100]⟩,⟨#[105,100,32,48]⟩),
  (⟨#[115,99,111,110,101]⟩,⟨#[115,99,97,108,101,32,49]⟩,⟨#[105,100,32,49]⟩),
  (⟨#[115,99,122,101,114,111]⟩,⟨#[115,99,97,108,101,32,48]⟩,⟨#[100,105,115,99,97,114,100,32,59,32,122,101,114,111]⟩),
  (⟨#[115,99,109,117,108]⟩,⟨#[115,99,97,108,101,32,75,32,59,32,115,99,97,108,101,32,76]⟩,⟨#[115,99,97,108,101,32,77]⟩),
  (⟨#[115,99,97,100,100]⟩,⟨#[40,99,111,112,121,32,59,32,40,115,99,97,108,101,32,75,32,42,32,115,99,97,108,101,32,76,41,41,32,59,32,97,100,100]⟩,⟨#[115,99,97,108,101,32,83]⟩),
  (⟨#[115,99,116,104,114,117,97]⟩,⟨#[97,100,100,32,59,32,115,99,97,108,101,32,75]⟩,⟨#[40,115,99,97,108,101,32,75,32,42,32,115,99,97,108,101,32,75,41,32,59,32,97,100,100]⟩),
  (⟨#[115,99,116,104,114,117,99]⟩,⟨#[115,99,97,108,101,32,75,32,59,32,99,111,112,121]⟩,⟨#[99,111,112,121,32,59,32,40,115,99,97,108,101,32,75,32,42,32,115,99,97,108,101,32,75,41]⟩),
  (⟨#[115,99,100,105,115]⟩,⟨#[115,99,97,108,101,32,75,32,59,32,100,105,115,99,97,114,100]⟩,⟨#[100,105,115,99,97,114,100]⟩),
  (⟨#[122,101,114,111,115,99]⟩,⟨#[122,101,114,111,32,59,32,115,99,97,108,101,32,75]⟩,⟨#[122,101,114,111]⟩),
  (⟨#[102,114,111,98,99,111,112,121]⟩,⟨#[40,99,111,112,121,32,42,32,105,100,32,49,41,32,59,32,40,105,100,32,49,32,42,32,99,111,99,111,112,121,41]⟩,⟨#[99,111,99,111,112,121,32,59,32,99,111,112,121]⟩),
  (⟨#[115,112,101,99,105,97,108]⟩,⟨#[99,111,112,121,32,59,32,99,111,99,111,112,121]⟩,⟨#[105,100,32,49]⟩),
  (⟨#[102,114,111,98,97,100,100]⟩,⟨#[40,99,111,97,100,100,32,42,32,105,100,32,49,41,32,59,32,40,105,100,32,49,32,42,32,97,100,100,41]⟩,⟨#[97,100,100,32,59,32,99,111,97,100,100]⟩),
  (⟨#[97,100,100,115,112,101,99]⟩,⟨#[99,111,97,100,100,32,59,32,97,100,100]⟩,⟨#[105,100,32,49]⟩),
  (⟨#[98,111,110,101,99,111,112]⟩,⟨#[99,111,100,105,115,99,97,114,100,32,59,32,100,105,115,99,97,114,100]⟩,⟨#[105,100,32,48]⟩),
  (⟨#[98,111,110,101,97,100,100]⟩,⟨#[122,101,114,111,32,59,32,99,111,122,101,114,111]⟩,⟨#[105,100,32,48]⟩),
  (⟨#[97,100,100,99,97,112]⟩,⟨#[97,100,100,32,59,32,99,111,122,101,114,111]⟩,⟨#[40,40,105,100,32,49,32,42,32,115,99,97,108,101,32,78,41,32,59,32,99,111,99,111,112,121,41,32,59,32,100,105,115,99,97,114,100]⟩),
  (⟨#[115,99,105,110,118]⟩,⟨#[115,99,97,108,101,32,75,32,59,32,99,111,115,99,97,108,101,32,75]⟩,⟨#[105,100,32,49]⟩),
  (⟨#[99,111,115,99,105,110,118]⟩,⟨#[99,111,115,99,97,108,101,32,75,32,59,32,115,99,97,108,101,32,75]⟩,⟨#[105,100,32,49]⟩)]
def mirK (k:Int):Int:=if 3≤k∧k≤8 then k+6 else if 9≤k∧k≤14 then k - 6 else k
def Tr.mir:Tr → Tr
 | .leaf n=>.leaf ⟨mirK n.kind,n.value,n.name⟩
 | .seq a b=>.seq b.mir a.mir
 | .par a b=>.par a.mir b.mir
end Go.Proofs.YtbljmfcifljkaaaGreatDoor
/-
  The axioms' trees: their types, and what their texts are read as. Plain. Own work.
-/
namespace Go.Proofs.YtbljmfcifljkaaaGreatDoor
def Tr.LK:Tr → Prop
 | .leaf n=>¬ (n.kind=15∨n.kind=16)
 | .seq a b=>a.LK∧b.LK
 | .par a b=>a.LK∧b.LK
def Tr.ty (leaf:Nd → Option W2):Tr → Option W2
 | .leaf n=>leaf n
 | .seq a b=>match a.ty leaf,b.ty leaf with
  | some x,some y=>joinW 15 x y
  | _,_=>none
 | .par a b=>match a.ty leaf,b.ty leaf with
  | some x,some y=>joinW 16 x y
  | _,_=>none
theorem typed_nodes {leaf:Nd → Option W2}:∀ (t:Tr),t.LK → ∀ (x:W2),t.ty leaf=some x → ∀ (r:List Nd) (st:List W2),typedGo leaf (t.nodes ++ r) st=typedGo leaf r (x :: st)
 | .leaf n,h,x,hx,r,st=>typedGo_push h hx
 | .seq a b,h,x,hx,r,st=>by
  rw [Tr.ty] at hx
  split at hx
  next y z h1 h2 =>
   rw [Tr.nodes,List.append_assoc,List.append_assoc,typed_nodes a h.1 y h1,typed_nodes b h.2 z h2]
   show typedGo leaf (⟨15,0,⟨#[]⟩⟩ :: r) (z :: y :: st)=_
   conv=>lhs;unfold typedGo
   rw [if_pos (.inl rfl),if_pos ⟨rfl,rfl⟩]
   simp only [hx]
  next=>cases hx
 | .par a b,h,x,hx,r,st=>by
  rw [Tr.ty] at hx
  split at hx
  next y z h1 h2 =>
   rw [Tr.nodes,List.append_assoc,List.append_assoc,typed_nodes a h.1 y h1,typed_nodes b h.2 z h2]
   show typedGo leaf (⟨16,0,⟨#[]⟩⟩ :: r) (z :: y :: st)=_
   conv=>lhs;unfold typedGo
   rw [if_pos (.inr rfl),if_pos ⟨rfl,rfl⟩]
   simp only [hx]
  next=>cases hx
theorem nodes_pos:∀ t:Tr,1≤t.nodes.length
 | .leaf n=>by simp [Tr.nodes]
 | .seq a b=>by simp [Tr.nodes];omega
 | .par a b=>by simp [Tr.nodes];omega
theorem typedL_nodes {leaf:Nd → Option W2} {t:Tr} {x:W2} (h:t.LK) (hx:t.ty leaf=some x) (hl:t.nodes.length≤400):typedL leaf t.nodes=some x:=by
 unfold typedL
 rw [if_pos ⟨nodes_pos t,hl⟩]
 have:=typed_nodes t h x hx [] []
 rw [List.append_nil] at this
 rw [this]
 rfl
structure AxTr (t:Tr):Prop where
 lk:t.LK
 ty:∃ x,t.ty (leafIn [])=some x
 len:t.nodes.length≤13
theorem lf_ty (k v:Int) (h:leafB ⟨k,v,⟨#[]⟩⟩=true) (hk:¬ k=17):(lf k v).ty (leafIn [])=some (arityW ⟨k,v,⟨#[]⟩⟩):=by
 unfold lf Tr.ty leafIn
 rw [if_neg hk,if_pos h]
theorem leafB_sc {k v:Int} (hk:k=7∨k=13) (h0:0≤v) (h1:v≤96):leafB ⟨k,v,⟨#[]⟩⟩=true:=by
 unfold leafB
 have e:decide ((⟨#[]⟩:ByteArray)=ByteArray.empty)=true:=by decide
 simp only [e,Bool.true_and,Bool.and_eq_true,decide_eq_true_eq]
 rcases hk with rfl|rfl <;> simp [h0,h1]
theorem lf_sc {k v:Int} (hk:k=7∨k=13) (h0:0≤v) (h1:v≤96):(lf k v).ty (leafIn [])=some (1,1):=by
 rw [lf_ty k v (leafB_sc hk h0 h1) (by omega)]
 rcases hk with rfl|rfl <;> rfl
def Tr.fit:Tr → Prop
 | .leaf n=>((n.kind=7∨n.kind=13)∧0≤n.value∧n.value≤96∧n.name=⟨#[]⟩)∨(¬ (n.kind=7∨n.kind=13)∧leafB n=true)
 | .seq a b=>a.fit∧b.fit
 | .par a b=>a.fit∧b.fit
def Tr.zer:Tr → Tr
 | .leaf n=>.leaf ⟨n.kind,if n.kind=7∨n.kind=13 then 0 else n.value,n.name⟩
 | .seq a b=>.seq a.zer b.zer
 | .par a b=>.par a.zer b.zer
theorem zer_ty:∀ (t:Tr),t.fit → t.ty (leafIn [])=t.zer.ty (leafIn [])
 | .leaf n,h=>by
  obtain ⟨k,v,nm⟩:=n
  simp only [Tr.fit] at h
  rcases h with ⟨hk,h0,h1,rfl⟩|⟨hk,hb⟩
  ·simp only [Tr.zer,if_pos hk]
   exact (lf_sc hk h0 h1).trans (lf_sc hk (by omega) (by omega)).symm
  ·simp only [Tr.zer,if_neg hk]
 | .seq a b,h=>by simp only [Tr.ty,Tr.zer,zer_ty a h.1,zer_ty b h.2]
 | .par a b,h=>by simp only [Tr.ty,Tr.zer,zer_ty a h.1,zer_ty b h.2]
end Go.Proofs.YtbljmfcifljkaaaGreatDoor
/-
  The axioms' trees are terms, and their texts are read as them. Plain. Own work.
-/
namespace Go.Proofs.YtbljmfcifljkaaaGreatDoor
set_option maxRecDepth 100000
def Tr.lkB:Tr → Bool
 | .leaf n=>!decide (n.kind=15) && !decide (n.kind=16)
 | .seq a b=>a.lkB && b.lkB
 | .par a b=>a.lkB && b.lkB
theorem lk_zer:∀ t:Tr,t.zer.lkB=true → t.LK
 | .leaf n,h=>by
  simp only [Tr.zer,Tr.lkB,Bool.and_eq_true,Bool.not_eq_true',decide_eq_false_iff_not] at h
  simp only [Tr.LK,not_or]
  exact h
 | .seq a b,h=>by
  simp only [Tr.zer,Tr.lkB,Bool.and_eq_true] at h
  exact ⟨lk_zer a h.1,lk_zer b h.2⟩
 | .par a b,h=>by
  simp only [Tr.zer,Tr.lkB,Bool.and_eq_true] at h
  exact ⟨lk_zer a h.1,lk_zer b h.2⟩
theorem len_zer:∀ t:Tr,t.zer.nodes.length=t.nodes.length
 | .leaf n=>rfl
 | .seq a b=>by simp [Tr.zer,Tr.nodes,len_zer a,len_zer b]
 | .par a b=>by simp [Tr.zer,Tr.nodes,len_zer a,len_zer b]
def okZ (t:Tr):Bool:=t.lkB && (t.ty (leafIn [])).isSome && decide (t.nodes.length≤13)
theorem okZ_tr {t:Tr} (hf:t.fit) (h:okZ t.zer=true):AxTr t:=by
 simp only [okZ,Bool.and_eq_true,decide_eq_true_eq,Option.isSome_iff_exists] at h
 obtain ⟨⟨h1,x,h2⟩,h3⟩:=h
 exact ⟨lk_zer t h1,⟨x,by rw [zer_ty t hf];exact h2⟩,by rw [← len_zer];exact h3⟩
def fitB (P:Int → Bool):Tr → Bool
 | .leaf n=>if n.kind=7∨n.kind=13 then P n.value && decide (n.name=⟨#[]⟩) else leafB n
 | .seq a b=>fitB P a && fitB P b
 | .par a b=>fitB P a && fitB P b
theorem fitB_fit:∀ (t:Tr),fitB (fun v=>decide (0≤v) && decide (v≤96)) t=true → t.fit
 | .leaf n,h=>by
  unfold fitB at h
  unfold Tr.fit
  split at h
  next hk =>
   simp only [Bool.and_eq_true,decide_eq_true_eq] at h
   exact .inl ⟨hk,h.1.1,h.1.2,h.2⟩
  next hk=>exact .inr ⟨hk,h⟩
 | .seq a b,h=>by
  simp only [fitB,Bool.and_eq_true] at h
  exact ⟨fitB_fit a h.1,fitB_fit b h.2⟩
 | .par a b,h=>by
  simp only [fitB,Bool.and_eq_true] at h
  exact ⟨fitB_fit a h.1,fitB_fit b h.2⟩
def trs (L:List (ByteArray × Tr × Tr)):List Tr:=L.flatMap fun x=>[x.2.1,x.2.2,x.2.1.mir,x.2.2.mir]
theorem ax_zer (k l m s n:Int):(trs (axT k l m s n)).map Tr.zer=(trs (axT 0 0 0 0 0)).map Tr.zer:=rfl
theorem ax_okZ:((trs (axT 0 0 0 0 0)).map Tr.zer).all okZ=true:=by decide +kernel
theorem ax_all (P:Int → Bool) {k l m s n:Int} (hk:P k=true) (hl:P l=true) (hm:P m=true) (hs:P s=true) (hn:P n=true) (h0:P 0=true) (h1:P 1=true):(trs (axT k l m s n)).all (fitB P)=true:=by
 have g1_1:leafB ⟨1,1,⟨#[]⟩⟩=true:=by decide
 have g1_0:leafB ⟨1,0,⟨#[]⟩⟩=true:=by decide
 have g2_0:leafB ⟨2,0,⟨#[]⟩⟩=true:=by decide
 have g3_0:leafB ⟨3,0,⟨#[]⟩⟩=true:=by decide
 have g4_0:leafB ⟨4,0,⟨#[]⟩⟩=true:=by decide
 have g5_0:leafB ⟨5,0,⟨#[]⟩⟩=true:=by decide
 have g6_0:leafB ⟨6,0,⟨#[]⟩⟩=true:=by decide
 have g9_0:leafB ⟨9,0,⟨#[]⟩⟩=true:=by decide
 have g10_0:leafB ⟨10,0,⟨#[]⟩⟩=true:=by decide
 have g11_0:leafB ⟨11,0,⟨#[]⟩⟩=true:=by decide
 have g12_0:leafB ⟨12,0,⟨#[]⟩⟩=true:=by decide
 simp [trs,axT,Tr.mir,lf,fitB,mirK,hk,hl,hm,hs,hn,h0,h1,g1_1,g1_0,g2_0,g3_0,g4_0,g5_0,g6_0,g9_0,g10_0,g11_0,g12_0]
theorem ax_fit {k l m s n:Int} (hk:0≤k∧k≤96) (hl:0≤l∧l≤96) (hm:0≤m∧m≤96) (hs:0≤s∧s≤96) (hn:0≤n∧n≤96):∀ t ∈ trs (axT k l m s n),t.fit:=by
 have key:=ax_all (fun v=>decide (0≤v) && decide (v≤96)) (k:=k) (l:=l) (m:=m) (s:=s) (n:=n) (by simp [hk]) (by simp [hl]) (by simp [hm]) (by simp [hs]) (by simp [hn]) (by decide) (by decide)
 intro t ht
 exact fitB_fit t (List.all_eq_true.1 key t ht)
theorem ax_tr {k l m s n:Int} (hk:0≤k∧k≤96) (hl:0≤l∧l≤96) (hm:0≤m∧m≤96) (hs:0≤s∧s≤96) (hn:0≤n∧n≤96):∀ t ∈ trs (axT k l m s n),AxTr t:=by
 intro t ht
 have h1:=ax_fit hk hl hm hs hn t ht
 have h2:t.zer ∈ (trs (axT k l m s n)).map Tr.zer:=List.mem_map_of_mem ht
 rw [ax_zer] at h2
 exact okZ_tr h1 (List.all_eq_true.1 ax_okZ _ h2)
end Go.Proofs.YtbljmfcifljkaaaGreatDoor
/-
  The table's texts, their letters replaced, are the printed trees. Plain. Own work.
-/
namespace Go.Proofs.YtbljmfcifljkaaaGreatDoor
set_option maxRecDepth 100000
structure AxNum (k l m s n:Int):Prop where
 hk:0≤k∧k≤96
 hl:0≤l∧l≤96
 hm:0≤m∧m≤96
 hs:0≤s∧s≤96
 hn:0≤n∧n≤96
theorem AxNum.tr {k l m s n:Int} (h:AxNum k l m s n) (i:Nat) (hi:i<(axT k l m s n).length) :
  AxTr ((axT k l m s n)[i]).2.1∧AxTr ((axT k l m s n)[i]).2.2∧AxTr ((axT k l m s n)[i]).2.1.mir∧AxTr ((axT k l m s n)[i]).2.2.mir:=by
 have hm:∀ t,t ∈ [((axT k l m s n)[i]).2.1,((axT k l m s n)[i]).2.2,((axT k l m s n)[i]).2.1.mir,((axT k l m s n)[i]).2.2.mir] → AxTr t:=fun t ht =>
  ax_tr h.hk h.hl h.hm h.hs h.hn t (List.mem_flatMap.2 ⟨_,List.getElem_mem hi,ht⟩)
 exact ⟨hm _ (by simp),hm _ (by simp),hm _ (by simp),hm _ (by simp)⟩
end Go.Proofs.YtbljmfcifljkaaaGreatDoor
/-
  The program's table of axioms. Own work.
-/
namespace Go.Proofs.YtbljmfcifljkaaaGreatDoor
open Go.RowKit
set_option maxRecDepth 100000
set_option maxHeartbeats 4000000
def TxAt (w:World) (g:Nat):Prop:=∀ i,∀ h:i<27,w.cell? ⟨g,i * 3,none⟩=some (.string (axTxt[i]'h).1)∧w.cell? ⟨g,i * 3+1,none⟩=some (.string (axTxt[i]'h).2.1)∧w.cell? ⟨g,i * 3+2,none⟩=some (.string (axTxt[i]'h).2.2)
theorem TxAt.keep {w w':World} {g:Nat} (h:TxAt w g) (hb:Below w.heap.size w w'):TxAt w' g:=fun i hi =>
 ⟨cell_keep hb (h i hi).1,cell_keep hb (h i hi).2.1,cell_keep hb (h i hi).2.2⟩
end Go.Proofs.YtbljmfcifljkaaaGreatDoor
