/-
  The axioms, plain: trees, texts of the table with letters for numbers, and what their texts are read as. Own work; the table is printed by wip/parAx.py.
-/
import Derived.Test.YtbljmfcifljkaaaGreatDoorULX
import Derived.Test.YtbljmfcifljkaaaGreatDoorURU
import Derived.Test.YtbljmfcifljkaaaGreatDoorUPA
import Derived.Test.YtbljmfcifljkaaaGreatDoorUFL
set_option linter.all false
set_option maxRecDepth 100000
set_option maxHeartbeats 8000000
namespace Go.Proofs.YtbljmfcifljkaaaGreatDoor
def lf (k v:Int):Tr:=.leaf ⟨k,v,⟨#[]⟩⟩
def axT (k l m s n:Int):List (ByteArray × Tr × Tr) :=
 [(⟨#[99,111,112,121,97,115]⟩,(.seq (lf 3 0) (.par (lf 3 0) (lf 1 1))),(.seq (lf 3 0) (.par (lf 1 1) (lf 3 0)))),
  (⟨#[99,111,112,121,117,110]⟩,(.seq (lf 3 0) (.par (lf 4 0) (lf 1 1))),(lf 1 1)),
  (⟨#[99,111,112,121,99,109]⟩,(.seq (lf 3 0) (lf 2 0)),(lf 3 0)),
  (⟨#[97,100,100,97,115]⟩,(.seq (.par (lf 5 0) (lf 1 1)) (lf 5 0)),(.seq (.par (lf 1 1) (lf 5 0)) (lf 5 0))),
  (⟨#[97,100,100,117,110]⟩,(.seq (.par (lf 6 0) (lf 1 1)) (lf 5 0)),(lf 1 1)),
  (⟨#[97,100,100,99,109]⟩,(.seq (lf 2 0) (lf 5 0)),(lf 5 0)),
  (⟨#[97,100,100,99,111,112,121]⟩,(.seq (lf 5 0) (lf 3 0)),(.seq (.seq (.par (lf 3 0) (lf 3 0)) (.par (.par (lf 1 1) (lf 2 0)) (lf 1 1))) (.par (lf 5 0) (lf 5 0)))),
  (⟨#[97,100,100,100,105,115]⟩,(.seq (lf 5 0) (lf 4 0)),(.par (lf 4 0) (lf 4 0))),
  (⟨#[122,101,114,111,99,111,112]⟩,(.seq (lf 6 0) (lf 3 0)),(.par (lf 6 0) (lf 6 0))),
  (⟨#[122,101,114,111,100,105,115]⟩,(.seq (lf 6 0) (lf 4 0)),(lf 1 0)),
  (⟨#[115,99,111,110,101]⟩,(lf 7 1),(lf 1 1)),
  (⟨#[115,99,122,101,114,111]⟩,(lf 7 0),(.seq (lf 4 0) (lf 6 0))),
  (⟨#[115,99,109,117,108]⟩,(.seq (lf 7 k) (lf 7 l)),(lf 7 m)),
  (⟨#[115,99,97,100,100]⟩,(.seq (.seq (lf 3 0) (.par (lf 7 k) (lf 7 l))) (lf 5 0)),(lf 7 s)),
  (⟨#[115,99,116,104,114,117,97]⟩,(.seq (lf 5 0) (lf 7 k)),(.seq (.par (lf 7 k) (lf 7 k)) (lf 5 0))),
  (⟨#[115,99,116,104,114,117,99]⟩,(.seq (lf 7 k) (lf 3 0)),(.seq (lf 3 0) (.par (lf 7 k) (lf 7 k)))),
  (⟨#[115,99,100,105,115]⟩,(.seq (lf 7 k) (lf 4 0)),(lf 4 0)),
  (⟨#[122,101,114,111,115,99]⟩,(.seq (lf 6 0) (lf 7 k)),(lf 6 0)),
  (⟨#[102,114,111,98,99,111,112,121]⟩,(.seq (.par (lf 3 0) (lf 1 1)) (.par (lf 1 1) (lf 9 0))),(.seq (lf 9 0) (lf 3 0))),
  (⟨#[115,112,101,99,105,97,108]⟩,(.seq (lf 3 0) (lf 9 0)),(lf 1 1)),
  (⟨#[102,114,111,98,97,100,100]⟩,(.seq (.par (lf 11 0) (lf 1 1)) (.par (lf 1 1) (lf 5 0))),(.seq (lf 5 0) (lf 11 0))),
  (⟨#[97,100,100,115,112,101,99]⟩,(.seq (lf 11 0) (lf 5 0)),(lf 1 1)),
  (⟨#[98,111,110,101,99,111,112]⟩,(.seq (lf 10 0) (lf 4 0)),(lf 1 0)),
  (⟨#[98,111,110,101,97,100,100]⟩,(.seq (lf 6 0) (lf 12 0)),(lf 1 0)),
  (⟨#[97,100,100,99,97,112]⟩,(.seq (lf 5 0) (lf 12 0)),(.seq (.seq (.par (lf 1 1) (lf 7 n)) (lf 9 0)) (lf 4 0))),
  (⟨#[115,99,105,110,118]⟩,(.seq (lf 7 k) (lf 13 k)),(lf 1 1)),
  (⟨#[99,111,115,99,105,110,118]⟩,(.seq (lf 13 k) (lf 7 k)),(lf 1 1))]
def axTxt:List (ByteArray × ByteArray × ByteArray) :=
 [(⟨#[99,111,112,121,97,115]⟩,⟨#[99,111,112,121,32,59,32,40,99,111,112,121,32,42,32,105,100,32,49,41]⟩,⟨#[99,111,112,121,32,59,32,40,105,100,32,49,32,42,32,99,111,112,121,41]⟩),
  (⟨#[99,111,112,121,117,110]⟩,⟨#[99,111,112,121,32,59,32,40,100,105,115,99,97,114,100,32,42,32,105,100,32,49,41]⟩,⟨#[105,100,32,49]⟩),
  (⟨#[99,111,112,121,99,109]⟩,⟨#[99,111,112,121,32,59,32,115,119,97,112]⟩,⟨#[99,111,112,121]⟩),
  (⟨#[97,100,100,97,115]⟩,⟨#[40,97,100,100,32,42,32,105,100,32,49,41,32,59,32,97,100,100]⟩,⟨#[40,105,100,32,49,32,42,32,97,100,100,41,32,59,32,97,100,100]⟩),
  (⟨#[97,100,100,117,110]⟩,⟨#[40,122,101,114,111,32,42,32,105,100,32,49,41,32,59,32,97,100,100]⟩,⟨#[105,100,32,49]⟩),
  (⟨#[97,100,100,99,109]⟩,⟨#[115,119,97,112,32,59,32,97,100,100]⟩,⟨#[97,100,100]⟩),
  (⟨#[97,100,100,99,111,112,121]⟩,⟨#[97,100,100,32,59,32,99,111,112,121]⟩,⟨#[40,40,99,111,112,121,32,42,32,99,111,112,121,41,32,59,32,40,40,105,100,32,49,32,42,32,115,119,97,112,41,32,42,32,105,100,32,49,41,41,32,59,32,40,97,100,100,32,42,32,97,100,100,41]⟩),
  (⟨#[97,100,100,100,105,115]⟩,⟨#[97,100,100,32,59,32,100,105,115,99,97,114,100]⟩,⟨#[100,105,115,99,97,114,100,32,42,32,100,105,115,99,97,114,100]⟩),
  (⟨#[122,101,114,111,99,111,112]⟩,⟨#[122,101,114,111,32,59,32,99,111,112,121]⟩,⟨#[122,101,114,111,32,42,32,122,101,114,111]⟩),
  (⟨#[122,101,114,111,100,105,115]⟩,⟨#[122,101,114,111,32,59,32,100,105,115,99,97,114,100]⟩,⟨#[105,100,32,48]⟩),
  (⟨#[115,99,111,110,101]⟩,⟨#[115,99,97,108,101,32,49]⟩,⟨#[105,100,32,49]⟩),
  (⟨#[115,99,122,101,114,111]⟩,⟨#[115,99,97,108,101,32,48]⟩,⟨#[100,105,115,99,97,114,100,32,59,32,122,101,114,111]⟩),
  (⟨#[115,99,109,117,108]⟩,⟨#[115,99,97,108,101,32,75,32,59,32,115,99,97,108,101,32,76]⟩,⟨#[115,99,97,108,101,32,77]⟩),
  (⟨#[115,99,97,100,100]⟩,⟨#[40,99,111,112,121,32,59,32,40,115,99,97,108,101,32,75,32,42,32,115,99,97,108,101,32,76,41,41,32,59,32,97,100,100]⟩,⟨#[115,99,97,108,101,32,83]⟩),
  (⟨#[115,99,116,104,114,117,97]⟩,⟨#[97,100,100,32,59,32,115,99,97,108,101,32,75]⟩,⟨#[40,115,99,97,108,101,32,75,32,42,32,115,99,97,108,101,32,75,41,32,59,32,97,100,100]⟩),
  (⟨#[115,99,116,104,114,117,99]⟩,⟨#[115,99,97,108,101,32,75,32,59,32,99,111,112,121]⟩,⟨#[99,111,112,121,32,59,32,40,115,99,97,108,101,32,75,32,42,32,115,99,97,108,101,32,75,41]⟩),
  (⟨#[115,99,100,105,115]⟩,⟨#[115,99,97,108,101,32,75,32,59,32,100,105,115,99,97,114,100]⟩,⟨#[100,105,115,99,97,114,100]⟩),
  (⟨#[122,101,114,111,115,99]⟩,⟨#[122,101,114,111,32,59,32,115,99,97,108,101,32,75]⟩,⟨#[122,101,114,111]⟩),
  (⟨#[102,114,111,98,99,111,112,121]⟩,⟨#[40,99,111,112,121,32,42,32,105,100,32,49,41,32,59,32,40,105,100,32,49,32,42,32,99,111,99,111,112,121,41]⟩,⟨#[99,111,99,111,112,121,32,59,32,99,111,112,121]⟩),
  (⟨#[115,112,101,99,105,97,108]⟩,⟨#[99,111,112,121,32,59,32,99,111,99,111,112,121]⟩,⟨#[105,100,32,49]⟩),
  (⟨#[102,114,111,98,97,100,100]⟩,⟨#[40,99,111,97,100,100,32,42,32,105,100,32,49,41,32,59,32,40,105,100,32,49,32,42,32,97,100,100,41]⟩,⟨#[97,100,100,32,59,32,99,111,97,100,100]⟩),
  (⟨#[97,100,100,115,112,101,99]⟩,⟨#[99,111,97,100,100,32,59,32,97,100,100]⟩,⟨#[105,100,32,49]⟩),
  (⟨#[98,111,110,101,99,111,112]⟩,⟨#[99,111,100,105,115,99,97,114,100,32,59,32,100,105,115,99,97,114,100]⟩,⟨#[105,100,32,48]⟩),
  (⟨#[98,111,110,101,97,100,100]⟩,⟨#[122,101,114,111,32,59,32,99,111,122,101,114,111]⟩,⟨#[105,100,32,48]⟩),
  (⟨#[97,100,100,99,97,112]⟩,⟨#[97,100,100,32,59,32,99,111,122,101,114,111]⟩,⟨#[40,40,105,100,32,49,32,42,32,115,99,97,108,101,32,78,41,32,59,32,99,111,99,111,112,121,41,32,59,32,100,105,115,99,97,114,100]⟩),
  (⟨#[115,99,105,110,118]⟩,⟨#[115,99,97,108,101,32,75,32,59,32,99,111,115,99,97,108,101,32,75]⟩,⟨#[105,100,32,49]⟩),
  (⟨#[99,111,115,99,105,110,118]⟩,⟨#[99,111,115,99,97,108,101,32,75,32,59,32,115,99,97,108,101,32,75]⟩,⟨#[105,100,32,49]⟩)]
def mirK (k:Int):Int:=if 3≤k∧k≤8 then k+6 else if 9≤k∧k≤14 then k - 6 else k
def Tr.mir:Tr → Tr
 | .leaf n=>.leaf ⟨mirK n.kind,n.value,n.name⟩
 | .seq a b=>.seq b.mir a.mir
 | .par a b=>.par a.mir b.mir
def axN (p k l:Int):List (ByteArray × Tr × Tr):=axT k l ((k * l) % p) ((k+l) % p) (p - 1)
def rulOf (x:ByteArray × Tr × Tr):Rul:=⟨x.1,x.2.1.nodes,x.2.2.nodes⟩
def bM:ByteArray:=⟨#[109]⟩
def mirOf (x:ByteArray × Tr × Tr):Rul:=⟨bM ++ x.1,x.2.1.mir.nodes,x.2.2.mir.nodes⟩
def axL (p k l:Int):List Rul :=
 ((axN p k l).take 18).map rulOf ++ ((axN p k l).take 18).map mirOf ++ (((axN p k l).drop 18).take 7).map rulOf ++ (((axN p k l).drop 24).take 1).map mirOf ++ (if k=0 then [] else ((axN p k l).drop 25).map rulOf)
def repD (k l m s n:Int) (c:UInt8):Option ByteArray :=
 if c=75 then some (numT k) else if c=76 then some (numT l) else if c=77 then some (numT m) else if c=83 then some (numT s) else if c=78 then some (numT n) else none
def repB (d:UInt8 → Option ByteArray) (s:ByteArray):ByteArray:=bytesOf (s.data.toList.flatMap fun c=>match d c with
 | some t=>t.data.toList
 | none=>[c])
end Go.Proofs.YtbljmfcifljkaaaGreatDoor
/-
  The axioms' trees: their types, and what their texts are read as. Plain. Own work.
-/
namespace Go.Proofs.YtbljmfcifljkaaaGreatDoor
def Tr.LK:Tr → Prop
 | .leaf n=>¬ (n.kind=15∨n.kind=16)
 | .seq a b=>a.LK∧b.LK
 | .par a b=>a.LK∧b.LK
def Tr.ty (leaf:Nd → Option W2):Tr → Option W2
 | .leaf n=>leaf n
 | .seq a b=>match a.ty leaf,b.ty leaf with
  | some x,some y=>joinW 15 x y
  | _,_=>none
 | .par a b=>match a.ty leaf,b.ty leaf with
  | some x,some y=>joinW 16 x y
  | _,_=>none
theorem trees_nodes:∀ (t:Tr),t.LK → ∀ (r:List Nd) (st:List Tr),treesGo (t.nodes ++ r) st=treesGo r (t :: st)
 | .leaf n,h,r,st=>treesGo_leaf h
 | .seq a b,h,r,st=>by
  rw [Tr.nodes,List.append_assoc,List.append_assoc,trees_nodes a h.1,trees_nodes b h.2]
  exact treesGo_seq rfl
 | .par a b,h,r,st=>by
  rw [Tr.nodes,List.append_assoc,List.append_assoc,trees_nodes a h.1,trees_nodes b h.2]
  exact treesGo_par rfl
theorem treeL_nodes {t:Tr} (h:t.LK):treesGo t.nodes []=some [t]:=by
 have:=trees_nodes t h [] []
 rw [List.append_nil] at this
 rw [this]
 rfl
theorem typed_nodes {leaf:Nd → Option W2}:∀ (t:Tr),t.LK → ∀ (x:W2),t.ty leaf=some x → ∀ (r:List Nd) (st:List W2),typedGo leaf (t.nodes ++ r) st=typedGo leaf r (x :: st)
 | .leaf n,h,x,hx,r,st=>typedGo_push h hx
 | .seq a b,h,x,hx,r,st=>by
  rw [Tr.ty] at hx
  split at hx
  next y z h1 h2 =>
   rw [Tr.nodes,List.append_assoc,List.append_assoc,typed_nodes a h.1 y h1,typed_nodes b h.2 z h2]
   show typedGo leaf (⟨15,0,⟨#[]⟩⟩ :: r) (z :: y :: st)=_
   conv=>lhs;unfold typedGo
   rw [if_pos (.inl rfl),if_pos ⟨rfl,rfl⟩]
   simp only [hx]
  next=>cases hx
 | .par a b,h,x,hx,r,st=>by
  rw [Tr.ty] at hx
  split at hx
  next y z h1 h2 =>
   rw [Tr.nodes,List.append_assoc,List.append_assoc,typed_nodes a h.1 y h1,typed_nodes b h.2 z h2]
   show typedGo leaf (⟨16,0,⟨#[]⟩⟩ :: r) (z :: y :: st)=_
   conv=>lhs;unfold typedGo
   rw [if_pos (.inr rfl),if_pos ⟨rfl,rfl⟩]
   simp only [hx]
  next=>cases hx
theorem nodes_pos:∀ t:Tr,1≤t.nodes.length
 | .leaf n=>by simp [Tr.nodes]
 | .seq a b=>by simp [Tr.nodes];omega
 | .par a b=>by simp [Tr.nodes];omega
theorem typedL_nodes {leaf:Nd → Option W2} {t:Tr} {x:W2} (h:t.LK) (hx:t.ty leaf=some x) (hl:t.nodes.length≤400):typedL leaf t.nodes=some x:=by
 unfold typedL
 rw [if_pos ⟨nodes_pos t,hl⟩]
 have:=typed_nodes t h x hx [] []
 rw [List.append_nil] at this
 rw [this]
 rfl
structure AxTr (t:Tr):Prop where
 lk:t.LK
 ty:∃ x,t.ty (leafIn [])=some x
 len:t.nodes.length≤13
theorem lf_ty (k v:Int) (h:leafB ⟨k,v,⟨#[]⟩⟩=true) (hk:¬ k=17):(lf k v).ty (leafIn [])=some (arityW ⟨k,v,⟨#[]⟩⟩):=by
 unfold lf Tr.ty leafIn
 rw [if_neg hk,if_pos h]
theorem leafB_sc {k v:Int} (hk:k=7∨k=13) (h0:0≤v) (h1:v≤96):leafB ⟨k,v,⟨#[]⟩⟩=true:=by
 unfold leafB
 have e:decide ((⟨#[]⟩:ByteArray)=ByteArray.empty)=true:=by decide
 simp only [e,Bool.true_and,Bool.and_eq_true,decide_eq_true_eq]
 rcases hk with rfl|rfl <;> simp [h0,h1]
theorem lf_sc {k v:Int} (hk:k=7∨k=13) (h0:0≤v) (h1:v≤96):(lf k v).ty (leafIn [])=some (1,1):=by
 rw [lf_ty k v (leafB_sc hk h0 h1) (by omega)]
 rcases hk with rfl|rfl <;> rfl
def Tr.fit:Tr → Prop
 | .leaf n=>((n.kind=7∨n.kind=13)∧0≤n.value∧n.value≤96∧n.name=⟨#[]⟩)∨(¬ (n.kind=7∨n.kind=13)∧leafB n=true)
 | .seq a b=>a.fit∧b.fit
 | .par a b=>a.fit∧b.fit
def Tr.zer:Tr → Tr
 | .leaf n=>.leaf ⟨n.kind,if n.kind=7∨n.kind=13 then 0 else n.value,n.name⟩
 | .seq a b=>.seq a.zer b.zer
 | .par a b=>.par a.zer b.zer
theorem zer_ty:∀ (t:Tr),t.fit → t.ty (leafIn [])=t.zer.ty (leafIn [])
 | .leaf n,h=>by
  obtain ⟨k,v,nm⟩:=n
  simp only [Tr.fit] at h
  rcases h with ⟨hk,h0,h1,rfl⟩|⟨hk,hb⟩
  ·simp only [Tr.zer,if_pos hk]
   exact (lf_sc hk h0 h1).trans (lf_sc hk (by omega) (by omega)).symm
  ·simp only [Tr.zer,if_neg hk]
 | .seq a b,h=>by simp only [Tr.ty,Tr.zer,zer_ty a h.1,zer_ty b h.2]
 | .par a b,h=>by simp only [Tr.ty,Tr.zer,zer_ty a h.1,zer_ty b h.2]
end Go.Proofs.YtbljmfcifljkaaaGreatDoor
/-
  The axioms' trees are terms, and their texts are read as them. Plain. Own work.
-/
namespace Go.Proofs.YtbljmfcifljkaaaGreatDoor
set_option maxRecDepth 100000
def Tr.lkB:Tr → Bool
 | .leaf n=>!decide (n.kind=15) && !decide (n.kind=16)
 | .seq a b=>a.lkB && b.lkB
 | .par a b=>a.lkB && b.lkB
theorem lk_zer:∀ t:Tr,t.zer.lkB=true → t.LK
 | .leaf n,h=>by
  simp only [Tr.zer,Tr.lkB,Bool.and_eq_true,Bool.not_eq_true',decide_eq_false_iff_not] at h
  simp only [Tr.LK,not_or]
  exact h
 | .seq a b,h=>by
  simp only [Tr.zer,Tr.lkB,Bool.and_eq_true] at h
  exact ⟨lk_zer a h.1,lk_zer b h.2⟩
 | .par a b,h=>by
  simp only [Tr.zer,Tr.lkB,Bool.and_eq_true] at h
  exact ⟨lk_zer a h.1,lk_zer b h.2⟩
theorem len_zer:∀ t:Tr,t.zer.nodes.length=t.nodes.length
 | .leaf n=>rfl
 | .seq a b=>by simp [Tr.zer,Tr.nodes,len_zer a,len_zer b]
 | .par a b=>by simp [Tr.zer,Tr.nodes,len_zer a,len_zer b]
def okZ (t:Tr):Bool:=t.lkB && (t.ty (leafIn [])).isSome && decide (t.nodes.length≤13)
theorem okZ_tr {t:Tr} (hf:t.fit) (h:okZ t.zer=true):AxTr t:=by
 simp only [okZ,Bool.and_eq_true,decide_eq_true_eq,Option.isSome_iff_exists] at h
 obtain ⟨⟨h1,x,h2⟩,h3⟩:=h
 exact ⟨lk_zer t h1,⟨x,by rw [zer_ty t hf];exact h2⟩,by rw [← len_zer];exact h3⟩
def fitB (P:Int → Bool):Tr → Bool
 | .leaf n=>if n.kind=7∨n.kind=13 then P n.value && decide (n.name=⟨#[]⟩) else leafB n
 | .seq a b=>fitB P a && fitB P b
 | .par a b=>fitB P a && fitB P b
theorem fitB_fit:∀ (t:Tr),fitB (fun v=>decide (0≤v) && decide (v≤96)) t=true → t.fit
 | .leaf n,h=>by
  unfold fitB at h
  unfold Tr.fit
  split at h
  next hk =>
   simp only [Bool.and_eq_true,decide_eq_true_eq] at h
   exact .inl ⟨hk,h.1.1,h.1.2,h.2⟩
  next hk=>exact .inr ⟨hk,h⟩
 | .seq a b,h=>by
  simp only [fitB,Bool.and_eq_true] at h
  exact ⟨fitB_fit a h.1,fitB_fit b h.2⟩
 | .par a b,h=>by
  simp only [fitB,Bool.and_eq_true] at h
  exact ⟨fitB_fit a h.1,fitB_fit b h.2⟩
def trs (L:List (ByteArray × Tr × Tr)):List Tr:=L.flatMap fun x=>[x.2.1,x.2.2,x.2.1.mir,x.2.2.mir]
theorem ax_zer (k l m s n:Int):(trs (axT k l m s n)).map Tr.zer=(trs (axT 0 0 0 0 0)).map Tr.zer:=rfl
theorem ax_okZ:((trs (axT 0 0 0 0 0)).map Tr.zer).all okZ=true:=by decide +kernel
theorem ax_all (P:Int → Bool) {k l m s n:Int} (hk:P k=true) (hl:P l=true) (hm:P m=true) (hs:P s=true) (hn:P n=true) (h0:P 0=true) (h1:P 1=true):(trs (axT k l m s n)).all (fitB P)=true:=by
 have g1_1:leafB ⟨1,1,⟨#[]⟩⟩=true:=by decide
 have g1_0:leafB ⟨1,0,⟨#[]⟩⟩=true:=by decide
 have g2_0:leafB ⟨2,0,⟨#[]⟩⟩=true:=by decide
 have g3_0:leafB ⟨3,0,⟨#[]⟩⟩=true:=by decide
 have g4_0:leafB ⟨4,0,⟨#[]⟩⟩=true:=by decide
 have g5_0:leafB ⟨5,0,⟨#[]⟩⟩=true:=by decide
 have g6_0:leafB ⟨6,0,⟨#[]⟩⟩=true:=by decide
 have g9_0:leafB ⟨9,0,⟨#[]⟩⟩=true:=by decide
 have g10_0:leafB ⟨10,0,⟨#[]⟩⟩=true:=by decide
 have g11_0:leafB ⟨11,0,⟨#[]⟩⟩=true:=by decide
 have g12_0:leafB ⟨12,0,⟨#[]⟩⟩=true:=by decide
 simp [trs,axT,Tr.mir,lf,fitB,mirK,hk,hl,hm,hs,hn,h0,h1,g1_1,g1_0,g2_0,g3_0,g4_0,g5_0,g6_0,g9_0,g10_0,g11_0,g12_0]
theorem ax_fit {k l m s n:Int} (hk:0≤k∧k≤96) (hl:0≤l∧l≤96) (hm:0≤m∧m≤96) (hs:0≤s∧s≤96) (hn:0≤n∧n≤96):∀ t ∈ trs (axT k l m s n),t.fit:=by
 have key:=ax_all (fun v=>decide (0≤v) && decide (v≤96)) (k:=k) (l:=l) (m:=m) (s:=s) (n:=n) (by simp [hk]) (by simp [hl]) (by simp [hm]) (by simp [hs]) (by simp [hn]) (by decide) (by decide)
 intro t ht
 exact fitB_fit t (List.all_eq_true.1 key t ht)
theorem ax_tr {k l m s n:Int} (hk:0≤k∧k≤96) (hl:0≤l∧l≤96) (hm:0≤m∧m≤96) (hs:0≤s∧s≤96) (hn:0≤n∧n≤96):∀ t ∈ trs (axT k l m s n),AxTr t:=by
 intro t ht
 have h1:=ax_fit hk hl hm hs hn t ht
 have h2:t.zer ∈ (trs (axT k l m s n)).map Tr.zer:=List.mem_map_of_mem ht
 rw [ax_zer] at h2
 exact okZ_tr h1 (List.all_eq_true.1 ax_okZ _ h2)
end Go.Proofs.YtbljmfcifljkaaaGreatDoor
/-
  The table's texts, their letters replaced, are the printed trees. Plain. Own work.
-/
namespace Go.Proofs.YtbljmfcifljkaaaGreatDoor
set_option maxRecDepth 100000
def repL (d:UInt8 → Option (List UInt8)) (l:List UInt8):List UInt8:=l.flatMap fun c=>(d c).getD [c]
def dig0 (N:Int → List UInt8) (k l m s n:Int) (c:UInt8):Option (List UInt8) :=
 if c=75 then some (N k) else if c=76 then some (N l) else if c=77 then some (N m) else if c=83 then some (N s) else if c=78 then some (N n) else none
def leafL (N:Int → List UInt8) (k v:Int):List UInt8:=if k=1∨k=7∨k=13 then (word k).data.toList ++ 32 :: N v else (word k).data.toList
def brkL (l:List UInt8) (b:Bool):List UInt8:=if b then 40 :: (l ++ [41]) else l
def prL (N:Int → List UInt8):Tr → List UInt8
 | .leaf n=>leafL N n.kind n.value
 | .seq a b=>brkL (prL N a) (a.isSeq || a.isPar) ++ 32 :: 59 :: 32 :: brkL (prL N b) (b.isSeq || b.isPar)
 | .par a b=>brkL (prL N a) (a.isSeq || a.isPar) ++ 32 :: 42 :: 32 :: brkL (prL N b) (b.isSeq || b.isPar)
def Tr.noName:Tr → Bool
 | .leaf n=>!decide (n.kind=17)
 | .seq a b=>a.noName && b.noName
 | .par a b=>a.noName && b.noName
theorem brk_list (s:ByteArray) (b:Bool):(brk s b).data.toList=brkL s.data.toList b:=by
 cases b
 ·rfl
 ·show (bOpen ++ s ++ bShut).data.toList=_
  rw [app_list,app_list]
  show [40] ++ s.data.toList ++ [41]=40 :: (s.data.toList ++ [41])
  simp
theorem prT_list:∀ t:Tr,t.noName=true → (prT true t).data.toList=prL (fun v=>(numT v).data.toList) t
 | .leaf n,h=>by
  simp only [Tr.noName,Bool.not_eq_true',decide_eq_false_iff_not] at h
  unfold prT leafTxt prL leafL
  rw [if_neg h]
  split
  ·rw [app_list,app_list]
   show _ ++ [32] ++ _=_
   simp
  ·rfl
 | .seq a b,h=>by
  simp only [Tr.noName,Bool.and_eq_true] at h
  rw [prT,app_list,app_list,brk_list,brk_list,prT_list a h.1,prT_list b h.2,prL]
  show _ ++ [32,59,32] ++ _=_
  simp
 | .par a b,h=>by
  simp only [Tr.noName,Bool.and_eq_true] at h
  rw [prT,app_list,app_list,brk_list,brk_list,prT_list a h.1,prT_list b h.2,prL]
  show _ ++ [32,42,32] ++ _=_
  simp
theorem ax_lists (N:Int → List UInt8) (k l m s n:Int) (h0:N 0=[48]) (h1:N 1=[49]) :
  (axTxt.map fun x=>(x.1,repL (dig0 N k l m s n) x.2.1.data.toList,repL (dig0 N k l m s n) x.2.2.data.toList))=(axT k l m s n).map fun x=>(x.1,prL N x.2.1,prL N x.2.2):=by
 simp [axTxt,axT,lf,repL,dig0,prL,leafL,brkL,Tr.isSeq,Tr.isPar,word,kwords,reserved,h0,h1]
theorem num0:(numT 0).data.toList=[48]∧(numT 1).data.toList=[49]:=by
 constructor
 ·show (Lib.decDigits 0)=_
  rw [Lib.decDigits,dif_pos (by omega)];rfl
 ·show (Lib.decDigits 1)=_
  rw [Lib.decDigits,dif_pos (by omega)];rfl
theorem rep_list (k l m s n:Int) (x:ByteArray):(repB (repD k l m s n) x).data.toList=repL (dig0 (fun v=>(numT v).data.toList) k l m s n) x.data.toList:=by
 unfold repB repL bytesOf
 simp only
 congr 1
 funext c
 unfold repD dig0
 by_cases h1:c=75
 ·rw [if_pos h1,if_pos h1];rfl
 rw [if_neg h1,if_neg h1]
 by_cases h2:c=76
 ·rw [if_pos h2,if_pos h2];rfl
 rw [if_neg h2,if_neg h2]
 by_cases h3:c=77
 ·rw [if_pos h3,if_pos h3];rfl
 rw [if_neg h3,if_neg h3]
 by_cases h4:c=83
 ·rw [if_pos h4,if_pos h4];rfl
 rw [if_neg h4,if_neg h4]
 by_cases h5:c=78
 ·rw [if_pos h5,if_pos h5];rfl
 rw [if_neg h5,if_neg h5]
 rfl
theorem ax_noName (k l m s n:Int):∀ x ∈ axT k l m s n,x.2.1.noName=true∧x.2.2.noName=true:=by
 have h:((axT k l m s n).all fun x=>x.2.1.noName && x.2.2.noName)=true:=by
  simp [axT,lf,Tr.noName]
 intro x hx
 have:=List.all_eq_true.1 h x hx
 simpa using this
theorem bytes_ext {a b:ByteArray} (h:a.data.toList=b.data.toList):a=b:=by
 apply ByteArray.ext
 exact Array.toList_inj.1 h
theorem ax_texts (k l m s n:Int) (i:Nat) (h:i<27):∃ (h1:i<axTxt.length) (h2:i<(axT k l m s n).length),(axTxt[i]).1=((axT k l m s n)[i]).1 ∧
  repB (repD k l m s n) (axTxt[i]).2.1=prT true ((axT k l m s n)[i]).2.1∧repB (repD k l m s n) (axTxt[i]).2.2=prT true ((axT k l m s n)[i]).2.2:=by
 have e1:axTxt.length=27:=rfl
 have e2:(axT k l m s n).length=27:=rfl
 refine ⟨by omega,by omega,?_⟩
 have hl:=ax_lists (fun v=>(numT v).data.toList) k l m s n num0.1 num0.2
 have hi:=congrArg (fun L=>L[i]?) hl
 simp only [List.getElem?_map,List.getElem?_eq_getElem (show i<axTxt.length by omega),List.getElem?_eq_getElem (show i<(axT k l m s n).length by omega),Option.map_some,Option.some.injEq,Prod.mk.injEq] at hi
 obtain ⟨a1,a2,a3⟩:=hi
 have hn:=ax_noName k l m s n _ (List.getElem_mem (show i<(axT k l m s n).length by omega))
 refine ⟨a1,bytes_ext ?_,bytes_ext ?_⟩
 ·exact (rep_list k l m s n _).trans (a2.trans (prT_list _ hn.1).symm)
 ·exact (rep_list k l m s n _).trans (a3.trans (prT_list _ hn.2).symm)
theorem parsT_tree {t:Tr} (h:AxTr t):parsT [] (prT true t)=.ok t.nodes:=by
 obtain ⟨x,hx⟩:=h.ty
 have hl:=h.len
 obtain ⟨ts,h1,h2⟩:=read_back true (L:=[]) (ns:=t.nodes) (x:=x) rfl (typedL_nodes h.lk hx (by omega))
 rw [treeL_eq (treeL_nodes h.lk)] at h1 h2
 unfold parsT
 rw [h1]
 exact h2
structure AxNum (k l m s n:Int):Prop where
 hk:0≤k∧k≤96
 hl:0≤l∧l≤96
 hm:0≤m∧m≤96
 hs:0≤s∧s≤96
 hn:0≤n∧n≤96
theorem AxNum.tr {k l m s n:Int} (h:AxNum k l m s n) (i:Nat) (hi:i<(axT k l m s n).length) :
  AxTr ((axT k l m s n)[i]).2.1∧AxTr ((axT k l m s n)[i]).2.2∧AxTr ((axT k l m s n)[i]).2.1.mir∧AxTr ((axT k l m s n)[i]).2.2.mir:=by
 have hm:∀ t,t ∈ [((axT k l m s n)[i]).2.1,((axT k l m s n)[i]).2.2,((axT k l m s n)[i]).2.1.mir,((axT k l m s n)[i]).2.2.mir] → AxTr t:=fun t ht =>
  ax_tr h.hk h.hl h.hm h.hs h.hn t (List.mem_flatMap.2 ⟨_,List.getElem_mem hi,ht⟩)
 exact ⟨hm _ (by simp),hm _ (by simp),hm _ (by simp),hm _ (by simp)⟩
theorem ax_read {k l m s n:Int} (h:AxNum k l m s n) (i:Nat) (hi:i<27):∃ (h1:i<axTxt.length) (h2:i<(axT k l m s n).length),(axTxt[i]).1=((axT k l m s n)[i]).1 ∧
  parsT [] (repB (repD k l m s n) (axTxt[i]).2.1)=.ok ((axT k l m s n)[i]).2.1.nodes∧parsT [] (repB (repD k l m s n) (axTxt[i]).2.2)=.ok ((axT k l m s n)[i]).2.2.nodes:=by
 obtain ⟨h1,h2,e1,e2,e3⟩:=ax_texts k l m s n i hi
 refine ⟨h1,h2,e1,?_,?_⟩
 ·rw [e2];exact parsT_tree (h.tr i h2).1
 ·rw [e3];exact parsT_tree (h.tr i h2).2.1
end Go.Proofs.YtbljmfcifljkaaaGreatDoor
/-
  The program's table of axioms. Own work.
-/
namespace Go.Proofs.YtbljmfcifljkaaaGreatDoor
open Go.RowKit
set_option maxRecDepth 100000
set_option maxHeartbeats 4000000
def txCells (x:ByteArray × ByteArray × ByteArray):List Value:=[.string x.1,.string x.2.1,.string x.2.2]
theorem txCells_len (x:ByteArray × ByteArray × ByteArray):(txCells x).length=3:=rfl
def TxAt (w:World) (g:Nat):Prop:=∀ i,∀ h:i<27,w.cell? ⟨g,i * 3,none⟩=some (.string (axTxt[i]'h).1)∧w.cell? ⟨g,i * 3+1,none⟩=some (.string (axTxt[i]'h).2.1)∧w.cell? ⟨g,i * 3+2,none⟩=some (.string (axTxt[i]'h).2.2)
theorem TxAt.keep {w w':World} {g:Nat} (h:TxAt w g) (hb:Below w.heap.size w w'):TxAt w' g:=fun i hi =>
 ⟨cell_keep hb (h i hi).1,cell_keep hb (h i hi).2.1,cell_keep hb (h i hi).2.2⟩
theorem tx_new (w:World) (t:TypeId):TxAt (w.alloc (.cells (axTxt.flatMap txCells).toArray t)) w.heap.size:=by
 intro i hi
 have hg:∀ j,j<3 → (w.alloc (.cells (axTxt.flatMap txCells).toArray t)).cell? ⟨w.heap.size,i * 3+j,none⟩=(txCells (axTxt[i]'hi))[j]?:=fun j hj=>by
  have h2:=flat_get txCells_len axTxt i j hi hj
  rw [← h2]
  have hh:(w.alloc (.cells (axTxt.flatMap txCells).toArray t)).heap[w.heap.size]?=some (.cells (axTxt.flatMap txCells).toArray t):=by
   show (w.heap.push _)[w.heap.size]?=_
   simp
  rw [cell_of_row _ _ _ _ t (0,0) hh]
  simp
 exact ⟨hg 0 (by omega),hg 1 (by omega),hg 2 (by omega)⟩
theorem axiomLines_any (w:World):Calls Tryz.prog 94 #[] w fun e w'=>∃ n:Nat,e=.returned (.slice (some ⟨w.heap.size,0,none⟩) n n)∧n≤27∧27≤n∧TxAt w' w.heap.size∧Below w.heap.size w w':=by
 go_enter Tryz.func94,Tryz.ntmps94
 go_wp2
 go_ret
 exact ⟨27,rfl,Nat.le_refl _,Nat.le_refl _,tx_new w _,(Below.refl _ _).alloc (Nat.le_refl _) _⟩
end Go.Proofs.YtbljmfcifljkaaaGreatDoor
