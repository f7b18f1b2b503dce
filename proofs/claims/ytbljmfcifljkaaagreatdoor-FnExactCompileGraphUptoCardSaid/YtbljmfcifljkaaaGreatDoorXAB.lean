/-
  Fields and their elements: both sides' tests. Own work.
-/
import Derived.Test.YtbljmfcifljkaaaGreatDoorXAA
import Derived.Tactics
set_option linter.all false
set_option maxRecDepth 100000
set_option maxHeartbeats 8000000
namespace Go.Proofs.YtbljmfcifljkaaaGreatDoor
open Go.RowKit
def primeN (n:Nat):Bool:=[2,3,5,7].all fun q=>decide (n % q ≠ 0) || decide (n=q)
def primeB (p:Int):Bool:=decide (2≤p) && decide (p≤97) && primeN p.toNat
def PrimeTab (w:World):Prop :=
 w.cell? ⟨0,0,none⟩=some (.int .i64 2)∧w.cell? ⟨0,1,none⟩=some (.int .i64 3)∧w.cell? ⟨0,2,none⟩=some (.int .i64 5)∧w.cell? ⟨0,3,none⟩=some (.int .i64 7)
theorem PrimeTab.keep {w w':World} (hb:Below w.heap.size w w') (h:PrimeTab w):PrimeTab w' :=
 ⟨cell_keep hb h.1,cell_keep hb h.2.1,cell_keep hb h.2.2.1,cell_keep hb h.2.2.2⟩
theorem primeB_out {p:Int} (h:¬ (2≤p∧p≤97)):primeB p=false:=by
 unfold primeB
 by_cases h1:2≤p
 ·have:¬ p≤97:=fun h2=>h ⟨h1,h2⟩
  simp [this]
 ·simp [h1]
theorem primeB_in {n:Nat} (h1:2≤n) (h2:n≤97):primeB (n:Int)=primeN n:=by
 have e1:(2:Int)≤n:=by omega
 have e2:(n:Int)≤97:=by omega
 simp [primeB,e1,e2]
theorem primeB_le {p:Int} (h:primeB p=true):2≤p∧p≤97:=by
 by_cases h1:2≤p∧p≤97
 ·exact h1
 ·rw [primeB_out h1] at h;cases h
theorem nat_tmod (n k:Nat):(n:Int).tmod (k:Int)=((n % k:Nat):Int):=by rw [Int.tmod_eq_emod_of_nonneg (by omega)];simp
theorem prime_all:∀ n:Fin 98,2≤n.val → (∀ j:Fin 10,2≤j.val → j.val * j.val≤n.val → ¬ n.val % j.val=0) → primeN n.val=true:=by decide
theorem prime_no:∀ n:Fin 98,∀ j:Fin 10,2≤j.val → 2≤n.val → j.val * j.val≤n.val → n.val % j.val=0 → primeN n.val=false:=by decide
def FlP (b:Bool) (w:World) (e:Ending) (w':World):Prop:=e=.returned (.bool b)∧Below w.heap.size w w'
theorem fdGood_any (p:Int) (w:World):Calls Tryz.prog 79 #[.int .i64 p] w (FlP (primeB p) w):=by
 have hin:=l1In_any p 2 97 w
 by_cases hp:2≤p∧p≤97
 ·obtain ⟨n,rfl⟩:∃ n:Nat,p=n:=⟨p.toNat,by omega⟩
  have h1:2≤n:=by omega
  have h2:n≤97:=by omega
  rw [primeB_in h1 h2]
  rw [show inB (n:Int) 2 97=true by simp [inB];omega] at hin
  have HI:=Lib.hid hin
  clear hin hp
  go_enter Tryz.func79,Tryz.ntmps79
  go_wp2_with fail
  refine HI.out.mono ?_
  rintro e w1 ⟨rfl,hw1⟩
  subst hw1
  go_wp2_with fail
  go_loopw [3] (fun kv wr=>∃ k:Nat,kv=.int .i64 (k:Int)∧2≤k∧k≤10∧(∀ j,2≤j → j<k → ¬ n % j=0)∧wr=w) (fun kv _=>10 - (intOf kv).toNat)
  case atStart=>exact ⟨2,rfl,by omega,by omega,fun j a b=>by omega,by first|rfl|trivial⟩
  case round =>
   obtain ⟨k,rfl,hk1,hk2,hno,rfl⟩:=hrel
   have e1:IntKind.i64.wrap ((k:Int) * (k:Int))=((k * k:Nat):Int):=by
    have:k * k≤100:=Nat.mul_le_mul hk2 hk2
    rw [show (k:Int) * (k:Int)=((k * k:Nat):Int) by simp]
    exact IntWalk.i64_in _ (by omega)
   have e2:(n:Int).tmod (k:Int)=((n % k:Nat):Int):=nat_tmod n k
   have e3:¬ (k:Int)=0:=by omega
   have e4:IntKind.i64.wrap ((n % k:Nat):Int)=((n % k:Nat):Int):=IntWalk.i64_in _ (by have:=Nat.mod_lt n (by omega:0<k);omega)
   have HNO:=Lib.hid hno
   clear hno
   by_cases hkk:k * k≤n
   ·have hk9:k<10:=by
     rcases Nat.lt_or_ge k 10 with h|h
     ·exact h
     ·have:10 * 10≤k * k:=Nat.mul_le_mul h h
      omega
    have hle:(k:Int) * (k:Int)≤(n:Int):=by rw [show (k:Int) * (k:Int)=((k * k:Nat):Int) by simp];omega
    by_cases hz:n % k=0
    ·have hz':((n % k:Nat):Int)=0:=by omega
     have hfin:=prime_no ⟨n,by omega⟩ ⟨k,hk9⟩ hk1 h1 hkk hz
     simp only at hfin
     have HF:=Lib.hid hfin
     clear hfin hz
     go_wp2
     go_ret
     exact ⟨by rw [HF.out];rfl,Below.refl _ _⟩
    ·have hz':¬ ((n % k:Nat):Int)=0:=by omega
     have HZ:=Lib.hid hz
     clear hz
     go_wp2
     go_roundw
     case rel=>exact ⟨k+1,by go_num,by omega,by omega,fun j a b=>by
      rcases Nat.lt_or_ge j k with h|h
      ·exact HNO.out j a h
      ·obtain rfl:j=k:=by omega
       exact HZ.out,by first|rfl|trivial⟩
     case measure=>simp [intOf];omega
   ·have hle:¬ (k:Int) * (k:Int)≤(n:Int):=by rw [show (k:Int) * (k:Int)=((k * k:Nat):Int) by simp];omega
    have hfin:=prime_all ⟨n,by omega⟩ h1 (fun j a b=>by
     simp only at b ⊢
     rcases Nat.lt_or_ge j.val k with h|h
     ·exact HNO.out j.val a h
     ·exact absurd (Nat.le_trans (Nat.mul_le_mul h h) b) hkk)
    simp only at hfin
    have HF:=Lib.hid hfin
    clear hfin
    go_wp2
    go_ret
    exact ⟨by rw [HF.out];rfl,Below.refl _ _⟩
 ·rw [primeB_out hp]
  rw [show inB p 2 97=false by simp [inB];omega] at hin
  have HI:=Lib.hid hin
  clear hin
  go_enter Tryz.func79,Tryz.ntmps79
  go_wp2_with fail
  refine HI.out.mono ?_
  rintro e w1 ⟨rfl,hw1⟩
  subst hw1
  go_wp2
  go_ret
  exact ⟨rfl,Below.refl _ _⟩
theorem ixP (w:World):Sem.run Tryz.prog (Instr.index 217 (.agg #[.int .i64 2,.int .i64 3,.int .i64 5,.int .i64 7]) (.int .i64 0)) w=.ok (.int .i64 2) w∧Sem.run Tryz.prog (Instr.index 217 (.agg #[.int .i64 2,.int .i64 3,.int .i64 5,.int .i64 7]) (.int .i64 1)) w=.ok (.int .i64 3) w ∧
  Sem.run Tryz.prog (Instr.index 217 (.agg #[.int .i64 2,.int .i64 3,.int .i64 5,.int .i64 7]) (.int .i64 2)) w=.ok (.int .i64 5) w∧Sem.run Tryz.prog (Instr.index 217 (.agg #[.int .i64 2,.int .i64 3,.int .i64 5,.int .i64 7]) (.int .i64 3)) w=.ok (.int .i64 7) w :=
 ⟨by kernel_rfl,by kernel_rfl,by kernel_rfl,by kernel_rfl⟩
def smallL:List Nat:=[2,3,5,7]
theorem isField_any (p:Int) (w:World) (ht:PrimeTab w):Calls Tryz.prog 89 #[.int .i64 p] w (FlP (primeB p) w):=by
 by_cases hp:2≤p∧p≤97
 ·obtain ⟨n,rfl⟩:∃ n:Nat,p=n:=⟨p.toNat,by omega⟩
  have h1:2≤n:=by omega
  have h2:n≤97:=by omega
  rw [primeB_in h1 h2]
  obtain ⟨t0,t1,t2,t3⟩:=ht
  have g1:¬ (n:Int)<2:=by omega
  have g2:¬ 97<(n:Int):=by omega
  have hz:=cell_lt t0
  clear hp
  go_enter Tryz.func89,Tryz.ntmps89
  go_wp2_with fail
  go_loopw [12] (fun kv wr=>∃ k:Nat,kv=.int .i64 (k:Int)∧k≤4∧(∀ j,∀ h:j<4,j<k → ¬ (n % smallL[j]'h=0∧¬ n=smallL[j]'h))∧wr=w) (fun kv _=>4 - (intOf kv).toNat)
  case atStart=>exact ⟨0,rfl,by omega,fun j a b=>by omega,by first|rfl|trivial⟩
  case round =>
   obtain ⟨k,rfl,hk,hno,rfl⟩:=hrel
   have HNO:=Lib.hid hno
   clear hno
   by_cases hk4:k<4
   ·obtain ⟨q,hq⟩:∃ q,smallL[k]'hk4=q:=⟨_,rfl⟩
    have hq1:2≤q∧q≤7:=by
     rw [← hq]
     match k,hk4 with
     | 0,_=>simp [smallL]
     | 1,_=>simp [smallL]
     | 2,_=>simp [smallL]
     | 3,_=>simp [smallL]
    have hix:∀ w:World,Sem.run Tryz.prog (Instr.index 217 (.agg #[.int .i64 2,.int .i64 3,.int .i64 5,.int .i64 7]) (.int .i64 (k:Int))) w=.ok (.int .i64 (q:Int)) w:=by
     intro w
     have hk03:k=0∨k=1∨k=2∨k=3:=by omega
     rcases hk03 with rfl|rfl|rfl|rfl
     ·rw [← hq];exact (ixP w).1
     ·rw [← hq];exact (ixP w).2.1
     ·rw [← hq];exact (ixP w).2.2.1
     ·rw [← hq];exact (ixP w).2.2.2
    have e2:(n:Int).tmod (q:Int)=((n % q:Nat):Int):=nat_tmod n q
    have e3:¬ (q:Int)=0:=by omega
    have e4:IntKind.i64.wrap ((n % q:Nat):Int)=((n % q:Nat):Int):=IntWalk.i64_in _ (by have:=Nat.mod_lt n (by omega:0<q);omega)
    have HQ:=Lib.hid hq
    clear hq
    by_cases hz0:n % q=0
    ·have hz':((n % q:Nat):Int)=0:=by omega
     by_cases hnq:n=q
     ·have hnq':((n:Int) != q)=false:=by simp [hnq]
      have HN:=Lib.hid hnq
      clear hz0 hnq
      go_wp2
      go_roundw
      case rel=>exact ⟨k+1,by go_num,by omega,fun j a b=>by
       rcases Nat.lt_or_ge j k with h|h
       ·exact HNO.out j a h
       ·obtain rfl:j=k:=by omega
        rw [HQ.out];exact fun h=>h.2 HN.out,by first|rfl|trivial⟩
      case measure=>simp [intOf];omega
     ·have hnq':((n:Int) != q)=true:=by simp;omega
      have hfin:primeN n=false:=by
       have hm:q ∈ smallL:=by rw [← HQ.out];exact List.getElem_mem _
       unfold primeN
       rw [List.all_eq_false]
       exact ⟨q,hm,by simp [hz0,hnq]⟩
      have HF:=Lib.hid hfin
      clear hfin hz0 hnq
      go_wp2
      go_ret
      exact ⟨by rw [HF.out];rfl,Below.refl _ _⟩
    ·have hz':¬ ((n % q:Nat):Int)=0:=by omega
     have HZ:=Lib.hid hz0
     clear hz0
     go_wp2
     go_roundw
     case rel=>exact ⟨k+1,by go_num,by omega,fun j a b=>by
      rcases Nat.lt_or_ge j k with h|h
      ·exact HNO.out j a h
      ·obtain rfl:j=k:=by omega
       rw [HQ.out];exact fun h=>HZ.out h.1,by first|rfl|trivial⟩
     case measure=>simp [intOf];omega
   ·have hfin:primeN n=true:=by
     unfold primeN
     rw [List.all_eq_true]
     intro q hq
     obtain ⟨j,hj,rfl⟩:=List.getElem_of_mem hq
     have:=HNO.out j hj (by have:j<4:=hj;omega)
     simp only [Bool.or_eq_true,decide_eq_true_eq]
     by_cases hh:n % [2,3,5,7][j]=0
     ·right
      rcases Decidable.em (n=[2,3,5,7][j]) with h|h
      ·exact h
      ·exact absurd ⟨hh,h⟩ this
     ·exact .inl hh
    have HF:=Lib.hid hfin
    clear hfin
    obtain rfl:k=4:=by omega
    go_wp2
    go_ret
    exact ⟨by rw [HF.out];rfl,Below.refl _ _⟩
 ·rw [primeB_out hp]
  clear ht
  by_cases h1:p<2
  ·clear hp
   go_enter Tryz.func89,Tryz.ntmps89
   go_wp2
   go_ret
   exact ⟨rfl,Below.refl _ _⟩
  ·have h2:97<p:=by omega
   clear hp
   go_enter Tryz.func89,Tryz.ntmps89
   go_wp2
   go_ret
   exact ⟨rfl,Below.refl _ _⟩
end Go.Proofs.YtbljmfcifljkaaaGreatDoor
/-
  Elements of fields, the program's and the reference's. Own work.
-/
namespace Go.Proofs.YtbljmfcifljkaaaGreatDoor
open Go.RowKit
set_option maxRecDepth 100000
set_option maxHeartbeats 2000000
def IntsAt (w:World) (v:Value) (zs:List Int):Prop:=SlAt 1 v zs.length fun i b o=>∃ h:i<zs.length,w.cell? ⟨b,o,none⟩=some (.int .i64 zs[i])
theorem IntsAt.keep {w w':World} (hb:Below w.heap.size w w') {v:Value} {zs:List Int} (h:IntsAt w v zs):IntsAt w' v zs :=
 SlAt.mono h fun _ _ _ ⟨hi,r⟩=>⟨hi,cell_keep hb r⟩
def elB (p a:Int):Bool:=decide (0≤a) && decide (a<p)
theorem isElement_any (p a:Int) (w:World):Calls Tryz.prog 90 #[.int .i64 p,.int .i64 a] w fun e w'=>e=.returned (.bool (elB p a))∧w=w':=by
 go_enter Tryz.func90,Tryz.ntmps90
 go_wp2
 all_goals go_ret
 all_goals exact ⟨ret_bool (by simp [elB];try omega),rfl⟩
end Go.Proofs.YtbljmfcifljkaaaGreatDoor
/-
  Three own rows of numbers in the fields of a struct. Own work.
-/
namespace Go.Proofs.YtbljmfcifljkaaaGreatDoor
open Go.RowKit
def iCell (x:Int):List Value:=[.int .i64 x]
theorem iCell_len (x:Int):(iCell x).length=1:=rfl
def Rw (w:World) (B:Nat) (v:Value) (xs:List Int):Prop:=w.ownsRow B 3 1 v xs.length (xs.flatMap iCell)
theorem Rw.keep {w w':World} {B:Nat} {v:Value} {xs:List Int} (hb:Below w.heap.size w w') (h:Rw w B v xs):Rw w' B v xs:=owns_keep hb h
theorem Rw.grown {w w':World} {B:Nat} {v:Value} {xs:List Int} {row:Option Nat} (h:Rw w B v xs) (hg:w.grownBy w' row) (hr:∀ k,v.ownBlock=some k → row ≠ some k):Rw w' B v xs:=by
 refine ⟨h.1,?_⟩
 rcases h.2 with hn|⟨g,cap,cur,rfl,hbb,hgg,rest⟩
 ·exact .inl hn
 ·exact .inr ⟨g,cap,cur,rfl,hbb,(hg.block g (Array.getElem?_eq_some_iff.1 hgg).1 (fun e=>hr g rfl e.symm)).trans hgg,rest⟩
theorem Rw.other {w:World} {B:Nat} {v:Value} {xs:List Int} (h:Rw w B v xs) (a:Addr) (u:Value) (ha:a.block<B):Rw (w.setCell a u) B v xs :=
 owns_other h a u (fun e=>by have:=(World.ownsRow.lt h _ e).1;omega)
theorem Rw.cell {w:World} {B g cap n:Nat} {xs:List Int} (h:Rw w B (.slice (some ⟨g,0,none⟩) n cap) xs) (i:Nat) (hi:i<xs.length):w.cell? ⟨g,i,none⟩=some (.int .i64 xs[i]):=by
 have hn:n=xs.length:=by
  rcases h.2 with ⟨h',_⟩|⟨g',cap',cur,h',_⟩
  ·simp at h'
  ·simp only [Value.slice.injEq] at h';exact h'.2.1
 subst hn
 have:=owns_cell iCell_len h i 0 hi (by omega)
 simpa [iCell] using this
structure Rows3 (w:World) (B xb:Nat) (v0 v1 v2:Value) (xs0 xs1 xs2:List Int):Prop where
 lt:xb<B
 bz:xb<w.heap.size
 x0:w.cell? ⟨xb,0,none⟩=some v0
 x1:w.cell? ⟨xb,1,none⟩=some v1
 x2:w.cell? ⟨xb,2,none⟩=some v2
 fx:∀ j,w.frozen? ⟨xb,j,none⟩=false
 r0:Rw w B v0 xs0
 r1:Rw w B v1 xs1
 r2:Rw w B v2 xs2
 a01:Apart v0 v1
 a02:Apart v0 v2
 a12:Apart v1 v2
theorem Apart.symm {a b:Value} (h:Apart a b):Apart b a:=fun k hk hk'=>h k hk' hk
theorem Rows3.keep {w w':World} {B xb:Nat} {v0 v1 v2:Value} {xs0 xs1 xs2:List Int} (h:Rows3 w B xb v0 v1 v2 xs0 xs1 xs2) (hb:Below w.heap.size w w'):Rows3 w' B xb v0 v1 v2 xs0 xs1 xs2:=by
 obtain ⟨lt,bz,x0,x1,x2,fx,r0,r1,r2,a1,a2,a3⟩:=h
 exact ⟨lt,Nat.lt_of_lt_of_le bz hb.size,cell_keep hb x0,cell_keep hb x1,cell_keep hb x2,fun j=>(hb.frozen (p:=⟨xb,j,none⟩) bz).trans (fx j),r0.keep hb,r1.keep hb,r2.keep hb,a1,a2,a3⟩
section
variable {w w':World} {B xb:Nat} {v0 v1 v2 v':Value} {xs0 xs1 xs2:List Int} {f:Int}
end
end Go.Proofs.YtbljmfcifljkaaaGreatDoor
/-
  Edges, graphs and sessions, plain, and what it means that a world holds them. Own work.
-/
namespace Go.Proofs.YtbljmfcifljkaaaGreatDoor
open Go.RowKit
structure EdI where
 kind:Int
 value:Int
 ins:List Int
 outs:List Int
 deriving DecidableEq
structure GrI where
 wires:Int
 edges:List EdI
 ins:List Int
 outs:List Int
 deriving DecidableEq
structure SnI where
 p:Int
 k:Int
 l:Int
 past:List GrI
 now:GrI
 future:List GrI
 goal:GrI
 deriving DecidableEq
def EdAt (w:World) (e:EdI) (b o:Nat):Prop :=
 w.cell? ⟨b,o,none⟩=some (.int .i64 e.kind)∧w.cell? ⟨b,o+1,none⟩=some (.int .i64 e.value) ∧
  ∃ vi vo,w.cell? ⟨b,o+2,none⟩=some vi∧w.cell? ⟨b,o+3,none⟩=some vo∧IntsAt w vi e.ins∧IntsAt w vo e.outs
def EdsAt (w:World) (v:Value) (L:List EdI):Prop:=SlAt 4 v L.length fun i b o=>∃ h:i<L.length,EdAt w L[i] b o
structure GrR (w:World) (ve vi vo:Value) (g:GrI):Prop where
 ed:EdsAt w ve g.edges
 inn:IntsAt w vi g.ins
 out:IntsAt w vo g.outs
def GrAt (w:World) (g:GrI) (b o:Nat):Prop :=
 w.cell? ⟨b,o,none⟩=some (.int .i64 g.wires) ∧
  ∃ ve vi vo,w.cell? ⟨b,o+1,none⟩=some ve∧w.cell? ⟨b,o+2,none⟩=some vi∧w.cell? ⟨b,o+3,none⟩=some vo∧GrR w ve vi vo g
def GrsAt (w:World) (v:Value) (L:List GrI):Prop:=SlAt 4 v L.length fun i b o=>∃ h:i<L.length,GrAt w L[i] b o
theorem EdAt.keep {w w':World} (hb:Below w.heap.size w w') {d:EdI} {b o:Nat} (h:EdAt w d b o):EdAt w' d b o:=by
 obtain ⟨h1,h2,vi,vo,h3,h4,h5,h6⟩:=h
 exact ⟨cell_keep hb h1,cell_keep hb h2,vi,vo,cell_keep hb h3,cell_keep hb h4,h5.keep hb,h6.keep hb⟩
theorem EdsAt.keep {w w':World} (hb:Below w.heap.size w w') {v:Value} {L:List EdI} (h:EdsAt w v L):EdsAt w' v L :=
 SlAt.mono h fun _ _ _ ⟨hi,r⟩=>⟨hi,r.keep hb⟩
theorem GrR.keep {w w':World} (hb:Below w.heap.size w w') {a b c:Value} {g:GrI} (h:GrR w a b c g):GrR w' a b c g:=⟨h.ed.keep hb,h.inn.keep hb,h.out.keep hb⟩
theorem GrAt.keep {w w':World} (hb:Below w.heap.size w w') {d:GrI} {b o:Nat} (h:GrAt w d b o):GrAt w' d b o:=by
 obtain ⟨h1,ve,vi,vo,h2,h3,h4,h5⟩:=h
 exact ⟨cell_keep hb h1,ve,vi,vo,cell_keep hb h2,cell_keep hb h3,cell_keep hb h4,h5.keep hb⟩
theorem GrsAt.keep {w w':World} (hb:Below w.heap.size w w') {v:Value} {L:List GrI} (h:GrsAt w v L):GrsAt w' v L :=
 SlAt.mono h fun _ _ _ ⟨hi,r⟩=>⟨hi,r.keep hb⟩
theorem IntsAt.slice {w:World} {v:Value} {zs:List Int} (h:IntsAt w v zs):∃ a c,v=.slice a zs.length c:=by
 obtain ⟨a,cap,rfl,_⟩:=h;exact ⟨a,cap,rfl⟩
theorem EdsAt.slice {w:World} {v:Value} {zs:List EdI} (h:EdsAt w v zs):∃ a c,v=.slice a zs.length c:=by
 obtain ⟨a,cap,rfl,_⟩:=h;exact ⟨a,cap,rfl⟩
theorem GrsAt.slice {w:World} {v:Value} {zs:List GrI} (h:GrsAt w v zs):∃ a c,v=.slice a zs.length c:=by
 obtain ⟨a,cap,rfl,_⟩:=h;exact ⟨a,cap,rfl⟩
theorem GrR.slices {w:World} {ve vi vo:Value} {g:GrI} (h:GrR w ve vi vo g):(∃ a c,ve=.slice a g.edges.length c)∧(∃ a c,vi=.slice a g.ins.length c)∧∃ a c,vo=.slice a g.outs.length c :=
 ⟨h.ed.slice,h.inn.slice,h.out.slice⟩
structure EdOk (e:EdI):Prop where
 inn:e.ins.length≤1048576
 out:e.outs.length≤1048576
structure GrOk (g:GrI):Prop where
 ed:g.edges.length≤1048576
 eds:∀ e ∈ g.edges,EdOk e
 inn:g.ins.length≤1048576
 out:g.outs.length≤1048576
structure SnOk (s:SnI):Prop where
 np:s.past.length≤1048576
 past:∀ g ∈ s.past,GrOk g
 now:GrOk s.now
 nf:s.future.length≤1048576
 future:∀ g ∈ s.future,GrOk g
 goal:GrOk s.goal
structure SnR (w:World) (vp ne ni no vf ge gi go:Value) (s:SnI):Prop where
 past:GrsAt w vp s.past
 now:GrR w ne ni no s.now
 future:GrsAt w vf s.future
 goal:GrR w ge gi go s.goal
theorem SnR.keep {w w':World} (hb:Below w.heap.size w w') {a b c d e f g h:Value} {s:SnI} (H:SnR w a b c d e f g h s):SnR w' a b c d e f g h s :=
 ⟨H.past.keep hb,H.now.keep hb,H.future.keep hb,H.goal.keep hb⟩
def edCells (x:EdI × Value × Value):List Value:=[.int .i64 x.1.kind,.int .i64 x.1.value,x.2.1,x.2.2]
theorem edCells_len (x:EdI × Value × Value):(edCells x).length=4:=rfl
def grCells (x:GrI × Value × Value × Value):List Value:=[.int .i64 x.1.wires,x.2.1,x.2.2.1,x.2.2.2]
theorem grCells_len (x:GrI × Value × Value × Value):(grCells x).length=4:=rfl
theorem Rw.mono {w:World} {B B':Nat} {v:Value} {xs:List Int} (hB:B'≤B) (h:Rw w B v xs):Rw w B' v xs:=owns_mono hB h
theorem Rw.at {w:World} {B:Nat} {v:Value} {xs:List Int} (h:Rw w B v xs):IntsAt w v xs:=by
 refine owns_slat h _ fun i b o hi hc=>⟨hi,?_⟩
 have:=(hc 0 (by omega)).trans (flat_get iCell_len xs i 0 hi (by omega))
 simpa [iCell] using this
structure EdO (w:World) (B:Nat) (v:Value) (L:List EdI) (xs:List (EdI × Value × Value)):Prop where
 fst:xs.map Prod.fst=L
 row:w.ownsRow B 189 4 v xs.length (xs.flatMap edCells)
 rws:∀ x ∈ xs,Rw w B x.2.1 x.1.ins∧Rw w B x.2.2 x.1.outs
def EdsO (w:World) (B:Nat) (v:Value) (L:List EdI):Prop:=∃ xs,EdO w B v L xs
structure GrO (w:World) (B:Nat) (ve vi vo:Value) (g:GrI):Prop where
 ed:EdsO w B ve g.edges
 inn:Rw w B vi g.ins
 out:Rw w B vo g.outs
structure GrsX (w:World) (B:Nat) (v:Value) (L:List GrI) (xs:List (GrI × Value × Value × Value)):Prop where
 fst:xs.map Prod.fst=L
 row:w.ownsRow B 53 4 v xs.length (xs.flatMap grCells)
 rws:∀ x ∈ xs,GrO w B x.2.1 x.2.2.1 x.2.2.2 x.1
def GrsO (w:World) (B:Nat) (v:Value) (L:List GrI):Prop:=∃ xs,GrsX w B v L xs
theorem EdsO.keep {w w':World} {B:Nat} {v:Value} {L:List EdI} (hb:Below w.heap.size w w') (h:EdsO w B v L):EdsO w' B v L:=by
 obtain ⟨xs,h1,h2,h3⟩:=h
 exact ⟨xs,h1,owns_keep hb h2,fun x hx=>⟨(h3 x hx).1.keep hb,(h3 x hx).2.keep hb⟩⟩
theorem EdsO.mono {w:World} {B B':Nat} {v:Value} {L:List EdI} (hB:B'≤B) (h:EdsO w B v L):EdsO w B' v L:=by
 obtain ⟨xs,h1,h2,h3⟩:=h
 exact ⟨xs,h1,owns_mono hB h2,fun x hx=>⟨(h3 x hx).1.mono hB,(h3 x hx).2.mono hB⟩⟩
theorem EdsO.low {w:World} {B:Nat} {v:Value} {L:List EdI} (h:EdsO w B v L) {a:Addr} (ha:a.block<B) (u:Value):EdsO (w.setCell a u) B v L:=by
 obtain ⟨xs,h1,h2,h3⟩:=h
 exact ⟨xs,h1,ownsRow_setCell_below h2 ha u,fun x hx=>⟨(h3 x hx).1.other a u ha,(h3 x hx).2.other a u ha⟩⟩
theorem EdsO.at {w:World} {B:Nat} {v:Value} {L:List EdI} (h:EdsO w B v L):EdsAt w v L:=by
 obtain ⟨xs,rfl,ho,hb⟩:=h
 have ho':w.ownsRow B 189 4 v (xs.map Prod.fst).length (xs.flatMap edCells):=by rw [List.length_map];exact ho
 refine owns_slat ho' _ fun i b o hi' hc=>⟨hi',?_⟩
 have hi:i<xs.length:=by simpa using hi'
 have g:∀ j,j<4 → w.cell? ⟨b,o+j,none⟩=(edCells xs[i])[j]?:=fun j hj=>(hc j hj).trans (flat_get edCells_len xs i j hi hj)
 rw [List.getElem_map]
 have:=hb _ (List.getElem_mem hi)
 exact ⟨g 0 (by omega),g 1 (by omega),xs[i].2.1,xs[i].2.2,g 2 (by omega),g 3 (by omega),this.1.at,this.2.at⟩
theorem GrO.keep {w w':World} {B:Nat} {a b c:Value} {g:GrI} (hb:Below w.heap.size w w') (h:GrO w B a b c g):GrO w' B a b c g:=⟨h.ed.keep hb,h.inn.keep hb,h.out.keep hb⟩
theorem GrO.mono {w:World} {B B':Nat} {a b c:Value} {g:GrI} (hB:B'≤B) (h:GrO w B a b c g):GrO w B' a b c g:=⟨h.ed.mono hB,h.inn.mono hB,h.out.mono hB⟩
theorem GrO.low {w:World} {B:Nat} {x y z:Value} {g:GrI} (h:GrO w B x y z g) {a:Addr} (ha:a.block<B) (u:Value):GrO (w.setCell a u) B x y z g:=⟨h.ed.low ha u,h.inn.other a u ha,h.out.other a u ha⟩
theorem GrO.at {w:World} {B:Nat} {a b c:Value} {g:GrI} (h:GrO w B a b c g):GrR w a b c g:=⟨h.ed.at,h.inn.at,h.out.at⟩
theorem GrsO.keep {w w':World} {B:Nat} {v:Value} {L:List GrI} (hb:Below w.heap.size w w') (h:GrsO w B v L):GrsO w' B v L:=by
 obtain ⟨xs,h1,h2,h3⟩:=h
 exact ⟨xs,h1,owns_keep hb h2,fun x hx=>(h3 x hx).keep hb⟩
theorem GrsO.mono {w:World} {B B':Nat} {v:Value} {L:List GrI} (hB:B'≤B) (h:GrsO w B v L):GrsO w B' v L:=by
 obtain ⟨xs,h1,h2,h3⟩:=h
 exact ⟨xs,h1,owns_mono hB h2,fun x hx=>(h3 x hx).mono hB⟩
theorem GrsO.low {w:World} {B:Nat} {v:Value} {L:List GrI} (h:GrsO w B v L) {a:Addr} (ha:a.block<B) (u:Value):GrsO (w.setCell a u) B v L:=by
 obtain ⟨xs,h1,h2,h3⟩:=h
 exact ⟨xs,h1,ownsRow_setCell_below h2 ha u,fun x hx=>(h3 x hx).low ha u⟩
theorem GrsO.at {w:World} {B:Nat} {v:Value} {L:List GrI} (h:GrsO w B v L):GrsAt w v L:=by
 obtain ⟨xs,rfl,ho,hb⟩:=h
 have ho':w.ownsRow B 53 4 v (xs.map Prod.fst).length (xs.flatMap grCells):=by rw [List.length_map];exact ho
 refine owns_slat ho' _ fun i b o hi' hc=>⟨hi',?_⟩
 have hi:i<xs.length:=by simpa using hi'
 have g:∀ j,j<4 → w.cell? ⟨b,o+j,none⟩=(grCells xs[i])[j]?:=fun j hj=>(hc j hj).trans (flat_get grCells_len xs i j hi hj)
 rw [List.getElem_map]
 exact ⟨g 0 (by omega),xs[i].2.1,xs[i].2.2.1,xs[i].2.2.2,g 1 (by omega),g 2 (by omega),g 3 (by omega),(hb _ (List.getElem_mem hi)).at⟩
end Go.Proofs.YtbljmfcifljkaaaGreatDoor
/-
  Valid graphs, plain: the tests of both sides, and that each wire stands once. Own work.
-/
namespace Go.Proofs.YtbljmfcifljkaaaGreatDoor
theorem sum_ind (m:Nat):∀ n,((List.range n).map fun w:Nat=>if ((m:Int) == (w:Int))=true then 1 else 0).sum=if m<n then 1 else 0
 | 0=>by simp
 | n+1=>by
  rw [List.range_succ,List.map_append,List.sum_append,sum_ind m n]
  simp only [List.map_cons,List.map_nil,List.sum_cons,List.sum_nil,beq_iff_eq]
  by_cases h1:m<n
  ·rw [if_pos h1,if_neg (by omega:¬ (m:Int)=n),if_pos (by omega:m<n+1)];rfl
  ·by_cases h2:m=n
   ·rw [if_neg h1,if_pos (by omega:(m:Int)=n),if_pos (by omega:m<n+1)];rfl
   ·rw [if_neg h1,if_neg (by omega:¬ (m:Int)=n),if_neg (by omega:¬ m<n+1)];rfl
theorem sum_add (f g:Nat → Nat):∀ l:List Nat,(l.map fun w=>f w+g w).sum=(l.map f).sum+(l.map g).sum
 | []=>rfl
 | x :: l=>by simp only [List.map_cons,List.sum_cons,sum_add f g l];omega
theorem sum_count (n:Nat):∀ (l:List Int),(∀ x ∈ l,0≤x∧x<n) → ((List.range n).map fun w:Nat=>l.count (w:Int)).sum=l.length
 | [],_=>by
  simp only [List.count_nil,List.length_nil]
  induction List.range n with
  | nil=>rfl
  | cons a r ih=>simpa using ih
 | x :: l,h=>by
  have ih:=sum_count n l (fun y hy=>h y (by simp [hy]))
  obtain ⟨h1,h2⟩:=h x (by simp)
  obtain ⟨m,rfl⟩:∃ m:Nat,x=m:=⟨x.toNat,by omega⟩
  have:(fun w:Nat=>((m:Int) :: l).count (w:Int))=fun w:Nat=>l.count (w:Int)+if ((m:Int) == (w:Int))=true then 1 else 0:=by
   funext w;rw [List.count_cons]
  rw [this,sum_add,ih,sum_ind,if_pos (by omega)]
  rfl
theorem sum_one (f:Nat → Nat):∀ n,(∀ w,w<n → f w≤1) → ((List.range n).map f).sum≤n∧(((List.range n).map f).sum=n → ∀ w,w<n → f w=1)
 | 0,_=>⟨by simp,fun _ w hw=>by omega⟩
 | n+1,h=>by
  obtain ⟨h1,h2⟩:=sum_one f n (fun w hw=>h w (by omega))
  have h3:=h n (by omega)
  rw [List.range_succ,List.map_append,List.sum_append]
  simp only [List.map_cons,List.map_nil,List.sum_cons,List.sum_nil]
  refine ⟨by omega,fun e w hw=>?_⟩
  by_cases hwn:w=n
  ·subst hwn;omega
  ·exact h2 (by omega) w (by omega)
theorem sum_all (f:Nat → Nat):∀ n,(∀ w,w<n → f w=1) → ((List.range n).map f).sum=n
 | 0,_=>by simp
 | n+1,h=>by
  rw [List.range_succ,List.map_append,List.sum_append,sum_all f n (fun w hw=>h w (by omega))]
  simp [h n (by omega)]
theorem nodup_count {l:List Int}:l.Nodup ↔ ∀ x,l.count x≤1:=by
 induction l with
 | nil=>simp
 | cons y l ih =>
  rw [List.nodup_cons,ih]
  constructor
  ·rintro ⟨h1,h2⟩ x
   rw [List.count_cons]
   by_cases e:y=x
   ·subst e
    rw [List.count_eq_zero.2 h1];simp
   ·have:=h2 x
    simp [e];exact this
  ·intro h
   refine ⟨fun hm=>?_,fun x=>?_⟩
   ·have h1:=h y
    rw [List.count_cons] at h1
    have h2:=List.count_pos_iff.2 hm
    simp at h1;omega
   ·have:=h x
    rw [List.count_cons] at this
    omega
theorem once_iff (n:Nat) (l:List Int) (h:∀ x ∈ l,0≤x∧x<n):(l.length=n∧l.Nodup) ↔ ∀ w:Nat,w<n → l.count (w:Int)=1:=by
 have hs:=sum_count n l h
 constructor
 ·rintro ⟨h1,h2⟩
  refine (sum_one (fun w=>l.count (w:Int)) n (fun w _=>nodup_count.1 h2 _)).2 (by rw [hs,h1])
 ·intro h1
  have:=sum_all (fun w=>l.count (w:Int)) n h1
  refine ⟨by rw [← hs,this],nodup_count.2 fun x=>?_⟩
  by_cases hx:x ∈ l
  ·obtain ⟨a,b⟩:=h x hx
   have:=h1 x.toNat (by omega)
   rw [show ((x.toNat:Nat):Int)=x by omega] at this
   omega
  ·rw [List.count_eq_zero.2 hx];omega
def edB (e:EdI):Bool:=inB e.kind 3 14 && (genValB e.kind e.value && decide (kindW e.kind=((e.ins.length:Int),(e.outs.length:Int))))
def GrI.places (g:GrI):List Int:=g.ins ++ (g.outs ++ g.edges.flatMap fun e=>e.ins ++ e.outs)
def gfitB (g:GrI):Bool:=inB g.wires 0 100 && (decide (g.edges.length≤60) && (decide (g.ins.length≤12) && decide (g.outs.length≤12)))
def inG (n:Int) (l:List Int):Bool:=l.all fun w=>inB w 0 (n - 1)
def allG (g:GrI):Bool:=(List.range g.wires.toNat).all fun w:Nat=>g.places.contains (w:Int)
def grB (g:GrI):Bool:=gfitB g && (g.edges.all edB && (inG g.wires g.places && allG g))
def overB (p:Int) (g:GrI):Bool:=g.edges.all fun e=>!valB e.kind || decide (e.value<p)
def GrI.origs (g:GrI):List Int:=g.ins ++ g.edges.flatMap EdI.outs
def GrI.dests (g:GrI):List Int:=g.outs ++ g.edges.flatMap EdI.ins
def permB (l:List Int) (n:Int):Bool:=decide ((l.length:Int)=n) && (inG n l && decide l.Nodup)
def monoB (g:GrI):Bool:=permB g.origs g.wires && permB g.dests g.wires
end Go.Proofs.YtbljmfcifljkaaaGreatDoor
