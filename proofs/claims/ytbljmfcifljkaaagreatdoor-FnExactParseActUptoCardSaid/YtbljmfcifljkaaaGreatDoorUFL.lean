/-
  Fields and their elements: both sides' tests. Own work.
-/
import Derived.Test.YtbljmfcifljkaaaGreatDoorUC
set_option linter.all false
set_option maxRecDepth 100000
set_option maxHeartbeats 8000000
namespace Go.Proofs.YtbljmfcifljkaaaGreatDoor
open Go.RowKit
def primeN (n:Nat):Bool:=[2,3,5,7].all fun q=>decide (n % q ≠ 0) || decide (n=q)
def primeB (p:Int):Bool:=decide (2≤p) && decide (p≤97) && primeN p.toNat
def PrimeTab (w:World):Prop :=
 w.cell? ⟨0,0,none⟩=some (.int .i64 2)∧w.cell? ⟨0,1,none⟩=some (.int .i64 3)∧w.cell? ⟨0,2,none⟩=some (.int .i64 5)∧w.cell? ⟨0,3,none⟩=some (.int .i64 7)
theorem PrimeTab.keep {w w':World} (hb:Below w.heap.size w w') (h:PrimeTab w):PrimeTab w' :=
 ⟨cell_keep hb h.1,cell_keep hb h.2.1,cell_keep hb h.2.2.1,cell_keep hb h.2.2.2⟩
theorem primeB_out {p:Int} (h:¬ (2≤p∧p≤97)):primeB p=false:=by
 unfold primeB
 by_cases h1:2≤p
 ·have:¬ p≤97:=fun h2=>h ⟨h1,h2⟩
  simp [this]
 ·simp [h1]
theorem primeB_in {n:Nat} (h1:2≤n) (h2:n≤97):primeB (n:Int)=primeN n:=by
 have e1:(2:Int)≤n:=by omega
 have e2:(n:Int)≤97:=by omega
 simp [primeB,e1,e2]
theorem primeB_le {p:Int} (h:primeB p=true):2≤p∧p≤97:=by
 by_cases h1:2≤p∧p≤97
 ·exact h1
 ·rw [primeB_out h1] at h;cases h
theorem nat_tmod (n k:Nat):(n:Int).tmod (k:Int)=((n % k:Nat):Int):=by rw [Int.tmod_eq_emod_of_nonneg (by omega)];simp
theorem prime_all:∀ n:Fin 98,2≤n.val → (∀ j:Fin 10,2≤j.val → j.val * j.val≤n.val → ¬ n.val % j.val=0) → primeN n.val=true:=by decide
theorem prime_no:∀ n:Fin 98,∀ j:Fin 10,2≤j.val → 2≤n.val → j.val * j.val≤n.val → n.val % j.val=0 → primeN n.val=false:=by decide
def FlP (b:Bool) (w:World) (e:Ending) (w':World):Prop:=e=.returned (.bool b)∧Below w.heap.size w w'
theorem fdGood_any (p:Int) (w:World):Calls Tryz.prog 79 #[.int .i64 p] w (FlP (primeB p) w):=by
 have hin:=l1In_any p 2 97 w
 by_cases hp:2≤p∧p≤97
 ·obtain ⟨n,rfl⟩:∃ n:Nat,p=n:=⟨p.toNat,by omega⟩
  have h1:2≤n:=by omega
  have h2:n≤97:=by omega
  rw [primeB_in h1 h2]
  rw [show inB (n:Int) 2 97=true by simp [inB];omega] at hin
  have HI:=Lib.hid hin
  clear hin hp
  go_enter Tryz.func79,Tryz.ntmps79
  go_wp2_with fail
  refine HI.out.mono ?_
  rintro e w1 ⟨rfl,hw1⟩
  subst hw1
  go_wp2_with fail
  go_loopw [3] (fun kv wr=>∃ k:Nat,kv=.int .i64 (k:Int)∧2≤k∧k≤10∧(∀ j,2≤j → j<k → ¬ n % j=0)∧wr=w) (fun kv _=>10 - (intOf kv).toNat)
  case atStart=>exact ⟨2,rfl,by omega,by omega,fun j a b=>by omega,by first|rfl|trivial⟩
  case round =>
   obtain ⟨k,rfl,hk1,hk2,hno,rfl⟩:=hrel
   have e1:IntKind.i64.wrap ((k:Int) * (k:Int))=((k * k:Nat):Int):=by
    have:k * k≤100:=Nat.mul_le_mul hk2 hk2
    rw [show (k:Int) * (k:Int)=((k * k:Nat):Int) by simp]
    exact IntWalk.i64_in _ (by omega)
   have e2:(n:Int).tmod (k:Int)=((n % k:Nat):Int):=nat_tmod n k
   have e3:¬ (k:Int)=0:=by omega
   have e4:IntKind.i64.wrap ((n % k:Nat):Int)=((n % k:Nat):Int):=IntWalk.i64_in _ (by have:=Nat.mod_lt n (by omega:0<k);omega)
   have HNO:=Lib.hid hno
   clear hno
   by_cases hkk:k * k≤n
   ·have hk9:k<10:=by
     rcases Nat.lt_or_ge k 10 with h|h
     ·exact h
     ·have:10 * 10≤k * k:=Nat.mul_le_mul h h
      omega
    have hle:(k:Int) * (k:Int)≤(n:Int):=by rw [show (k:Int) * (k:Int)=((k * k:Nat):Int) by simp];omega
    by_cases hz:n % k=0
    ·have hz':((n % k:Nat):Int)=0:=by omega
     have hfin:=prime_no ⟨n,by omega⟩ ⟨k,hk9⟩ hk1 h1 hkk hz
     simp only at hfin
     have HF:=Lib.hid hfin
     clear hfin hz
     go_wp2
     go_ret
     exact ⟨by rw [HF.out];rfl,Below.refl _ _⟩
    ·have hz':¬ ((n % k:Nat):Int)=0:=by omega
     have HZ:=Lib.hid hz
     clear hz
     go_wp2
     go_roundw
     case rel=>exact ⟨k+1,by go_num,by omega,by omega,fun j a b=>by
      rcases Nat.lt_or_ge j k with h|h
      ·exact HNO.out j a h
      ·obtain rfl:j=k:=by omega
       exact HZ.out,by first|rfl|trivial⟩
     case measure=>simp [intOf];omega
   ·have hle:¬ (k:Int) * (k:Int)≤(n:Int):=by rw [show (k:Int) * (k:Int)=((k * k:Nat):Int) by simp];omega
    have hfin:=prime_all ⟨n,by omega⟩ h1 (fun j a b=>by
     simp only at b ⊢
     rcases Nat.lt_or_ge j.val k with h|h
     ·exact HNO.out j.val a h
     ·exact absurd (Nat.le_trans (Nat.mul_le_mul h h) b) hkk)
    simp only at hfin
    have HF:=Lib.hid hfin
    clear hfin
    go_wp2
    go_ret
    exact ⟨by rw [HF.out];rfl,Below.refl _ _⟩
 ·rw [primeB_out hp]
  rw [show inB p 2 97=false by simp [inB];omega] at hin
  have HI:=Lib.hid hin
  clear hin
  go_enter Tryz.func79,Tryz.ntmps79
  go_wp2_with fail
  refine HI.out.mono ?_
  rintro e w1 ⟨rfl,hw1⟩
  subst hw1
  go_wp2
  go_ret
  exact ⟨rfl,Below.refl _ _⟩
theorem ixP (w:World):Sem.run Tryz.prog (Instr.index 217 (.agg #[.int .i64 2,.int .i64 3,.int .i64 5,.int .i64 7]) (.int .i64 0)) w=.ok (.int .i64 2) w∧Sem.run Tryz.prog (Instr.index 217 (.agg #[.int .i64 2,.int .i64 3,.int .i64 5,.int .i64 7]) (.int .i64 1)) w=.ok (.int .i64 3) w ∧
  Sem.run Tryz.prog (Instr.index 217 (.agg #[.int .i64 2,.int .i64 3,.int .i64 5,.int .i64 7]) (.int .i64 2)) w=.ok (.int .i64 5) w∧Sem.run Tryz.prog (Instr.index 217 (.agg #[.int .i64 2,.int .i64 3,.int .i64 5,.int .i64 7]) (.int .i64 3)) w=.ok (.int .i64 7) w :=
 ⟨by kernel_rfl,by kernel_rfl,by kernel_rfl,by kernel_rfl⟩
def smallL:List Nat:=[2,3,5,7]
theorem isField_any (p:Int) (w:World) (ht:PrimeTab w):Calls Tryz.prog 89 #[.int .i64 p] w (FlP (primeB p) w):=by
 by_cases hp:2≤p∧p≤97
 ·obtain ⟨n,rfl⟩:∃ n:Nat,p=n:=⟨p.toNat,by omega⟩
  have h1:2≤n:=by omega
  have h2:n≤97:=by omega
  rw [primeB_in h1 h2]
  obtain ⟨t0,t1,t2,t3⟩:=ht
  have g1:¬ (n:Int)<2:=by omega
  have g2:¬ 97<(n:Int):=by omega
  have hz:=cell_lt t0
  clear hp
  go_enter Tryz.func89,Tryz.ntmps89
  go_wp2_with fail
  go_loopw [12] (fun kv wr=>∃ k:Nat,kv=.int .i64 (k:Int)∧k≤4∧(∀ j,∀ h:j<4,j<k → ¬ (n % smallL[j]'h=0∧¬ n=smallL[j]'h))∧wr=w) (fun kv _=>4 - (intOf kv).toNat)
  case atStart=>exact ⟨0,rfl,by omega,fun j a b=>by omega,by first|rfl|trivial⟩
  case round =>
   obtain ⟨k,rfl,hk,hno,rfl⟩:=hrel
   have HNO:=Lib.hid hno
   clear hno
   by_cases hk4:k<4
   ·obtain ⟨q,hq⟩:∃ q,smallL[k]'hk4=q:=⟨_,rfl⟩
    have hq1:2≤q∧q≤7:=by
     rw [← hq]
     match k,hk4 with
     | 0,_=>simp [smallL]
     | 1,_=>simp [smallL]
     | 2,_=>simp [smallL]
     | 3,_=>simp [smallL]
    have hix:∀ w:World,Sem.run Tryz.prog (Instr.index 217 (.agg #[.int .i64 2,.int .i64 3,.int .i64 5,.int .i64 7]) (.int .i64 (k:Int))) w=.ok (.int .i64 (q:Int)) w:=by
     intro w
     have hk03:k=0∨k=1∨k=2∨k=3:=by omega
     rcases hk03 with rfl|rfl|rfl|rfl
     ·rw [← hq];exact (ixP w).1
     ·rw [← hq];exact (ixP w).2.1
     ·rw [← hq];exact (ixP w).2.2.1
     ·rw [← hq];exact (ixP w).2.2.2
    have e2:(n:Int).tmod (q:Int)=((n % q:Nat):Int):=nat_tmod n q
    have e3:¬ (q:Int)=0:=by omega
    have e4:IntKind.i64.wrap ((n % q:Nat):Int)=((n % q:Nat):Int):=IntWalk.i64_in _ (by have:=Nat.mod_lt n (by omega:0<q);omega)
    have HQ:=Lib.hid hq
    clear hq
    by_cases hz0:n % q=0
    ·have hz':((n % q:Nat):Int)=0:=by omega
     by_cases hnq:n=q
     ·have hnq':((n:Int) != q)=false:=by simp [hnq]
      have HN:=Lib.hid hnq
      clear hz0 hnq
      go_wp2
      go_roundw
      case rel=>exact ⟨k+1,by go_num,by omega,fun j a b=>by
       rcases Nat.lt_or_ge j k with h|h
       ·exact HNO.out j a h
       ·obtain rfl:j=k:=by omega
        rw [HQ.out];exact fun h=>h.2 HN.out,by first|rfl|trivial⟩
      case measure=>simp [intOf];omega
     ·have hnq':((n:Int) != q)=true:=by simp;omega
      have hfin:primeN n=false:=by
       have hm:q ∈ smallL:=by rw [← HQ.out];exact List.getElem_mem _
       unfold primeN
       rw [List.all_eq_false]
       exact ⟨q,hm,by simp [hz0,hnq]⟩
      have HF:=Lib.hid hfin
      clear hfin hz0 hnq
      go_wp2
      go_ret
      exact ⟨by rw [HF.out];rfl,Below.refl _ _⟩
    ·have hz':¬ ((n % q:Nat):Int)=0:=by omega
     have HZ:=Lib.hid hz0
     clear hz0
     go_wp2
     go_roundw
     case rel=>exact ⟨k+1,by go_num,by omega,fun j a b=>by
      rcases Nat.lt_or_ge j k with h|h
      ·exact HNO.out j a h
      ·obtain rfl:j=k:=by omega
       rw [HQ.out];exact fun h=>HZ.out h.1,by first|rfl|trivial⟩
     case measure=>simp [intOf];omega
   ·have hfin:primeN n=true:=by
     unfold primeN
     rw [List.all_eq_true]
     intro q hq
     obtain ⟨j,hj,rfl⟩:=List.getElem_of_mem hq
     have:=HNO.out j hj (by have:j<4:=hj;omega)
     simp only [Bool.or_eq_true,decide_eq_true_eq]
     by_cases hh:n % [2,3,5,7][j]=0
     ·right
      rcases Decidable.em (n=[2,3,5,7][j]) with h|h
      ·exact h
      ·exact absurd ⟨hh,h⟩ this
     ·exact .inl hh
    have HF:=Lib.hid hfin
    clear hfin
    obtain rfl:k=4:=by omega
    go_wp2
    go_ret
    exact ⟨by rw [HF.out];rfl,Below.refl _ _⟩
 ·rw [primeB_out hp]
  clear ht
  by_cases h1:p<2
  ·clear hp
   go_enter Tryz.func89,Tryz.ntmps89
   go_wp2
   go_ret
   exact ⟨rfl,Below.refl _ _⟩
  ·have h2:97<p:=by omega
   clear hp
   go_enter Tryz.func89,Tryz.ntmps89
   go_wp2
   go_ret
   exact ⟨rfl,Below.refl _ _⟩
end Go.Proofs.YtbljmfcifljkaaaGreatDoor
/-
  Elements of fields, the program's and the reference's. Own work.
-/
namespace Go.Proofs.YtbljmfcifljkaaaGreatDoor
open Go.RowKit
set_option maxRecDepth 100000
set_option maxHeartbeats 2000000
def IntsAt (w:World) (v:Value) (zs:List Int):Prop:=SlAt 1 v zs.length fun i b o=>∃ h:i<zs.length,w.cell? ⟨b,o,none⟩=some (.int .i64 zs[i])
theorem IntsAt.keep {w w':World} (hb:Below w.heap.size w w') {v:Value} {zs:List Int} (h:IntsAt w v zs):IntsAt w' v zs :=
 SlAt.mono h fun _ _ _ ⟨hi,r⟩=>⟨hi,cell_keep hb r⟩
def elB (p a:Int):Bool:=decide (0≤a) && decide (a<p)
theorem isElement_any (p a:Int) (w:World):Calls Tryz.prog 90 #[.int .i64 p,.int .i64 a] w fun e w'=>e=.returned (.bool (elB p a))∧w=w':=by
 go_enter Tryz.func90,Tryz.ntmps90
 go_wp2
 all_goals go_ret
 all_goals exact ⟨ret_bool (by simp [elB];try omega),rfl⟩
theorem areElements_any (p:Int) (v:Value) (zs:List Int) (w:World) (ht:PrimeTab w) (hv:IntsAt w v zs) (hn:zs.length≤1000) :
  Calls Tryz.prog 40 #[.int .i64 p,v] w (FlP (primeB p && zs.all (elB p)) w):=by
 obtain ⟨a,cap,rfl,hc,hat⟩:=hv
 have hF:=isField_any p w ht
 cases hp:primeB p
 ·rw [hp] at hF
  have HF:=Lib.hid hF
  clear hF hp hat
  go_enter Tryz.func40,Tryz.ntmps40
  go_wp2_with fail
  refine HF.out.mono ?_
  rintro e w1 ⟨rfl,hb1⟩
  go_wp2
  go_ret
  exact ⟨rfl,hb1⟩
 ·rw [hp] at hF
  have HF:=Lib.hid hF
  clear hF hp
  go_enter Tryz.func40,Tryz.ntmps40
  go_wp2_with fail
  refine HF.out.mono ?_
  rintro e w1 ⟨rfl,hb1⟩
  go_wp2_with fail
  go_loopw [12] (fun kv wr=>∃ k:Nat,kv=.int .i64 (k:Int)∧k≤zs.length∧Hid (zs.all (elB p)=(zs.drop k).all (elB p))∧wr=w1) (fun kv _=>zs.length - (intOf kv).toNat)
  case atStart=>exact ⟨0,rfl,by omega,(show Hid _ from (by simp [Hid]:Hid (zs.all (elB p)=(zs.drop 0).all (elB p)))),by first|rfl|trivial⟩
  case round =>
   obtain ⟨k,rfl,hk,HK,hw1⟩:=hrel
   obtain rfl:w1=wr:=hw1.symm
   by_cases hlt:k<zs.length
   ·obtain ⟨b,o,rfl,_,c0⟩:=hat k hlt
    rw [Nat.mul_one] at c0
    have d0:=cell_keep hb1 c0
    have dz:=cell_lt d0
    have hd:(zs.drop k).all (elB p)=(elB p zs[k] && (zs.drop (k+1)).all (elB p)):=by rw [List.drop_eq_getElem_cons hlt];rfl
    have hel:=isElement_any p zs[k] w1
    obtain ⟨z,hz⟩:∃ z,zs[k]=z:=⟨_,rfl⟩
    rw [hz] at d0 hd hel
    clear hz hat c0
    cases he:elB p z
    ·rw [he] at hd hel
     have hfin:zs.all (elB p)=false:=by rw [HK.out,hd];rfl
     have HN:=Lib.hid hfin
     have HE:=Lib.hid hel
     clear hfin hel he hd
     go_wp2_with fail
     refine HE.out.mono ?_
     rintro e w2 ⟨rfl,hw2⟩
     subst hw2
     go_wp2
     go_ret
     exact ⟨by rw [HN.out];rfl,hb1⟩
    ·rw [he] at hd hel
     have hfin:Hid (zs.all (elB p)=(zs.drop (k+1)).all (elB p)):=by show zs.all (elB p)=_;rw [HK.out,hd];rfl
     have HE:=Lib.hid hel
     clear hel he hd
     go_wp2_with fail
     refine HE.out.mono ?_
     rintro e w2 ⟨rfl,hw2⟩
     subst hw2
     go_wp2_with fail
     go_roundw
     case rel=>exact ⟨k+1,by go_num,by omega,hfin,by first|rfl|trivial⟩
     case measure=>simp [intOf];omega
   ·obtain rfl:k=zs.length:=by omega
    have hfin:zs.all (elB p)=true:=by rw [HK.out];simp
    have HN:=Lib.hid hfin
    clear hfin
    go_wp2
    go_ret
    exact ⟨by rw [HN.out];rfl,hb1⟩
theorem mod_any (p a:Int) (w:World) (hp:2≤p) (hp2:p≤97) (ha:0≤a) (ha2:a≤1000000):Calls Tryz.prog 93 #[.int .i64 p,.int .i64 a] w fun e w'=>e=.returned (.int .i64 (a % p))∧w=w':=by
 have e1:a.tmod p=a % p:=Int.tmod_eq_emod_of_nonneg ha
 have e2:0≤a % p:=Int.emod_nonneg _ (by omega)
 have e3:a % p<p:=Int.emod_lt_of_pos _ (by omega)
 have e4:IntKind.i64.wrap (a % p)=a % p:=IntWalk.i64_in _ (by omega)
 have e5:¬ a % p<0:=by omega
 have e6:¬ p=0:=by omega
 go_enter Tryz.func93,Tryz.ntmps93
 go_wp2
 go_ret
 exact ⟨rfl,rfl⟩
end Go.Proofs.YtbljmfcifljkaaaGreatDoor
