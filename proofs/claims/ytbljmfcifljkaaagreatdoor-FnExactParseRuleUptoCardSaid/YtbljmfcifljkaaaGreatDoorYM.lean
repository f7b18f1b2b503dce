/-
  markText: the letter m and the digits of a number. Own work.
-/
import Derived.Test.YtbljmfcifljkaaaGreatDoorYA
import Derived.Test.YtbljmfcifljkaaaGreatDoorYC
import Derived.Laws.IdiomStrings
import Derived.Test.YtbljmfcifljkaaaGreatDoorYB
set_option linter.all false
set_option maxRecDepth 100000
set_option maxHeartbeats 8000000
namespace Go.Proofs.YtbljmfcifljkaaaGreatDoor
open Go.RowKit
theorem ba_cons (d:UInt8) (l:List UInt8):(⟨#[d]⟩:ByteArray) ++ ⟨l.toArray⟩=⟨(d :: l).toArray⟩:=by
 apply ByteArray.ext
 simp
theorem mdig_toNat (m:Nat):((mdig m).toNat:Int)=48+(m:Int) % 10:=by
 unfold mdig
 have h:(48+m % 10)<256:=by omega
 rw [UInt8.toNat_ofNat_of_lt' h]
 omega
theorem conv_digit (w:World) (m:Nat):(convert 142 9 (.slice (some ⟨w.heap.size,0,none⟩) 1 1)).run Tryz.prog (w.alloc (.cells #[.int .u8 (48+(m:Int) % 10)] 5)) =
  .ok (.string ⟨#[mdig m]⟩) (w.alloc (.cells #[.int .u8 (48+(m:Int) % 10)] 5)):=by
 have:=run_convert_bytes_back (P:=Tryz.prog) (w.alloc (.cells #[.int .u8 (48+(m:Int) % 10)] 5)) 142 9 5 ⟨w.heap.size,0,none⟩ 1 [mdig m] Tryz.underlying142 Tryz.underlying5 Tryz.underlying9 (by
  intro j hj
  have:j=0:=by simpa using hj
  subst this
  simp [Addr.add,mdig_toNat])
 simpa using this
theorem markText_any (k:Int) (w:World) (h0:0≤k) (h1:k≤16777216) :
  Calls Tryz.prog 42 #[.int .i64 k] w fun e w'=>e=.returned (.string (mtext k))∧Below w.heap.size w w':=by
 obtain ⟨n,rfl⟩:=Int.eq_ofNat_of_zero_le h0
 by_cases hz:n=0
 ·subst hz
  go_enter Tryz.func42,Tryz.ntmps42
  go_wp2
  go_ret
  exact ⟨rfl,Below.refl _ _⟩
 ·have hp:¬ ((n:Int)≤0):=by omega
  go_enter Tryz.func42,Tryz.ntmps42
  go_wp2
  go_loopw [0,3] (fun kv out wr=>∃ (m:Nat) (l:List UInt8),kv=.int .i64 m∧out=.string ⟨l.toArray⟩∧Hid (mgo n []=mgo m l)∧l.length+m≤n∧Below w.heap.size w wr) (fun kv _ _=>(intOf kv).toNat)
  case atStart=>exact ⟨n,[],rfl,rfl,(rfl:Hid (mgo n []=mgo n [])),by simp,Below.refl _ _⟩
  case round =>
   obtain ⟨m,l,rfl,rfl,HM,hl,hbel⟩:=hrel
   by_cases hm:0<m
   ·have hm':(0:Int)<m:=by omega
    have hcv:=conv_digit wr m
    have HS:Hid (mgo m l=mgo (m / 10) (mdig m :: l)):=(show mgo m l=_ from mgo_pos hm l)
    go_wp2
    go_roundw
    case rel=>exact ⟨m / 10,mdig m :: l,by go_num,by rw [ba_cons],(HM.out.trans HS.out:Hid _),by simp;omega,hbel.alloc hbel.size _⟩
    case measure=>simp [intOf];omega
   ·have hm':¬ (0:Int)<m:=by omega
    have:m=0:=by omega
    subst this
    go_wp2
    go_ret
    refine ⟨?_,hbel⟩
    rw [mgo_zero] at HM
    refine (?_:Ending.returned (.string ((⟨#[109]⟩:ByteArray) ++ ⟨#[]⟩ ++ ⟨l.toArray⟩))=_)
    unfold mtext
    rw [if_neg (by omega),Int.toNat_natCast,HM.out,← ba_cons]
    congr 2
end Go.Proofs.YtbljmfcifljkaaaGreatDoor
/-
  The marks: written into what a law holds, and read again. Own work.
-/
namespace Go.Proofs.YtbljmfcifljkaaaGreatDoor
open Go.RowKit
def markedTo (ns:List Nd) (k:Int) (i:Nat):List Nd:=mkNds i k ++ ns.drop i
theorem markedTo_set (ns:List Nd) (k:Int) (i:Nat) (hi:i<ns.length):(markedTo ns k i).set i (mkNd (k+3 * i))=markedTo ns k (i+1):=by
 unfold markedTo
 rw [List.set_append_right _ _ (by rw [mkNds_length];exact Nat.le_refl _),mkNds_length,Nat.sub_self,List.drop_eq_getElem_cons hi,List.set_cons_zero,mkNds_snoc,List.append_assoc]
 rfl
theorem nds_set_b {w w2:World} {B e g n cap:Nat} {xs:List Nd} (h:w.ownsRow B e 3 (.slice (some ⟨g,0,none⟩) n cap) n (xs.flatMap ndCells)) (i:Nat) (hi:i<xs.length) (d:Nd)
  (hb:Below ((w.setCell ⟨g,i * 3,none⟩ (.int .i64 d.kind)).setCell ⟨g,i * 3+1,none⟩ (.int .i64 d.value)).heap.size ((w.setCell ⟨g,i * 3,none⟩ (.int .i64 d.kind)).setCell ⟨g,i * 3+1,none⟩ (.int .i64 d.value)) w2) :
  (w2.setCell ⟨g,i * 3+2,none⟩ (.string d.name)).ownsRow B e 3 (.slice (some ⟨g,0,none⟩) n cap) n ((xs.set i d).flatMap ndCells):=by
 have h1:=owns_set ndCells_len h i 0 _ hi (by omega) rfl (.int .i64 d.kind) ⟨d.kind,xs[i].value,xs[i].name⟩ rfl
 have h2:=owns_keep hb (owns_set ndCells_len h1 i 1 _ (by simpa using hi) (by omega) rfl (.int .i64 d.value) ⟨d.kind,d.value,xs[i].name⟩ (by simp [ndCells]))
 have h3:=owns_set ndCells_len h2 i 2 _ (by simpa using hi) (by omega) rfl (.string d.name) d (by simp [ndCells])
 simpa using h3
theorem mark_step {wr w2:World} {B e g cap n:Nat} {ns:List Nd} {k:Int} {i:Nat} (hn:ns.length=n) (hi:i<ns.length)
  (hown:wr.ownsRow B e 3 (.slice (some ⟨g,0,none⟩) n cap) n ((markedTo ns k i).flatMap ndCells))
  (hb2:Below ((wr.setCell ⟨g,i * 3,none⟩ (.int .i64 (k+3 * i))).setCell ⟨g,i * 3+1,none⟩ (.int .i64 (k+3 * i+1))).heap.size ((wr.setCell ⟨g,i * 3,none⟩ (.int .i64 (k+3 * i))).setCell ⟨g,i * 3+1,none⟩ (.int .i64 (k+3 * i+1))) w2) :
  ((w2.setCell ⟨g,i * 3+2,none⟩ (.string (mtext (k+3 * i+1+1)))).ownsRow B e 3 (.slice (some ⟨g,0,none⟩) n cap) n ((markedTo ns k (i+1)).flatMap ndCells)) ∧
   Exc (fun j=>j=g) wr (w2.setCell ⟨g,i * 3+2,none⟩ (.string (mtext (k+3 * i+1+1)))):=by
 have hll:i<(markedTo ns k i).length:=by simp [markedTo,mkNds_length];omega
 refine ⟨?_,?_⟩
 ·have h3:=nds_set_b hown i hll ⟨k+3 * i,k+3 * i+1,mtext (k+3 * i+1+1)⟩ hb2
  have e:(markedTo ns k i).set i ⟨k+3 * i,k+3 * i+1,mtext (k+3 * i+1+1)⟩=markedTo ns k (i+1):=by
   rw [← markedTo_set ns k i hi]
   unfold mkNd
   rw [show k+3 * (i:Int)+2=k+3 * i+1+1 by omega]
  rw [← e]
  exact h3
 ·have e1:Exc (fun j=>j=g) wr (wr.setCell ⟨g,i * 3,none⟩ (.int .i64 (k+3 * i))):=exc_set (T:=fun j=>j=g) (Exc.refl _ wr) (.inr rfl) _
  have e2:Exc (fun j=>j=g) wr ((wr.setCell ⟨g,i * 3,none⟩ (.int .i64 (k+3 * i))).setCell ⟨g,i * 3+1,none⟩ (.int .i64 (k+3 * i+1))):=exc_set (T:=fun j=>j=g) e1 (.inr rfl) _
  exact exc_set (T:=fun j=>j=g) (e2.below hb2) (.inr rfl) _
theorem markNodeS_any (v:Value) (ns:List Nd) (k:Int) (B:Nat) (w:World) (hv:NdsOwn w B v ns) (hn:ns.length≤1048576) (h0:0≤k) (h1:k≤8388608) :
  Calls Tryz.prog 43 #[v,.int .i64 k] w fun e w'=>e=.returned (.int .i64 (k+3 * ns.length))∧NdsOwn w' B v (mkNds ns.length k)∧Exc (Own1 v) w w':=by
 obtain ⟨a,cap,rfl⟩:=hv.slice
 go_enter Tryz.func43,Tryz.ntmps43
 go_wp2
 go_loopw [1,5] (fun kv iv wr=>∃ i:Nat,i≤ns.length∧iv=.int .i64 i∧kv=.int .i64 (k+3 * i)∧NdsOwn wr B (.slice a ns.length cap) (markedTo ns k i)∧Exc (Own1 (.slice a ns.length cap)) w wr) (fun _ iv _=>ns.length - (intOf iv).toNat)
 case atStart=>exact ⟨0,by omega,rfl,by simp,by simpa [markedTo,mkNds] using hv,Exc.refl _ _⟩
 case round =>
  obtain ⟨i,hi,rfl,rfl,hown,hex⟩:=hrel
  by_cases hlt:i<ns.length
  ·have hll:(markedTo ns k i).length=ns.length:=by simp [markedTo,mkNds_length];omega
   unfold NdsOwn at hown
   rw [hll] at hown
   obtain ⟨g,cp,he,hgc,hgm,hgB,hgs⟩:=owns_some' hown (by omega)
   simp only [Value.slice.injEq] at he
   obtain ⟨rfl,_,rfl⟩:=he
   obtain ⟨x,y,z,d0,d1,d2,q0,q1,q2⟩:=nds_old hown i (by rw [hll];exact hlt)
   have HL:=Lib.hid hll
   clear hll
   go_wp2_with (go_at_call 42;refine (markText_any _ _ (by omega) (by omega)).mono ?_;rintro e w2 ⟨rfl,hb2⟩;obtain ⟨hc2,hf2,hs2⟩:=bcell hb2;simp only [setCell_size] at hs2)
   obtain ⟨s1,s2⟩:=mark_step rfl hlt hown hb2
   go_roundw
   case rel=>exact ⟨i+1,by omega,by go_num,by go_num,by (unfold NdsOwn;rw [show (markedTo ns k (i+1)).length=ns.length by simp [markedTo,mkNds_length];omega];exact s1),hex.trans (s2.mono (fun j hj=>by simp [Own1,Value.ownBlock,hj]))⟩
   case measure=>simp [intOf];omega
  ·have hii:i=ns.length:=by omega
   subst hii
   go_wp2
   go_ret
   refine ⟨rfl,?_,hex⟩
   simpa [markedTo] using hown
end Go.Proofs.YtbljmfcifljkaaaGreatDoor
/-
  The marks of terms, definitions, entries and libraries. Own work.
-/
namespace Go.Proofs.YtbljmfcifljkaaaGreatDoor
open Go.RowKit
theorem markTerm_any (v:Value) (ns:List Nd) (k:Int) (B:Nat) (w:World) (hv:NdsOwn w B v ns) (hn:ns.length≤1048576) (h0:0≤k) (h1:k≤8388608) :
  Calls Tryz.prog 53 #[.agg #[v],.int .i64 k] w fun e w'=>e=.returned (.int .i64 (k+3 * ns.length))∧NdsOwn w' B v (mkNds ns.length k)∧Exc (Own1 v) w w':=by
 obtain ⟨a,cap,rfl⟩:=hv.slice
 go_enter Tryz.func53,Tryz.ntmps53
 go_wp2_with (go_at_call 43;refine (markNodeS_any _ ns _ B _ (hv.keep (alloc_below _ _)) hn h0 h1).mono ?_;rintro e w2 ⟨rfl,hown,hex⟩)
 go_ret
 exact ⟨rfl,hown,(Below.exc (alloc_below _ _)).trans hex⟩
end Go.Proofs.YtbljmfcifljkaaaGreatDoor
/-
  The marks are read again. Own work.
-/
namespace Go.Proofs.YtbljmfcifljkaaaGreatDoor
open Go.RowKit
theorem heldNodeS_any (v:Value) (n:Nat) (k:Int) (w:World) (hv:NdsAt w v (mkNds n k)) (hn:n≤1048576) (h0:0≤k) (h1:k≤8388608) :
  Calls Tryz.prog 44 #[v,.int .i64 k] w fun e w'=>e=.returned (.int .i64 (k+3 * n))∧Below w.heap.size w w':=by
 obtain ⟨a,cap,rfl,hc,hat⟩:=hv
 have hat':∀ i:Nat,i<n → ∃ b o,a=some ⟨b,o,none⟩∧NdAt w (mkNd (k+3 * i)) b (o+i * 3):=fun i hi=>by
  obtain ⟨b,o,e,h,r⟩:=hat i (by rw [mkNds_length];exact hi)
  rw [mkNds_get] at r
  exact ⟨b,o,e,r⟩
 clear hat
 rw [mkNds_length] at hc ⊢
 go_enter Tryz.func44,Tryz.ntmps44
 go_wp2
 go_loopw [1,5] (fun kv iv wr=>∃ i:Nat,i≤n∧iv=.int .i64 i∧kv=.int .i64 (k+3 * i)∧Below w.heap.size w wr) (fun _ iv _=>n - (intOf iv).toNat)
 case atStart=>exact ⟨0,by omega,rfl,by simp,Below.refl _ _⟩
 case round =>
  obtain ⟨i,hi,rfl,rfl,hbel⟩:=hrel
  by_cases hlt:i<n
  ·obtain ⟨b,o,rfl,hnd⟩:=hat' i hlt
   obtain ⟨c0,c1,c2⟩:=hnd.keep hbel
   simp only [mkNd] at c0 c1 c2
   have e0:(k+3 * (i:Int) != k+3 * i)=false:=by simp
   have e1:(k+3 * (i:Int)+1 != k+3 * i+1)=false:=by simp
   have hbz:=cell_lt c0
   rw [show k+3 * (i:Int)+2=k+3 * i+1+1 by omega] at c2
   clear hat' hnd
   go_wp2
   refine region_acts (C:=Exc (NoT) _) 2 [0,1,2,3,4,5,6,7] (by kernel_rfl) (by kernel_rfl) (Exc.grows _ _) (Exc.refl _ _) ?_
   iterate 6 (apply x_st rfl rfl rfl;(focus intro u hc' hf';go_simp <;> rfl);intro K hK;go_simp;apply hK;clear hK K)
   refine x_call rfl rfl rfl (Exc.grows _ _) (Exc.refl _ _) 42 (fun K hK=>?_);apply Exists.intro;refine ⟨fun w' hw'=>?_,fun w' hw' hbw=>?_⟩;(focus go_simp;rfl);refine (markText_any _ _ (by omega) (by omega)).mono ?_;rintro e w3 ⟨rfl,hb3⟩;refine ⟨_,rfl,hb3,fun hx=>?_⟩;go_simp;apply hK;clear hK K
   iterate 1 (apply x_st rfl rfl rfl;(focus intro u hc' hf';go_simp <;> rfl);intro K hK;go_simp;apply hK;clear hK K)
   refine x_nil ?_
   go_wp2
   go_roundw
   case rel=>exact ⟨i+1,by omega,by go_num,by go_num,hbel.trans (((Below.refl wr.heap.size wr).drew.trans (hx.toBelow.mono (by simp))).mono hbel.size)⟩
   case measure=>simp [intOf];omega
  ·have hii:i=n:=by omega
   subst hii
   go_wp2
   go_ret
   exact ⟨rfl,hbel⟩
theorem heldTerm_any (v:Value) (n:Nat) (k:Int) (w:World) (hv:NdsAt w v (mkNds n k)) (hn:n≤1048576) (h0:0≤k) (h1:k≤8388608) :
  Calls Tryz.prog 54 #[.agg #[v],.int .i64 k] w fun e w'=>e=.returned (.int .i64 (k+3 * n))∧Below w.heap.size w w':=by
 obtain ⟨a,cap,rfl⟩:=hv.slice
 have hp:¬ (k+3 * (n:Int)<0):=by omega
 go_enter Tryz.func54,Tryz.ntmps54
 go_wp2_with (go_at_call 44;refine (heldNodeS_any _ n _ _ (hv.keep (alloc_below _ _)) hn h0 h1).mono ?_;rintro e w2 ⟨rfl,hb2⟩)
 go_ret
 exact ⟨rfl,(alloc_below _ _).trans (hb2.mono (by simp))⟩
end Go.Proofs.YtbljmfcifljkaaaGreatDoor
