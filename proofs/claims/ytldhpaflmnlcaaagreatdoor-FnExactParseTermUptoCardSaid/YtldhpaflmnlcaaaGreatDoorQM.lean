/-
  markText: the letter m and the digits of a number. Own work.
-/
import Derived.Test.YtldhpaflmnlcaaaGreatDoorQA
import Derived.Test.YtldhpaflmnlcaaaGreatDoorQC
import Derived.Laws.IdiomStrings
import Derived.Test.YtldhpaflmnlcaaaGreatDoorQB
set_option linter.all false
set_option maxRecDepth 100000
set_option maxHeartbeats 8000000
namespace Go.Proofs.YtldhpaflmnlcaaaGreatDoor
open Go.RowKit
theorem ba_cons (d:UInt8) (l:List UInt8):(⟨#[d]⟩:ByteArray) ++ ⟨l.toArray⟩=⟨(d :: l).toArray⟩:=by
 apply ByteArray.ext
 simp
theorem mdig_toNat (m:Nat):((mdig m).toNat:Int)=48+(m:Int) % 10:=by
 unfold mdig
 have h:(48+m % 10)<256:=by omega
 rw [UInt8.toNat_ofNat_of_lt' h]
 omega
theorem conv_digit (w:World) (m:Nat):(convert 168 9 (.slice (some ⟨w.heap.size,0,none⟩) 1 1)).run Tryz.prog (w.alloc (.cells #[.int .u8 (48+(m:Int) % 10)] 5)) =
  .ok (.string ⟨#[mdig m]⟩) (w.alloc (.cells #[.int .u8 (48+(m:Int) % 10)] 5)):=by
 have:=run_convert_bytes_back (P:=Tryz.prog) (w.alloc (.cells #[.int .u8 (48+(m:Int) % 10)] 5)) 168 9 5 ⟨w.heap.size,0,none⟩ 1 [mdig m] Tryz.underlying168 Tryz.underlying5 Tryz.underlying9 (by
  intro j hj
  have:j=0:=by simpa using hj
  subst this
  simp [Addr.add,mdig_toNat])
 simpa using this
theorem markText_any (k:Int) (w:World) (h0:0≤k) (h1:k≤16777216) :
  Calls Tryz.prog 72 #[.int .i64 k] w fun e w'=>e=.returned (.string (mtext k))∧Below w.heap.size w w':=by
 obtain ⟨n,rfl⟩:=Int.eq_ofNat_of_zero_le h0
 by_cases hz:n=0
 ·subst hz
  go_enter Tryz.func72,Tryz.ntmps72
  go_wp2
  go_ret
  exact ⟨rfl,Below.refl _ _⟩
 ·have hp:¬ ((n:Int)≤0):=by omega
  go_enter Tryz.func72,Tryz.ntmps72
  go_wp2
  go_loopw [0,3] (fun kv out wr=>∃ (m:Nat) (l:List UInt8),kv=.int .i64 m∧out=.string ⟨l.toArray⟩∧Hid (mgo n []=mgo m l)∧l.length+m≤n∧Below w.heap.size w wr) (fun kv _ _=>(intOf kv).toNat)
  case atStart=>exact ⟨n,[],rfl,rfl,(rfl:Hid (mgo n []=mgo n [])),by simp,Below.refl _ _⟩
  case round =>
   obtain ⟨m,l,rfl,rfl,HM,hl,hbel⟩:=hrel
   by_cases hm:0<m
   ·have hm':(0:Int)<m:=by omega
    have hcv:=conv_digit wr m
    have HS:Hid (mgo m l=mgo (m / 10) (mdig m :: l)):=(show mgo m l=_ from mgo_pos hm l)
    go_wp2
    go_roundw
    case rel=>exact ⟨m / 10,mdig m :: l,by go_num,by rw [ba_cons],(HM.out.trans HS.out:Hid _),by simp;omega,hbel.alloc hbel.size _⟩
    case measure=>simp [intOf];omega
   ·have hm':¬ (0:Int)<m:=by omega
    have:m=0:=by omega
    subst this
    go_wp2
    go_ret
    refine ⟨?_,hbel⟩
    rw [mgo_zero] at HM
    refine (?_:Ending.returned (.string ((⟨#[109]⟩:ByteArray) ++ ⟨#[]⟩ ++ ⟨l.toArray⟩))=_)
    unfold mtext
    rw [if_neg (by omega),Int.toNat_natCast,HM.out,← ba_cons]
    congr 2
end Go.Proofs.YtldhpaflmnlcaaaGreatDoor
/-
  The marks: written into what a law holds, and read again. Own work.
-/
namespace Go.Proofs.YtldhpaflmnlcaaaGreatDoor
open Go.RowKit
def markedTo (ns:List Nd) (k:Int) (i:Nat):List Nd:=mkNds i k ++ ns.drop i
theorem markedTo_set (ns:List Nd) (k:Int) (i:Nat) (hi:i<ns.length):(markedTo ns k i).set i (mkNd (k+3 * i))=markedTo ns k (i+1):=by
 unfold markedTo
 rw [List.set_append_right _ _ (by rw [mkNds_length];exact Nat.le_refl _),mkNds_length,Nat.sub_self,List.drop_eq_getElem_cons hi,List.set_cons_zero,mkNds_snoc,List.append_assoc]
 rfl
theorem nds_set_b {w w2:World} {B e g n cap:Nat} {xs:List Nd} (h:w.ownsRow B e 3 (.slice (some ⟨g,0,none⟩) n cap) n (xs.flatMap ndCells)) (i:Nat) (hi:i<xs.length) (d:Nd)
  (hb:Below ((w.setCell ⟨g,i * 3,none⟩ (.int .i64 d.kind)).setCell ⟨g,i * 3+1,none⟩ (.int .i64 d.value)).heap.size ((w.setCell ⟨g,i * 3,none⟩ (.int .i64 d.kind)).setCell ⟨g,i * 3+1,none⟩ (.int .i64 d.value)) w2) :
  (w2.setCell ⟨g,i * 3+2,none⟩ (.string d.name)).ownsRow B e 3 (.slice (some ⟨g,0,none⟩) n cap) n ((xs.set i d).flatMap ndCells):=by
 have h1:=owns_set ndCells_len h i 0 _ hi (by omega) rfl (.int .i64 d.kind) ⟨d.kind,xs[i].value,xs[i].name⟩ rfl
 have h2:=owns_keep hb (owns_set ndCells_len h1 i 1 _ (by simpa using hi) (by omega) rfl (.int .i64 d.value) ⟨d.kind,d.value,xs[i].name⟩ (by simp [ndCells]))
 have h3:=owns_set ndCells_len h2 i 2 _ (by simpa using hi) (by omega) rfl (.string d.name) d (by simp [ndCells])
 simpa using h3
theorem mark_step {wr w2:World} {B e g cap n:Nat} {ns:List Nd} {k:Int} {i:Nat} (hn:ns.length=n) (hi:i<ns.length)
  (hown:wr.ownsRow B e 3 (.slice (some ⟨g,0,none⟩) n cap) n ((markedTo ns k i).flatMap ndCells))
  (hb2:Below ((wr.setCell ⟨g,i * 3,none⟩ (.int .i64 (k+3 * i))).setCell ⟨g,i * 3+1,none⟩ (.int .i64 (k+3 * i+1))).heap.size ((wr.setCell ⟨g,i * 3,none⟩ (.int .i64 (k+3 * i))).setCell ⟨g,i * 3+1,none⟩ (.int .i64 (k+3 * i+1))) w2) :
  ((w2.setCell ⟨g,i * 3+2,none⟩ (.string (mtext (k+3 * i+1+1)))).ownsRow B e 3 (.slice (some ⟨g,0,none⟩) n cap) n ((markedTo ns k (i+1)).flatMap ndCells)) ∧
   Exc (fun j=>j=g) wr (w2.setCell ⟨g,i * 3+2,none⟩ (.string (mtext (k+3 * i+1+1)))):=by
 have hll:i<(markedTo ns k i).length:=by simp [markedTo,mkNds_length];omega
 refine ⟨?_,?_⟩
 ·have h3:=nds_set_b hown i hll ⟨k+3 * i,k+3 * i+1,mtext (k+3 * i+1+1)⟩ hb2
  have e:(markedTo ns k i).set i ⟨k+3 * i,k+3 * i+1,mtext (k+3 * i+1+1)⟩=markedTo ns k (i+1):=by
   rw [← markedTo_set ns k i hi]
   unfold mkNd
   rw [show k+3 * (i:Int)+2=k+3 * i+1+1 by omega]
  rw [← e]
  exact h3
 ·have e1:Exc (fun j=>j=g) wr (wr.setCell ⟨g,i * 3,none⟩ (.int .i64 (k+3 * i))):=exc_set (T:=fun j=>j=g) (Exc.refl _ wr) (.inr rfl) _
  have e2:Exc (fun j=>j=g) wr ((wr.setCell ⟨g,i * 3,none⟩ (.int .i64 (k+3 * i))).setCell ⟨g,i * 3+1,none⟩ (.int .i64 (k+3 * i+1))):=exc_set (T:=fun j=>j=g) e1 (.inr rfl) _
  exact exc_set (T:=fun j=>j=g) (e2.below hb2) (.inr rfl) _
theorem markNodeS_any (v:Value) (ns:List Nd) (k:Int) (B:Nat) (w:World) (hv:NdsOwn w B v ns) (hn:ns.length≤1048576) (h0:0≤k) (h1:k≤8388608) :
  Calls Tryz.prog 73 #[v,.int .i64 k] w fun e w'=>e=.returned (.int .i64 (k+3 * ns.length))∧NdsOwn w' B v (mkNds ns.length k)∧Exc (Own1 v) w w':=by
 obtain ⟨a,cap,rfl⟩:=hv.slice
 go_enter Tryz.func73,Tryz.ntmps73
 go_wp2
 go_loopw [1,5] (fun kv iv wr=>∃ i:Nat,i≤ns.length∧iv=.int .i64 i∧kv=.int .i64 (k+3 * i)∧NdsOwn wr B (.slice a ns.length cap) (markedTo ns k i)∧Exc (Own1 (.slice a ns.length cap)) w wr) (fun _ iv _=>ns.length - (intOf iv).toNat)
 case atStart=>exact ⟨0,by omega,rfl,by simp,by simpa [markedTo,mkNds] using hv,Exc.refl _ _⟩
 case round =>
  obtain ⟨i,hi,rfl,rfl,hown,hex⟩:=hrel
  by_cases hlt:i<ns.length
  ·have hll:(markedTo ns k i).length=ns.length:=by simp [markedTo,mkNds_length];omega
   unfold NdsOwn at hown
   rw [hll] at hown
   obtain ⟨g,cp,he,hgc,hgm,hgB,hgs⟩:=owns_some' hown (by omega)
   simp only [Value.slice.injEq] at he
   obtain ⟨rfl,_,rfl⟩:=he
   obtain ⟨x,y,z,d0,d1,d2,q0,q1,q2⟩:=nds_old hown i (by rw [hll];exact hlt)
   have HL:=Lib.hid hll
   clear hll
   go_wp2_with (go_at_call 72;refine (markText_any _ _ (by omega) (by omega)).mono ?_;rintro e w2 ⟨rfl,hb2⟩;obtain ⟨hc2,hf2,hs2⟩:=bcell hb2;simp only [setCell_size] at hs2)
   obtain ⟨s1,s2⟩:=mark_step rfl hlt hown hb2
   go_roundw
   case rel=>exact ⟨i+1,by omega,by go_num,by go_num,by (unfold NdsOwn;rw [show (markedTo ns k (i+1)).length=ns.length by simp [markedTo,mkNds_length];omega];exact s1),hex.trans (s2.mono (fun j hj=>by simp [Own1,Value.ownBlock,hj]))⟩
   case measure=>simp [intOf];omega
  ·have hii:i=ns.length:=by omega
   subst hii
   go_wp2
   go_ret
   refine ⟨rfl,?_,hex⟩
   simpa [markedTo] using hown
end Go.Proofs.YtldhpaflmnlcaaaGreatDoor
/-
  The marks of terms, definitions, entries and libraries. Own work.
-/
namespace Go.Proofs.YtldhpaflmnlcaaaGreatDoor
open Go.RowKit
def OwnD (v:Value) (xs:List (Df × Value)):Nat → Prop:=fun k=>v.ownBlock=some k∨∃ x ∈ xs,x.2.ownBlock=some k
def mkDf (d:Df) (k:Int):Df:=⟨mtext k,k+1,k+1+1,mkNds d.body.length (k+1+1+1)⟩
def mkDs (L:List Df) (k:Int):List Df:=L.mapIdx fun j d=>mkDf d (k+mkLen (L.take j))
def lenD (xs:List (Df × Value)):Int:=mkLen (xs.map Prod.fst)
def markedD (xs:List (Df × Value)) (k:Int) (i:Nat):List (Df × Value):=xs.mapIdx fun j x=>if j<i then (mkDf x.1 (k+lenD (xs.take j)),x.2) else x
theorem markedD_length (xs:List (Df × Value)) (k:Int) (i:Nat):(markedD xs k i).length=xs.length:=by simp [markedD]
theorem markedD_zero (xs:List (Df × Value)) (k:Int):markedD xs k 0=xs:=by
 apply List.ext_getElem (by simp [markedD])
 intro j h1 h2
 simp [markedD]
theorem markedD_get (xs:List (Df × Value)) (k:Int) (i:Nat) (h:i<xs.length):(markedD xs k i)[i]'(by rw [markedD_length];exact h)=xs[i]:=by simp [markedD]
theorem markedD_set (xs:List (Df × Value)) (k:Int) (i:Nat) (h:i<xs.length):(markedD xs k i).set i (mkDf xs[i].1 (k+lenD (xs.take i)),xs[i].2)=markedD xs k (i+1):=by
 apply List.ext_getElem (by simp [markedD])
 intro j h1 h2
 by_cases hj:i=j
 ·subst hj
  simp [markedD]
 ·rw [List.getElem_set_ne hj]
  simp only [markedD,List.getElem_mapIdx]
  by_cases hji:j<i
  ·rw [if_pos hji,if_pos (by omega)]
  ·rw [if_neg hji,if_neg (by omega)]
theorem markedD_all (xs:List (Df × Value)) (k:Int):(markedD xs k xs.length).map Prod.fst=mkDs (xs.map Prod.fst) k:=by
 apply List.ext_getElem (by simp [markedD,mkDs])
 intro j h1 h2
 have hj:j<xs.length:=by simpa [markedD] using h1
 simp only [List.getElem_map,markedD,mkDs,List.getElem_mapIdx]
 rw [if_pos hj]
 simp [lenD,List.map_take]
theorem markedD_snd (xs:List (Df × Value)) (k:Int) (i:Nat):(markedD xs k i).map Prod.snd=xs.map Prod.snd:=by
 apply List.ext_getElem (by simp [markedD])
 intro j h1 h2
 simp only [List.getElem_map,markedD,List.getElem_mapIdx]
 split <;> rfl
theorem lenD_take (xs:List (Df × Value)) (i:Nat) (h:i<xs.length):lenD (xs.take (i+1))=lenD (xs.take i)+3+3 * xs[i].1.body.length:=by
 unfold lenD
 rw [List.map_take,List.map_take,mkLen_take (xs.map Prod.fst) i (by simpa using h)]
 simp
theorem lenD_le (xs:List (Df × Value)) (i:Nat):0≤lenD (xs.take i)∧lenD (xs.take i)≤lenD xs:=by
 refine ⟨mkLen_nonneg _,?_⟩
 unfold lenD
 conv=>rhs;rw [← List.take_append_drop i xs]
 rw [List.map_append]
 generalize xs.take i=a
 generalize xs.drop i=b
 induction a with
 | nil=>simp [mkLen];exact mkLen_nonneg _
 | cons x r ih=>simp only [List.map_cons,List.cons_append,mkLen] at ih ⊢;omega
def markW (w2:World) (g i:Nat) (nm:ByteArray) (a b:Int):World:=((w2.setCell ⟨g,i * 4,none⟩ (.string nm)).setCell ⟨g,i * 4+1,none⟩ (.int .i64 a)).setCell ⟨g,i * 4+2,none⟩ (.int .i64 b)
theorem markW_nds {w2:World} {g i:Nat} {nm:ByteArray} {a b:Int} {B:Nat} {u:Value} {ns:List Nd} (h:NdsOwn w2 B u ns) (hne:u.ownBlock ≠ some g):NdsOwn (markW w2 g i nm a b) B u ns :=
 owns_other (owns_other (owns_other h _ _ hne) _ _ hne) _ _ hne
theorem dfs_row_ne {w:World} {B g n cap:Nat} {ys:List (Df × Value)} (h:DfsRow w B (.slice (some ⟨g,0,none⟩) n cap) ys):∀ x ∈ ys,x.2.ownBlock ≠ some g:=fun x hx e=>owns_ne (h.2.1 x hx) h.1 (by decide) g e rfl
theorem markD_step {wr w2 w3:World} {B g n cap:Nat} {ys:List (Df × Value)} {i:Nat} {nm:ByteArray} {a b:Int} {nb:List Nd} (hn:ys.length=n) (h:DfsRow wr B (.slice (some ⟨g,0,none⟩) n cap) ys) (hi:i<ys.length) (hb2:Below wr.heap.size wr w2)
  (h3:NdsOwn w3 B ys[i].2 nb) (hex:Exc (Own1 ys[i].2) (markW w2 g i nm a b) w3):DfsRow w3 B (.slice (some ⟨g,0,none⟩) n cap) (ys.set i (⟨nm,a,b,nb⟩,ys[i].2))∧Exc (OwnD (.slice (some ⟨g,0,none⟩) n cap) ys) wr w3:=by
 subst hn
 have h2:=h.keep hb2
 have hne:=dfs_row_ne h2
 have r1:=owns_set dfCells_len h2.1 i 0 _ hi (by omega) rfl (.string nm) (⟨nm,ys[i].1.inn,ys[i].1.out,ys[i].1.body⟩,ys[i].2) rfl
 have r2:=owns_set dfCells_len r1 i 1 _ (by simpa using hi) (by omega) rfl (.int .i64 a) (⟨nm,a,ys[i].1.out,ys[i].1.body⟩,ys[i].2) (by simp [dfCells])
 have r3:=owns_set dfCells_len r2 i 2 _ (by simpa using hi) (by omega) rfl (.int .i64 b) (⟨nm,a,b,nb⟩,ys[i].2) (by simp [dfCells])
 rw [List.set_set,List.set_set] at r3
 have r4:=owns_exc hex r3 (fun k hk hT=>by
  have h5:=hne ys[i] (List.getElem_mem _)
  simp only [Value.ownBlock,Option.map_some,Option.some.injEq] at hk
  subst hk
  exact h5 hT)
 refine ⟨⟨by rw [List.length_set];exact r4,?_,?_⟩,?_⟩
 ·intro x hx
  obtain ⟨j,hj,rfl⟩:=List.getElem_of_mem hx
  have hj':j<ys.length:=by simpa using hj
  by_cases hij:i=j
  ·subst hij
   rw [List.getElem_set_self]
   exact h3
  ·rw [List.getElem_set_ne hij]
   have h5:=markW_nds (g:=g) (i:=i) (nm:=nm) (a:=a) (b:=b) (h2.2.1 ys[j] (List.getElem_mem _)) (hne _ (List.getElem_mem _))
   refine owns_exc hex h5 (fun k hk hT=>?_)
   have hp:=List.pairwise_iff_getElem.1 h.2.2
   rcases Nat.lt_or_gt_of_ne hij with hlt|hlt
   ·exact hp i j hi hj' hlt k hT hk
   ·exact hp j i hj' hi hlt k hk hT
 ·have e:(ys.set i (⟨nm,a,b,nb⟩,ys[i].2)).map Prod.snd=ys.map Prod.snd:=by
   apply List.ext_getElem (by simp)
   intro j h1 h2
   simp only [List.getElem_map]
   by_cases hij:i=j
   ·subst hij;rw [List.getElem_set_self]
   ·rw [List.getElem_set_ne hij]
  have h6:(ys.map Prod.snd).Pairwise Apart:=List.pairwise_map.2 h.2.2
  rw [← e] at h6
  exact List.pairwise_map.1 h6
 ·have e1:Exc (OwnD (.slice (some ⟨g,0,none⟩) ys.length cap) ys) wr w2:=Below.exc hb2
  have ht:OwnD (.slice (some ⟨g,0,none⟩) ys.length cap) ys g:=.inl rfl
  have e2:Exc (OwnD (.slice (some ⟨g,0,none⟩) ys.length cap) ys) wr (markW w2 g i nm a b) :=
   exc_set (T:=OwnD (.slice (some ⟨g,0,none⟩) ys.length cap) ys) (exc_set (T:=OwnD (.slice (some ⟨g,0,none⟩) ys.length cap) ys) (exc_set (T:=OwnD (.slice (some ⟨g,0,none⟩) ys.length cap) ys) e1 (.inr ht) _) (.inr ht) _) (.inr ht) _
  exact e2.trans (hex.mono (fun k hk=>.inr ⟨ys[i],List.getElem_mem _,hk⟩))
theorem OwnD_congr {v:Value} {xs ys:List (Df × Value)} (h:xs.map Prod.snd=ys.map Prod.snd):∀ k,OwnD v xs k → OwnD v ys k:=by
 rintro k (hk|⟨x,hx,hk⟩)
 ·exact .inl hk
 ·have:x.2 ∈ ys.map Prod.snd:=by rw [← h];exact List.mem_map_of_mem hx
  obtain ⟨y,hy,e⟩:=List.mem_map.1 this
  exact .inr ⟨y,hy,by rw [e];exact hk⟩
theorem markDefS_any (v:Value) (xs:List (Df × Value)) (k:Int) (B:Nat) (w:World) (hv:DfsRow w B v xs) (hn:xs.length≤1048576) (hb:∀ x ∈ xs,x.1.body.length≤1048576) (h0:0≤k) (h1:k+lenD xs≤8388608) :
  Calls Tryz.prog 22 #[v,.int .i64 k] w fun e w'=>e=.returned (.int .i64 (k+lenD xs))∧DfsRow w' B v (markedD xs k xs.length)∧Exc (OwnD v xs) w w':=by
 obtain ⟨a,cap,rfl⟩:=hv.shape xs.length rfl
 go_enter Tryz.func22,Tryz.ntmps22
 go_wp2
 go_loopw [1,5] (fun kv iv wr=>∃ i:Nat,i≤xs.length∧iv=.int .i64 i∧kv=.int .i64 (k+lenD (xs.take i))∧DfsRow wr B (.slice a xs.length cap) (markedD xs k i)∧Exc (OwnD (.slice a xs.length cap) xs) w wr) (fun _ iv _=>xs.length - (intOf iv).toNat)
 case atStart=>exact ⟨0,by omega,rfl,by simp [lenD,mkLen],by rw [markedD_zero];exact hv,Exc.refl _ _⟩
 case round =>
  obtain ⟨i,hi,rfl,rfl,hrow,hex⟩:=hrel
  by_cases hlt:i<xs.length
  ·have hll:i<(markedD xs k i).length:=by rw [markedD_length];exact hlt
   have hrow1:=hrow.1
   rw [markedD_length] at hrow1
   obtain ⟨g,cp,he,hgc,hgm,hgB,hgs⟩:=owns_some' hrow1 (by omega)
   simp only [Value.slice.injEq] at he
   obtain ⟨rfl,_,rfl⟩:=he
   obtain ⟨d0,d1,d2,d3,q0,q1,q2,q3⟩:=df_old hrow1 i hll
   have hbd:=hrow.2.1 _ (List.getElem_mem hll)
   have hne:=dfs_row_ne hrow _ (List.getElem_mem hll)
   rw [markedD_get xs k i hlt] at d0 d1 d2 d3 hbd hne
   obtain ⟨va,vc,hvs⟩:=hbd.slice
   rw [hvs] at d3 hbd hne
   have hlen:=lenD_le xs i
   have hlen2:=lenD_le xs (i+1)
   have hstep:=lenD_take xs i hlt
   have hbl:=hb xs[i] (List.getElem_mem _)
   have hb0:k+lenD (xs.take i)+1+1+1≤8388608:=by omega
   have HST:=Lib.hid (And.intro hstep hvs)
   clear hstep hvs
   go_wp2_with (first|(go_at_call 72;refine (markText_any _ _ (by omega) (by omega)).mono ?_;rintro e w2 ⟨rfl,hb2⟩;obtain ⟨hc2,hf2,hs2⟩:=bcell hb2)|(go_at_call 73;refine (markNodeS_any _ xs[i].1.body _ B _ (markW_nds (hbd.keep hb2) hne) hbl (by omega) (by omega)).mono ?_;rintro e w3 ⟨rfl,hown3,hex3⟩))
   obtain ⟨hs1,hs2'⟩:=HST.out
   have hg:=markedD_get xs k i hlt
   obtain ⟨s1,s2⟩:=markD_step (nm:=mtext (k+lenD (xs.take i))) (a:=k+lenD (xs.take i)+1) (b:=k+lenD (xs.take i)+1+1) (nb:=mkNds xs[i].1.body.length (k+lenD (xs.take i)+1+1+1)) (markedD_length xs k i) hrow hll hb2 (by rw [hg,hs2'];exact hown3) (by rw [hg,hs2'];exact hex3)
   have e:(markedD xs k i).set i (⟨mtext (k+lenD (xs.take i)),k+lenD (xs.take i)+1,k+lenD (xs.take i)+1+1,mkNds xs[i].1.body.length (k+lenD (xs.take i)+1+1+1)⟩,(markedD xs k i)[i].2)=markedD xs k (i+1):=by
    rw [hg,← markedD_set xs k i hlt]
    rfl
   rw [e] at s1
   have hx3:=hex.trans (s2.mono (OwnD_congr (markedD_snd xs k i)))
   have hke:k+lenD (xs.take i)+1+1+1+3 * (xs[i].1.body.length:Int)=k+lenD (xs.take (i+1)):=by rw [hs1];omega
   have HKE:=Lib.hid hke
   clear hs1 hs2' hg e hke
   go_roundw
   case rel=>exact ⟨i+1,by omega,by go_num,by rw [HKE.out],s1,hx3⟩
   case measure=>simp [intOf];omega
  ·have hii:i=xs.length:=by omega
   subst hii
   go_wp2
   go_ret
   rw [List.take_length]
   exact ⟨rfl,hrow,hex⟩
end Go.Proofs.YtldhpaflmnlcaaaGreatDoor
/-
  The marks are read again. Own work.
-/
namespace Go.Proofs.YtldhpaflmnlcaaaGreatDoor
open Go.RowKit
theorem heldNodeS_any (v:Value) (n:Nat) (k:Int) (w:World) (hv:NdsAt w v (mkNds n k)) (hn:n≤1048576) (h0:0≤k) (h1:k≤8388608) :
  Calls Tryz.prog 76 #[v,.int .i64 k] w fun e w'=>e=.returned (.int .i64 (k+3 * n))∧Below w.heap.size w w':=by
 obtain ⟨a,cap,rfl,hc,hat⟩:=hv
 have hat':∀ i:Nat,i<n → ∃ b o,a=some ⟨b,o,none⟩∧NdAt w (mkNd (k+3 * i)) b (o+i * 3):=fun i hi=>by
  obtain ⟨b,o,e,h,r⟩:=hat i (by rw [mkNds_length];exact hi)
  rw [mkNds_get] at r
  exact ⟨b,o,e,r⟩
 clear hat
 rw [mkNds_length] at hc ⊢
 go_enter Tryz.func76,Tryz.ntmps76
 go_wp2
 go_loopw [1,5] (fun kv iv wr=>∃ i:Nat,i≤n∧iv=.int .i64 i∧kv=.int .i64 (k+3 * i)∧Below w.heap.size w wr) (fun _ iv _=>n - (intOf iv).toNat)
 case atStart=>exact ⟨0,by omega,rfl,by simp,Below.refl _ _⟩
 case round =>
  obtain ⟨i,hi,rfl,rfl,hbel⟩:=hrel
  by_cases hlt:i<n
  ·obtain ⟨b,o,rfl,hnd⟩:=hat' i hlt
   obtain ⟨c0,c1,c2⟩:=hnd.keep hbel
   simp only [mkNd] at c0 c1 c2
   have e0:(k+3 * (i:Int) != k+3 * i)=false:=by simp
   have e1:(k+3 * (i:Int)+1 != k+3 * i+1)=false:=by simp
   have hbz:=cell_lt c0
   rw [show k+3 * (i:Int)+2=k+3 * i+1+1 by omega] at c2
   clear hat' hnd
   go_wp2
   refine region_acts (C:=Exc (NoT) _) 2 [0,1,2,3,4,5,6,7] (by kernel_rfl) (by kernel_rfl) (Exc.grows _ _) (Exc.refl _ _) ?_
   iterate 6 (apply x_st rfl rfl rfl;(focus intro u hc' hf';go_simp <;> rfl);intro K hK;go_simp;apply hK;clear hK K)
   refine x_call rfl rfl rfl (Exc.grows _ _) (Exc.refl _ _) 72 (fun K hK=>?_);apply Exists.intro;refine ⟨fun w' hw'=>?_,fun w' hw' hbw=>?_⟩;(focus go_simp;rfl);refine (markText_any _ _ (by omega) (by omega)).mono ?_;rintro e w3 ⟨rfl,hb3⟩;refine ⟨_,rfl,hb3,fun hx=>?_⟩;go_simp;apply hK;clear hK K
   iterate 1 (apply x_st rfl rfl rfl;(focus intro u hc' hf';go_simp <;> rfl);intro K hK;go_simp;apply hK;clear hK K)
   refine x_nil ?_
   go_wp2
   go_roundw
   case rel=>exact ⟨i+1,by omega,by go_num,by go_num,hbel.trans (((Below.refl wr.heap.size wr).drew.trans (hx.toBelow.mono (by simp))).mono hbel.size)⟩
   case measure=>simp [intOf];omega
  ·have hii:i=n:=by omega
   subst hii
   go_wp2
   go_ret
   exact ⟨rfl,hbel⟩
theorem mkDs_length (L:List Df) (k:Int):(mkDs L k).length=L.length:=by simp [mkDs]
theorem mkDs_get (L:List Df) (k:Int) (i:Nat) (h:i<(mkDs L k).length):(mkDs L k)[i]=mkDf (L[i]'(by rw [← mkDs_length L k];exact h)) (k+mkLen (L.take i)):=by simp [mkDs]
theorem mkLen_le (L:List Df) (i:Nat):0≤mkLen (L.take i)∧mkLen (L.take i)≤mkLen L:=by
 have:=lenD_le (L.map fun d=>(d,undef)) i
 simpa [lenD,List.map_take,Function.comp_def] using this
theorem heldDefS_any (v:Value) (L:List Df) (k:Int) (w:World) (hv:DfsAt w v (mkDs L k)) (hn:L.length≤1048576) (hb:∀ d ∈ L,d.body.length≤1048576) (h0:0≤k) (h1:k+mkLen L≤8388608) :
  Calls Tryz.prog 27 #[v,.int .i64 k] w fun e w'=>e=.returned (.int .i64 (k+mkLen L))∧Below w.heap.size w w':=by
 obtain ⟨a,cap,rfl,hc,hat⟩:=hv
 have hat':∀ (i:Nat) (hi:i<L.length),∃ b o,a=some ⟨b,o,none⟩∧DfAt w (mkDf L[i] (k+mkLen (L.take i))) b (o+i * 4):=fun i hi=>by
  obtain ⟨b,o,e,h,r⟩:=hat i (by rw [mkDs_length];exact hi)
  rw [mkDs_get] at r
  exact ⟨b,o,e,r⟩
 clear hat
 rw [mkDs_length] at hc ⊢
 go_enter Tryz.func27,Tryz.ntmps27
 go_wp2
 go_loopw [1,5] (fun kv iv wr=>∃ i:Nat,i≤L.length∧iv=.int .i64 i∧kv=.int .i64 (k+mkLen (L.take i))∧Below w.heap.size w wr) (fun _ iv _=>L.length - (intOf iv).toNat)
 case atStart=>exact ⟨0,by omega,rfl,by simp [mkLen],Below.refl _ _⟩
 case round =>
  obtain ⟨i,hi,rfl,rfl,hbel⟩:=hrel
  by_cases hlt:i<L.length
  ·obtain ⟨b,o,rfl,hnd⟩:=hat' i hlt
   obtain ⟨c0,c1,c2,vb,c3,hvb⟩:=hnd.keep hbel
   simp only [mkDf] at c0 c1 c2 hvb
   obtain ⟨va,vc,rfl⟩:=hvb.slice
   have hlen:=mkLen_le L i
   have hlen2:=mkLen_le L (i+1)
   have hstep:=mkLen_take L i hlt
   have hbl:=hb L[i] (List.getElem_mem _)
   obtain ⟨q,hq⟩:∃ q,q=k+mkLen (L.take i):=⟨_,rfl⟩
   rw [← hq] at c0 c1 c2 hvb ⊢
   have hq0:0≤q∧q+1+1+1≤8388608:=by omega
   have hq1:q+1+1+1+3 * (L[i].body.length:Int)=k+mkLen (L.take (i+1)):=by rw [hstep];omega
   have hq2:¬ (q+1+1+1+3 * (L[i].body.length:Int)<0):=by omega
   have HQ:=Lib.hid hq1
   have e1:(q+1 != q+1)=false:=by simp
   have e2:(q+1+1 != q+1+1)=false:=by simp
   have hbz:=cell_lt c0
   rw [mkNds_length] at c3 hvb
   clear hat' hnd hq hq1 hstep
   go_wp2_with fail
   refine region_acts (C:=Exc (NoT) _) 2 [0,1,2,3,4,5,6,7] (by kernel_rfl) (by kernel_rfl) (Exc.grows _ _) (Exc.refl _ _) ?_
   iterate 6 (apply x_st rfl rfl rfl;(focus intro u hc' hf';go_simp <;> rfl);intro K hK;go_simp;apply hK;clear hK K)
   refine x_call rfl rfl rfl (Exc.grows _ _) (Exc.refl _ _) 72 (fun K hK=>?_);apply Exists.intro;refine ⟨fun w' hw'=>?_,fun w' hw' hbw=>?_⟩;(focus go_simp;rfl);refine (markText_any _ _ (by omega) (by omega)).mono ?_;rintro e w3 ⟨rfl,hb3⟩;refine ⟨_,rfl,hb3,fun hx=>?_⟩;go_simp;apply hK;clear hK K
   iterate 1 (apply x_st rfl rfl rfl;(focus intro u hc' hf';go_simp <;> rfl);intro K hK;go_simp;apply hK;clear hK K)
   refine x_nil ?_
   have hb3':Below wr.heap.size wr w3:=(Below.refl wr.heap.size wr).drew.trans (hx.toBelow.mono (by simp))
   obtain ⟨hc3,hf3,hs3⟩:=bcell hb3'
   go_wp2_with (go_at_call 76;refine (heldNodeS_any _ L[i].body.length _ _ (hvb.keep hb3') hbl (by omega) (by omega)).mono ?_;rintro e w4 ⟨rfl,hb4⟩)
   go_roundw
   case rel=>exact ⟨i+1,by omega,by go_num,by rw [HQ.out],hbel.trans ((hb3'.trans (hb4.mono hs3)).mono hbel.size)⟩
   case measure=>simp [intOf];omega
  ·have hii:i=L.length:=by omega
   subst hii
   go_wp2
   go_ret
   rw [List.take_length]
   exact ⟨rfl,hbel⟩
end Go.Proofs.YtldhpaflmnlcaaaGreatDoor
