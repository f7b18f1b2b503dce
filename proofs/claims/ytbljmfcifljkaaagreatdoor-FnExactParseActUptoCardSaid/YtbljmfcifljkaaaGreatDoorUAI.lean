/-
  The program's axioms: the first loop. Own work.
-/
import Derived.Test.YtbljmfcifljkaaaGreatDoorUMI
import Derived.Test.YtbljmfcifljkaaaGreatDoorURU
import Derived.Test.YtbljmfcifljkaaaGreatDoorURpl9
import Derived.Test.YtbljmfcifljkaaaGreatDoorUAX
import Derived.Test.YtbljmfcifljkaaaGreatDoorUFL
import Derived.Test.YtbljmfcifljkaaaGreatDoorUC
set_option linter.all false
set_option maxRecDepth 100000
set_option maxHeartbeats 8000000
namespace Go.Proofs.YtbljmfcifljkaaaGreatDoor
open Go.RowKit
set_option maxRecDepth 100000
set_option maxHeartbeats 4000000
theorem nds_exc {w w':World} {B b:Nat} {v:Value} {ns:List Nd} (h:NdsOwn w B v ns) (hE:Exc (fun k=>k=b) w w') (hb:b<B):NdsOwn w' B v ns :=
 owns_exc hE h (fun k hk e=>by have:=(World.ownsRow.lt h k hk).1;omega)
theorem RuIn.exc {w w':World} {B b:Nat} {ys:List RuV} (h:RuIn w B ys) (hE:Exc (fun k=>k=b) w w') (hb:b<B):RuIn w' B ys :=
 ⟨fun y hy=>⟨nds_exc (h.1 y hy).1 hE hb,nds_exc (h.1 y hy).2.1 hE hb,(h.1 y hy).2.2⟩,h.2⟩
theorem RuRow.exc {w w':World} {B b:Nat} {v:Value} {ys:List RuV} (h:RuRow w B v ys) (hE:Exc (fun k=>k=b) w w') (hb:b<B):RuRow w' B v ys :=
 ⟨owns_exc hE h.1 (fun k hk e=>by have:=(World.ownsRow.lt h.1 k hk).1;omega),RuIn.exc h.2 hE hb⟩
theorem cell_exc {w w':World} {b g j:Nat} {u:Value} (hE:Exc (fun k=>k=b) w w') (h:w.cell? ⟨g,j,none⟩=some u) (hg:¬ g=b):w'.cell? ⟨g,j,none⟩=some u :=
 (hE.cell.1 g j (cell_lt h) hg).trans h
theorem TxAt.exc {w w':World} {b g:Nat} (h:TxAt w g) (hE:Exc (fun k=>k=b) w w') (hg:¬ g=b):TxAt w' g:=fun i hi =>
 ⟨cell_exc hE (h i hi).1 hg,cell_exc hE (h i hi).2.1 hg,cell_exc hE (h i hi).2.2 hg⟩
theorem axTxt_sizes:∀ i,∀ h:i<27,(axTxt[i]'h).1.size≤60∧(axTxt[i]'h).2.1.size≤60∧(axTxt[i]'h).2.2.size≤60:=by
 have key:(axTxt.all fun x=>decide (x.1.size≤60) && decide (x.2.1.size≤60) && decide (x.2.2.size≤60))=true:=by decide +kernel
 intro i h
 have:=List.all_eq_true.1 key _ (List.getElem_mem (l:=axTxt) h)
 simpa [and_assoc] using this
theorem num_size (v:Int) (h0:0≤v) (h1:v≤96):1≤(numT v).size∧(numT v).size≤2:=by
 obtain ⟨k,rfl⟩:=Int.eq_ofNat_of_zero_le h0
 have key:∀ k:Fin 97,1≤(numT ((k.val:Nat):Int)).size∧(numT ((k.val:Nat):Int)).size≤2:=by decide +kernel
 exact key ⟨k,by omega⟩
theorem repX_size {x0 x1 x2 x3 x4:ByteArray} (h:∀ x ∈ [x0,x1,x2,x3,x4],1≤x.size∧x.size≤2) (s:ByteArray) (hs:s.size≤60):(repX [x0,x1,x2,x3,x4] s).size≤60000:=by
 have h1:=outD_len (dN (lxL [x0,x1,x2,x3,x4])) s.data.toList
 have h2:=dsum_bnd _ (dsz_bnd _ (lx_sizes h)) s.data.toList
 have h3:s.data.toList.length=s.size:=by simp
 have h4:(repX [x0,x1,x2,x3,x4] s).size=(outD (dN (lxL [x0,x1,x2,x3,x4])) s.data.toList).length:=by unfold repX;simp [ByteArray.size]
 omega
structure AxSt (w wr:World) (b gt:Nat) (k l m s n:Int) (v:Value) (i:Nat) (xs:List RuV):Prop where
 row:RuRow wr (b+1) v xs
 fst:xs.map Prod.fst=((axT k l m s n).take i).map rulOf
 rp:RpSt wr b (numT k) (numT l) (numT m) (numT s) (numT n)
 tx:TxAt wr gt
 low:w.heap.size≤b
 lt:b<gt
 bel:Below w.heap.size w wr
 off:v.ownBlock ≠ some gt
theorem TxAt.lt {w:World} {g:Nat} (h:TxAt w g):g<w.heap.size:=cell_lt (h 0 (by omega)).1
theorem AxNum.sizes {k l m s n:Int} (h:AxNum k l m s n):∀ x ∈ [numT k,numT l,numT m,numT s,numT n],1≤x.size∧x.size≤2:=by
 intro x hx
 simp only [List.mem_cons,List.not_mem_nil,or_false] at hx
 rcases hx with rfl|rfl|rfl|rfl|rfl
 ·exact num_size _ h.hk.1 h.hk.2
 ·exact num_size _ h.hl.1 h.hl.2
 ·exact num_size _ h.hm.1 h.hm.2
 ·exact num_size _ h.hs.1 h.hs.2
 ·exact num_size _ h.hn.1 h.hn.2
structure AxT (wr w2:World) (b n:Nat) (xs:List RuV) (v:Value) (ys:List RuV):Prop where
 row:RuRow w2 (b+1) v ys
 tag:∀ y ∈ ys,y ∈ xs.take n∨(NdsOwn w2 wr.heap.size y.2.1 y.1.left∧NdsOwn w2 wr.heap.size y.2.2 y.1.right)
 bel:Below wr.heap.size wr w2
 blk:∀ k,v.ownBlock=some k → wr.heap.size≤k
theorem RuSep.symm {x y:RuV} (h:RuSep x y):RuSep y x:=⟨h.1.symm,h.2.2.1.symm,h.2.1.symm,h.2.2.2.symm⟩
theorem AxT.keep {wr w2 w3:World} {b n:Nat} {xs ys:List RuV} {v:Value} (h:AxT wr w2 b n xs v ys) (hb:Below w2.heap.size w2 w3):AxT wr w3 b n xs v ys :=
 ⟨h.row.keep hb,fun y hy=>(h.tag y hy).imp id fun h=>⟨h.1.keep hb,h.2.keep hb⟩,h.bel.trans (hb.mono h.bel.size),h.blk⟩
theorem nds_row_ne {w:World} {B B':Nat} {v u:Value} {ys:List RuV} {ns:List Nd} (h:RuRow w B v ys) (hu:NdsOwn w B' u ns):∀ k,u.ownBlock=some k → v.ownBlock ≠ some k:=fun k hk=>owns_ne hu h.1 (by decide) k hk
theorem AxT.put {wr w2 w3:World} {b n m:Nat} {xs ys zs:List RuV} {v v':Value} (h:AxT wr w2 b n xs v ys) (hn:n≤m) (hrow:RuRow w3 (b+1) v' (ys ++ zs)) (hg:w2.grownBy w3 v.ownBlock) (hv:v'.ownBlock=v.ownBlock∨v'.ownBlock=some w2.heap.size)
  (hz:∀ z ∈ zs,z ∈ xs.take m∨(NdsOwn w2 wr.heap.size z.2.1 z.1.left∧NdsOwn w2 wr.heap.size z.2.2 z.1.right)):AxT wr w3 b m xs v' (ys ++ zs):=by
 have mv:∀ (u:Value) ns,NdsOwn w2 wr.heap.size u ns → NdsOwn w3 wr.heap.size u ns:=fun u ns hu=>nds_grown hu hg (nds_row_ne h.row hu)
 refine ⟨hrow,fun y hy=>?_,h.bel.grown hg h.bel.size h.blk,?_⟩
 ·rcases List.mem_append.1 hy with hy|hy
  ·rcases h.tag y hy with h1|h1
   ·exact .inl ((List.take_subset_take_left xs hn) h1)
   ·exact .inr ⟨mv _ _ h1.1,mv _ _ h1.2⟩
  ·exact (hz y hy).imp id fun h1=>⟨mv _ _ h1.1,mv _ _ h1.2⟩
 ·intro k hk
  rcases hv with e|e
  ·exact h.blk k (by rw [← e];exact hk)
  ·rw [e] at hk;cases hk;exact h.bel.size
theorem AxT.sep {wr w2:World} {b n B:Nat} {xs ys:List RuV} {v:Value} (h:AxT wr w2 b n xs v ys) (hx:RuIn wr B xs) (m:Nat):∀ y ∈ ys,∀ z ∈ (xs.drop n).take m,RuSep y z:=by
 intro y hy z hz
 have hz2:z ∈ xs.drop n:=List.mem_of_mem_take hz
 have hz3:z ∈ xs:=List.mem_of_mem_drop hz2
 rcases h.tag y hy with h1|h1
 ·have hp:=hx.2
  rw [← List.take_append_drop n xs] at hp
  exact (List.pairwise_append.1 hp).2.2 y h1 z hz2
 ·have ho:=hx.1 z hz3
  exact RuSep.symm ⟨apart_later ho.1 h1.1 (Nat.le_refl _),apart_later ho.1 h1.2 (Nat.le_refl _),apart_later ho.2.1 h1.1 (Nat.le_refl _),apart_later ho.2.1 h1.2 (Nat.le_refl _)⟩
theorem rule_at {w0:World} {b g cr:Nat} {xs:List RuV} {A:List (ByteArray × Tr × Tr)} (hrow:RuRow w0 (b+1) (.slice (some ⟨g,0,none⟩) 27 cr) xs) (hxl:xs.length=27) (hal:A.length=27)
  (hel:∀ j (h:j<xs.length) (h2:j<A.length),xs[j].1=rulOf A[j]) (hAt:∀ j (h:j<A.length),AxTr (A[j]'h).2.1∧AxTr (A[j]'h).2.2∧(A[j]'h).1.size≤60) (j:Nat) (hj:j<27) :
  ∃ (T:ByteArray × Tr × Tr) (al:Option Addr) (cl:Nat) (ar:Option Addr) (c2:Nat),A[j]?=some T∧AxTr T.2.1∧AxTr T.2.2∧T.1.size≤60∧∀ w',Below w0.heap.size w0 w' →
   w'.cell? ⟨g,j * 3,none⟩=some (.string T.1)∧w'.cell? ⟨g,j * 3+1,none⟩=some (.slice al T.2.1.nodes.length cl)∧w'.cell? ⟨g,j * 3+2,none⟩=some (.slice ar T.2.2.nodes.length c2) ∧
   NdsAt w' (.slice al T.2.1.nodes.length cl) T.2.1.nodes∧NdsAt w' (.slice ar T.2.2.nodes.length c2) T.2.2.nodes:=by
 have hjx:j<xs.length:=by omega
 have hja:j<A.length:=by omega
 obtain ⟨c0,c1,c2,-,-,-⟩:=ru_old (n:=27) (by have h9:=hrow.1;rw [hxl] at h9;exact h9) j hjx
 have hin:=hrow.2.1 _ (List.getElem_mem hjx)
 have hee:=hel j hjx hja
 obtain ⟨h1,h2,h3⟩:=hAt j hja
 rw [hee] at c0 hin
 obtain ⟨al,cl,e1⟩:=hin.1.slice
 obtain ⟨ar,cr2,e2⟩:=hin.2.1.slice
 rw [e1] at c1
 rw [e2] at c2
 have hi1:=hin.1
 have hi2:=hin.2.1
 rw [e1] at hi1
 rw [e2] at hi2
 exact ⟨A[j],al,cl,ar,cr2,List.getElem?_eq_getElem hja,h1,h2,h3,fun w' hb=>⟨cell_keep hb c0,cell_keep hb c1,cell_keep hb c2,hi1.at.keep hb,hi2.at.keep hb⟩⟩
theorem drop_take_one {α:Type} {A:List α} {j:Nat} {T:α} (h:A[j]?=some T):(A.drop j).take 1=[T]:=by
 obtain ⟨hj,e⟩:=List.getElem?_eq_some_iff.1 h
 rw [List.drop_eq_getElem_cons hj,e]
 rfl
theorem mem_part {α:Type} {xs:List α} {n m:Nat} {z:α} (h:z ∈ (xs.drop n).take m):z ∈ xs.take (n+m):=by
 have:(xs.drop n).take m=(xs.take (n+m)).drop n:=by rw [List.drop_take];congr 1;omega
 rw [this] at h
 exact List.mem_of_mem_drop h
end Go.Proofs.YtbljmfcifljkaaaGreatDoor
/-
  The program's axioms, walked. Own work.
-/
namespace Go.Proofs.YtbljmfcifljkaaaGreatDoor
open Go.RowKit
set_option maxRecDepth 100000
set_option maxHeartbeats 4000000
theorem on_lit (w:World) (x0 x1 x2 x3 x4:ByteArray) (t:TypeId):OnAt (w.alloc (.cells #[.string ⟨#[75]⟩,.string x0,.string ⟨#[76]⟩,.string x1,.string ⟨#[77]⟩,.string x2,.string ⟨#[83]⟩,.string x3,.string ⟨#[78]⟩,.string x4] t)) (.slice (some ⟨w.heap.size,0,none⟩) 10 10) [x0,x1,x2,x3,x4]:=by
 refine ⟨rfl,w.heap.size,0,10,rfl,Nat.le_refl _,fun k hk=>?_⟩
 match k,hk with
 | 0,_=>exact ⟨by simp [repK],by simp⟩
 | 1,_=>exact ⟨by simp [repK],by simp⟩
 | 2,_=>exact ⟨by simp [repK],by simp⟩
 | 3,_=>exact ⟨by simp [repK],by simp⟩
 | 4,_=>exact ⟨by simp [repK],by simp⟩
theorem ru_empty (w:World) (g B:Nat) (hg:g=w.heap.size) (hB:B≤w.heap.size):RuRow (w.alloc (.cells #[] 32)) B (.slice (some ⟨g,0,none⟩) 0 0) []:=by
 subst hg
 exact ⟨World.ownsRow_lit (base:=B) (size:=3) (e:=32) w #[] 0 hB (by unfold maxLen;omega) rfl,by simp,List.Pairwise.nil⟩
theorem dfs_nil (w:World):DfsAt w (.slice none 0 0) []:=⟨none,0,rfl,Nat.le_refl _,fun i hi=>absurd hi (Nat.not_lt_zero _)⟩
def RusP (L:List Rul) (w:World) (e:Ending) (w':World):Prop:=∃ v xs,e=.returned v∧xs.map Prod.fst=L∧RuRow w' w.heap.size v xs∧Below w.heap.size w w'
theorem axioms_any (p k l:Int) (w:World) (hp:2≤p∧p≤97) (hk:0≤k∧k<p) (hl:0≤l∧l<p) :
  Calls Tryz.prog 41 #[.int .i64 p,.int .i64 k,.int .i64 l] w (RusP (axL p k l) w):=by
 have hkl:0≤k * l∧k * l≤9216:=⟨Int.mul_nonneg hk.1 hl.1,by have:=Int.mul_le_mul (show k≤96 by omega) (show l≤96 by omega) hl.1 (by omega:(0:Int)≤96);omega⟩
 have hm1:=Int.emod_nonneg (k * l) (show p ≠ 0 by omega)
 have hm2:=Int.emod_lt_of_pos (k * l) (show 0<p by omega)
 have hs1:=Int.emod_nonneg (k+l) (show p ≠ 0 by omega)
 have hs2:=Int.emod_lt_of_pos (k+l) (show 0<p by omega)
 have e1:IntKind.i64.wrap (k * l)=k * l:=IntWalk.i64_in _ (by omega)
 have e2:IntKind.i64.wrap (k+l)=k+l:=IntWalk.i64_in _ (by omega)
 have e3:IntKind.i64.wrap (p - 1)=p - 1:=IntWalk.i64_in _ (by omega)
 have hax:axL p k l=axL p k l:=rfl
 unfold axN at *
 obtain ⟨M,hM⟩:∃ M,(k * l) % p=M:=⟨_,rfl⟩
 obtain ⟨S,hS⟩:∃ S,(k+l) % p=S:=⟨_,rfl⟩
 rw [hM] at hm1 hm2
 rw [hS] at hs1 hs2
 have hnum:AxNum k l M S (p - 1):=⟨by omega,by omega,by omega,by omega,by omega⟩
 have hsz:=hnum.sizes
 have HMS:=Lib.hid (And.intro hM hS)
 have HSZ:=Lib.hid hsz
 clear hM hS hsz hax
 go_enter Tryz.func41,Tryz.ntmps41
 go_wp2_with (first
  | (go_at_call 92;refine (itoa_any _ _ (by omega) (by omega)).mono ?_;rintro e w1 ⟨rfl,hw1⟩;obtain rfl:=hw1)
  | (go_at_call 93;refine (mod_any p _ _ (by omega) (by omega) (by omega) (by omega)).mono ?_;rintro e w1 ⟨rfl,hw1⟩;obtain rfl:=hw1;first|rw [HMS.out.1]|rw [HMS.out.2]))
 refine (newReplacer_any _ _ _ (on_lit w (numT k) (numT l) (numT M) (numT S) (numT (p - 1)) 9)).mono ?_
 rintro e w1 ⟨b,v1,rfl,hbw,hnew,⟨g1,c1,rfl,hg1⟩,hb1⟩
 have hrp:RpSt w1 b (numT k) (numT l) (numT M) (numT S) (numT (p - 1)):=.inl ⟨g1,c1,hnew,hg1⟩
 have hbz:=cell_lt hnew.c0
 have hb01:Below w.heap.size w w1:=(alloc_below _ _).trans (hb1.mono (by simp))
 simp only [World.size_alloc] at hbw
 clear hnew hg1 hb1
 go_wp2_with (go_at_call 94;refine (axiomLines_any _).mono ?_;rintro e w2 ⟨n,rfl,hn1,hn2,htx,hb2⟩;obtain rfl:n=27:=by omega)
 have hA:=alloc_below w1 (.cells #[] 32)
 have hst:AxSt w w2 b (w1.heap.size+1) k l M S (p - 1) (.slice (some ⟨w1.heap.size,0,none⟩) 0 0) 0 []:=by
  refine ⟨(ru_empty w1 _ _ rfl (by omega)).keep hb2,rfl,(hrp.keep hA).keep hb2,by simpa using htx,by omega,by omega,(hb01.trans (hA.mono hb01.size)).trans (hb2.mono (by have:=hb01.size;simp;omega)),by simp [Value.ownBlock]⟩
 clear hb2 hA hrp htx hn1 hn2
 obtain ⟨gt,hgt⟩:∃ gt,w1.heap.size+1=gt:=⟨_,rfl⟩
 rw [hgt] at hst ⊢
 clear hgt hb01 hbz
 go_loopw [8,44] (fun rv iv wr=>∃ (i:Nat) (xs:List RuV),i≤27∧iv=.int .i64 (i:Int)∧AxSt w wr b gt k l M S (p - 1) rv i xs) (fun _ iv _=>27 - (intOf iv).toNat)
 case atStart=>exact ⟨0,[],by omega,rfl,hst⟩
 case round =>
  clear hst
  obtain ⟨i,xs,hi,rfl,hst⟩:=hrel
  have hxl:xs.length=i:=by
   have:=congrArg List.length hst.fst
   simpa [axT,Nat.min_eq_left hi] using this
  obtain ⟨ar,cr,rfl⟩:=hst.row.shape
  rw [hxl] at hst ⊢
  by_cases h27:i<27
  ·have i1:(i:Int)<27:=by omega
   have i2:IntKind.i64.wrap ((i:Int)+1)=(i:Int)+1:=IntWalk.i64_in _ (by omega)
   have tz:=hst.tx.lt
   obtain ⟨a,T,c0,c1,c2,z1,z2,z3,hnm,hrd1,hrd2,htk⟩:∃ (a:ByteArray × ByteArray × ByteArray) (T:ByteArray × Tr × Tr),wr.cell? ⟨gt,i * 3,none⟩=some (.string a.1)∧wr.cell? ⟨gt,i * 3+1,none⟩=some (.string a.2.1)∧wr.cell? ⟨gt,i * 3+2,none⟩=some (.string a.2.2) ∧
     a.1.size≤60∧a.2.1.size≤60∧a.2.2.size≤60∧a.1=T.1∧parsT [] (repB (repD k l M S (p - 1)) a.2.1)=.ok T.2.1.nodes∧parsT [] (repB (repD k l M S (p - 1)) a.2.2)=.ok T.2.2.nodes∧(axT k l M S (p - 1)).take (i+1)=(axT k l M S (p - 1)).take i ++ [T]:=by
    obtain ⟨hx1,hx2,hnm,hrd1,hrd2⟩:=ax_read hnum i h27
    exact ⟨axTxt[i]'h27,(axT k l M S (p - 1))[i]'hx2,(hst.tx i h27).1,(hst.tx i h27).2.1,(hst.tx i h27).2.2,(axTxt_sizes i h27).1,(axTxt_sizes i h27).2.1,(axTxt_sizes i h27).2.2,hnm,hrd1,hrd2,take_snoc _ i hx2⟩
   have HRD:=Lib.hid (And.intro hnm (And.intro hrd1 hrd2))
   have HST:=Lib.hid hst
   have HTK:=Lib.hid htk
   clear hnm hrd1 hrd2 hst htk
   go_wp2_with fail
   have hB1:=alloc_below wr (.cells #[.string a.1,.string a.2.1,.string a.2.2] 136)
   refine (replace_any b _ _ _ _ _ a.2.1 _ (HST.out.rp.keep hB1) HSZ.out (by omega)).mono ?_
   rintro e w2 ⟨rfl,hrp2,hx2⟩
   have hbn:b<wr.heap.size:=by have:=HST.out.lt;omega
   have hwb:¬ wr.heap.size=b:=by omega
   have hx02:Exc (fun k=>k=b) wr w2:=(Below.exc hB1).trans hx2
   have hs2:=hx2.size
   simp only [World.size_alloc] at hs2
   have t0:w2.cell? ⟨wr.heap.size,0,none⟩=some (.string a.1):=cell_exc hx2 (by simp [go_sem]) hwb
   have t2:w2.cell? ⟨wr.heap.size,2,none⟩=some (.string a.2.2):=cell_exc hx2 (by simp [go_sem]) hwb
   have hz2:=repX_size HSZ.out a.2.1 z2
   rw [repX_eq] at hz2 ⊢
   have hp1:=parseTerm_any (.slice none 0 0) [] (repB (repD k l M S (p - 1)) a.2.1) w2 (dfs_nil w2) rfl (by omega)
   rw [HRD.out.2.1] at hp1
   generalize repB (repD k l M S (p - 1)) a.2.1=X1 at *
   have HP1:=Lib.hid hp1
   clear hp1 hz2 hx2 hB1
   go_wp2_with fail
   refine HP1.out.mono ?_
   rintro e w3 ⟨v3,rfl,ho3,hb3⟩
   obtain ⟨a3,k3,rfl⟩:=ho3.slice
   have hs3:=hb3.size
   have t3:=cell_keep hb3 t0
   have t5:=cell_keep hb3 t2
   have hx03:Exc (fun k=>k=b) wr w3:=hx02.below hb3
   have tz3:=cell_lt t3
   go_wp2_with fail
   have hB4:=alloc_below w3 (.cells #[.slice a3 T.2.1.nodes.length k3] 30)
   refine (replace_any b _ _ _ _ _ a.2.2 _ ((hrp2.keep hb3).keep hB4) HSZ.out (by omega)).mono ?_
   rintro e w5 ⟨rfl,hrp5,hx5⟩
   have hs5:=hx5.size
   simp only [World.size_alloc] at hs5
   have h3b:¬ w3.heap.size=b:=by omega
   have r0:w5.cell? ⟨wr.heap.size,0,none⟩=some (.string a.1):=cell_exc hx5 (alloc_keep t3 _) hwb
   have r3:w5.cell? ⟨w3.heap.size,0,none⟩=some (.slice a3 T.2.1.nodes.length k3):=cell_exc hx5 (by simp [go_sem]) h3b
   have ho5:NdsOwn w5 w2.heap.size (.slice a3 T.2.1.nodes.length k3) T.2.1.nodes:=nds_exc (NdsOwn.keep hB4 ho3) hx5 (by omega)
   have hx05:Exc (fun k=>k=b) wr w5:=(hx03.below hB4).trans hx5
   have hz3:=repX_size HSZ.out a.2.2 z3
   rw [repX_eq] at hz3 ⊢
   have hp2:=parseTerm_any (.slice none 0 0) [] (repB (repD k l M S (p - 1)) a.2.2) w5 (dfs_nil w5) rfl (by omega)
   rw [HRD.out.2.2] at hp2
   generalize repB (repD k l M S (p - 1)) a.2.2=X2 at *
   have HP2:=Lib.hid hp2
   clear hp2 hz3 hx5 hB4 hrp2 HP1 ho3 hx02 hx03
   go_wp2_with fail
   refine HP2.out.mono ?_
   rintro e w6 ⟨v6,rfl,ho6,hb6⟩
   obtain ⟨a6,k6,rfl⟩:=ho6.slice
   have hs6:=hb6.size
   have q0:=cell_keep hb6 r0
   have q3:=cell_keep hb6 r3
   have qz:=cell_lt q0
   have qz3:=cell_lt q3
   have hx06:Exc (fun k=>k=b) wr w6:=hx05.below hb6
   have hB7:Below w6.heap.size w6 ((w6.alloc (.cells #[.slice a6 T.2.2.nodes.length k6] 30)).alloc (.cells #[.string a.1,.slice a3 T.2.1.nodes.length k3,.slice a6 T.2.2.nodes.length k6] 32)):=(alloc_below _ _).alloc (by simp) _
   have hx07:=hx06.below hB7
   obtain ⟨y,hy⟩:∃ y:RuV,y=(⟨a.1,T.2.1.nodes,T.2.2.nodes⟩,.slice a3 T.2.1.nodes.length k3,.slice a6 T.2.2.nodes.length k6):=⟨_,rfl⟩
   have hy1:y.1=rulOf T:=by rw [hy];unfold rulOf;rw [HRD.out.1]
   have hsrc:SrcAt ((w6.alloc (.cells #[.slice a6 T.2.2.nodes.length k6] 30)).alloc (.cells #[.string a.1,.slice a3 T.2.1.nodes.length k3,.slice a6 T.2.2.nodes.length k6] 32)) 3 (.slice (some ⟨w6.heap.size+1,0,none⟩) 1 1) 1 ([y].flatMap ruCells):=by
    have h:=ru_lit (w6.alloc (.cells #[.slice a6 T.2.2.nodes.length k6] 30)) y
    rw [hy] at h ⊢
    simpa using h
   have hyin:RuIn ((w6.alloc (.cells #[.slice a6 T.2.2.nodes.length k6] 30)).alloc (.cells #[.string a.1,.slice a3 T.2.1.nodes.length k3,.slice a6 T.2.2.nodes.length k6] 32)) (b+1) [y]:=by
    refine ⟨fun z hz=>?_,List.pairwise_singleton _ _⟩
    simp only [List.mem_singleton] at hz
    rw [hz,hy]
    exact ⟨NdsOwn.keep hB7 (NdsOwn.keep hb6 (ho5.mono (by omega))),NdsOwn.keep hB7 (ho6.mono (by omega)),apart_later ho5 ho6 (Nat.le_refl _)⟩
   have hsep:∀ x ∈ xs,∀ z ∈ [y],RuSep x z:=by
    intro x hx z hz
    simp only [List.mem_singleton] at hz
    rw [hz,hy]
    have hxo:=HST.out.row.2.1 x hx
    exact ⟨apart_later hxo.1 ho5 (by omega),apart_later hxo.1 ho6 (by omega),apart_later hxo.2.1 ho5 (by omega),apart_later hxo.2.1 ho6 (by omega)⟩
   have hrow:=HST.out.row.exc hx07 (by omega)
   have HH:=Lib.hid (And.intro hy1 (And.intro hsrc (And.intro hyin (And.intro hsep (And.intro hrow (And.intro hx07 (And.intro (hrp5.keep hb6) ((HST.out.tx.exc hx07 (by have:=HST.out.lt;omega))))))))))
   have HRP:=Lib.hid ((hrp5.keep hb6).keep hB7)
   clear hy1 hsrc hyin hsep hrow hx07 hx06 hx05 hy hrp5
   go_wp2_with (at_builtin;go_must (refine ru_app rfl (.tmp 64) (.tmp 70) rfl (b+1) (.slice ar i cr) (.slice (some ⟨w6.heap.size+1,0,none⟩) 1 1) xs [y] i 1 hxl rfl rfl rfl HH.out.2.2.2.2.1 HH.out.2.1 HH.out.2.2.1 HH.out.2.2.2.1 ?e1 (by omega) ?_;(case e1=>simp;omega);intro v9 w9 h9 hg9 hv9))
   have hst9:AxSt w w9 b gt k l M S (p - 1) v9 (i+1) (xs ++ [y]):=by
    have hown:=HST.out.row.1
    have hrow7:=HH.out.2.2.2.2.1
    have hoff:=HST.out.off
    refine ⟨h9,?_,?_,?_,HST.out.low,HST.out.lt,?_,?_⟩
    ·rw [List.map_append,HST.out.fst,HTK.out,List.map_append,List.map_singleton,List.map_singleton,HH.out.1]
    ·refine HRP.out.grown hg9 (fun j hj=>⟨by have:=(World.ownsRow.lt hrow7.1 j hj).1;omega,?_⟩)
     rcases hrow7.1.2 with ⟨e,_⟩|⟨g,cap,cur,e,_,e2,_⟩
     ·rw [e] at hj;cases hj
     ·rw [e] at hj;simp [Value.ownBlock] at hj;subst hj;exact ⟨_,_,e2⟩
    ·have htx:=HH.out.2.2.2.2.2.2.2
     exact fun j hj=>⟨hg9.cell (htx j hj).1 (fun e=>hoff e.symm),hg9.cell (htx j hj).2.1 (fun e=>hoff e.symm),hg9.cell (htx j hj).2.2 (fun e=>hoff e.symm)⟩
    ·have hbe:Below w.heap.size wr ((w6.alloc (.cells #[.slice a6 T.2.2.nodes.length k6] 30)).alloc (.cells #[.string a.1,.slice a3 T.2.1.nodes.length k3,.slice a6 T.2.2.nodes.length k6] 32)):=exc_lo HH.out.2.2.2.2.2.1 HST.out.bel.size (fun j hj=>by have:=HST.out.low;omega)
     exact (HST.out.bel.trans hbe).grown hg9 (by have:=HST.out.bel.size;simp;omega) (fun j hj=>by have:=(World.ownsRow.lt hrow7.1 j hj).1;have:=HST.out.low;omega)
    ·rcases hv9 with e|e
     ·rw [e];exact hoff
     ·rw [e];simp;omega
   refine ⟨⟨i+1,_,by omega,by push_cast;rfl,hst9⟩,?_⟩
   simp [intOf];omega
  ·obtain rfl:i=27:=by omega
   have i1:¬ ((27:Nat):Int)<27:=by omega
   obtain ⟨hrow,hfst,hlow,hlt,hbel⟩:=And.intro hst.row (And.intro hst.fst (And.intro hst.low (And.intro hst.lt hst.bel)))
   have hAt:∀ j (h:j<(axT k l M S (p - 1)).length),AxTr ((axT k l M S (p - 1))[j]'h).2.1∧AxTr ((axT k l M S (p - 1))[j]'h).2.2∧((axT k l M S (p - 1))[j]'h).1.size≤60:=fun j h=>by
    have h2:=hnum.tr j h
    obtain ⟨hx1,hx2,hnm,_,_⟩:=ax_read hnum j h
    have h3:((axT k l M S (p - 1))[j]'h).1.size≤60:=by rw [← hnm];exact (axTxt_sizes j h).1
    exact ⟨h2.1,h2.2.1,h3⟩
   have hAl:(axT k l M S (p - 1)).length=27:=rfl
   have hAX:axL p k l=((axT k l M S (p - 1)).take 18).map rulOf ++ ((axT k l M S (p - 1)).take 18).map mirOf ++ (((axT k l M S (p - 1)).drop 18).take 7).map rulOf ++ (((axT k l M S (p - 1)).drop 24).take 1).map mirOf ++ (if k=0 then [] else ((axT k l M S (p - 1)).drop 25).map rulOf):=by
    unfold axL axN
    rw [HMS.out.1,HMS.out.2]
   have HAX:=Lib.hid hAX
   rw [List.take_of_length_le (by omega)] at hfst
   have hbz:=hst.rp
   clear hst hAX HSZ HMS
   generalize axT k l M S (p - 1)=A at hfst hAl hAt HAX
   clear hnum e1 e2 e3 hm1 hm2 hs1 hs2 hkl hbz
   obtain ⟨g,cr',he,hgc,-,hgb,hgz⟩:=owns_some' hrow.1 (by omega)
   simp only [Value.slice.injEq] at he
   obtain ⟨rfl,-,rfl⟩:=he
   rw [hxl] at hgc
   have hel:∀ j (h:j<xs.length) (h2:j<A.length),xs[j].1=rulOf A[j]:=fun j h h2=>by
    have:=congrArg (fun L=>L[j]?) hfst
    simpa [h,h2] using this
   have HE:=Lib.hid (And.intro hel (And.intro hAt (And.intro hfst (And.intro hAl hrow))))
   have HXL:=Lib.hid hxl
   clear hel hAt hfst hAl
   have hB1:=alloc_below wr (.cells #[] 32)
   have hsrc1:=ru_part (hrow.keep hB1) hxl 0 18 cr (by omega)
   have hin1:=(RuRow.in' (hrow.keep hB1)).part 0 18
   have hl1:((xs.drop 0).take 18).length=18:=by simp;omega
   clear hxl hi h27 i1
   have i1:¬ (27:Int)<27:=by omega
   go_wp2_with (at_builtin;go_must (refine ru_app rfl (.tmp 73) (.tmp 75) rfl (b+1) (.slice (some ⟨wr.heap.size,0,none⟩) 0 0) (.slice (some ⟨g,0,none⟩) 18 cr) [] _ 0 18 rfl hl1 rfl rfl (ru_empty wr _ _ rfl (by omega)) hsrc1 hin1 (by simp) (by simp;omega) (by omega) ?_;intro v2 w2 h2 hg2 hv2))
   have hT2:AxT wr w2 b 18 xs v2 ((xs.drop 0).take 18):=by
    have h0:AxT wr (wr.alloc (.cells #[] 32)) b 0 xs (.slice (some ⟨wr.heap.size,0,none⟩) 0 0) []:=⟨ru_empty wr _ _ rfl (by omega),by simp,hB1,by intro k hk;simp [Value.ownBlock] at hk;omega⟩
    have h1:=h0.put (m:=18) (by omega) h2 hg2 hv2 (fun z hz=>.inl (by simpa using hz))
    exact h1
   have hv2s:=hT2.row.shape
   rw [hl1] at hv2s
   obtain ⟨a2,c2,rfl⟩:=hv2s
   have HF:=Lib.hid (show ((xs.drop 0).take 18).map Prod.fst=(A.take 18).map rulOf ++ (A.take 0).map mirOf by
    rw [List.drop_zero,List.map_take,HE.out.2.2.1,← List.map_take];simp)
   have HT2:=Lib.hid hT2
   have HL1:=Lib.hid hl1
   clear h2 hg2 hv2 hsrc1 hin1 hB1 hT2 hl1
   obtain ⟨w0,hw0⟩:∃ w0,w0=wr:=⟨_,rfl⟩
   subst hw0
   go_loopw [16,80] (fun ov jv w3=>∃ (j:Nat) (ys:List RuV),j≤18∧jv=.int .i64 (j:Int)∧AxT w0 w3 b 18 xs ov ys∧Hid (ys.map Prod.fst=(A.take 18).map rulOf ++ (A.take j).map mirOf)) (fun _ jv _=>18 - (intOf jv).toNat)
   case atStart=>exact ⟨0,_,by omega,rfl,HT2.out,HF⟩
   case round =>
    clear HT2 HF HL1
    obtain ⟨j,ys,hj,rfl,hT,HY⟩:=hrel
    have hyl:ys.length=18+j:=by
     have h1:=congrArg List.length HY.out
     have h2:=HE.out.2.2.2.1
     simp only [List.length_map,List.length_append,List.length_take,h2] at h1
     omega
    obtain ⟨ao,co,rfl⟩:=hT.row.shape
    rw [hyl] at hT ⊢
    have hrow2:=hrow.keep hT.bel
    by_cases h18:j<18
    ·have j1:(j:Int)<18:=by omega
     have j2:IntKind.i64.wrap ((j:Int)+1)=(j:Int)+1:=IntWalk.i64_in _ (by omega)
     have hxl:=HXL.out
     have hal:=HE.out.2.2.2.1
     have hjx:j<xs.length:=by omega
     have hja:j<A.length:=by omega
     have hro:=ru_old (n:=27) (by have h9:=hrow2.1;rw [hxl] at h9;exact h9) j hjx
     obtain ⟨c0,c1,c2',-,-,-⟩:=hro
     have hin:=hrow2.2.1 _ (List.getElem_mem hjx)
     have hee:=HE.out.1 j hjx hja
     obtain ⟨ht1,ht2,ht3⟩:=HE.out.2.1 j hja
     have hta:A.take (j+1)=A.take j ++ [A[j]]:=take_snoc A j hja
     obtain ⟨x,hx⟩:∃ x,xs[j]=x:=⟨_,rfl⟩
     obtain ⟨T,hT9⟩:∃ T,A[j]=T:=⟨_,rfl⟩
     rw [hx] at c0 c1 c2' hin hee
     rw [hT9] at hee ht1 ht2 ht3 hta
     obtain ⟨xr,vl,vr⟩:=x
     simp only at c0 c1 c2' hin hee
     subst hee
     simp only [rulOf] at c0 c1 c2' hin
     have HTA:=Lib.hid hta
     have gz:=cell_lt c0
     obtain ⟨al,cl,rfl⟩:=hin.1.slice
     obtain ⟨arr,crr,rfl⟩:=hin.2.1.slice
     have hB3:=alloc_below wr (.cells #[.string T.1,.slice al T.2.1.nodes.length cl,.slice arr T.2.2.nodes.length crr] 32)
     have hmr:=fun (w':World) (h1:NdsAt w' (.slice al T.2.1.nodes.length cl) T.2.1.nodes) (h2:NdsAt w' (.slice arr T.2.2.nodes.length crr) T.2.2.nodes)=>mirAx_any T.1 _ _ T.2.1 T.2.2 w' h1 h2 ht1 ht2 (by omega)
     have HMR:=Lib.hid hmr
     have HIN:=Lib.hid hin
     have HTT:=Lib.hid hT
     clear hmr hxl hal hjx hja hx hT9 ht1 ht2 hta hin hyl hrow2
     go_wp2_with fail
     refine (HMR.out _ (HIN.out.1.at.keep hB3) (HIN.out.2.1.at.keep hB3)).mono ?_
     rintro e w3 ⟨vl',vr',rfl,⟨ho1,ho2,hap⟩,hb3⟩
     obtain ⟨al',cl',rfl⟩:=ho1.slice
     obtain ⟨ar',cr2,rfl⟩:=ho2.slice
     have hbw3:Below wr.heap.size wr w3:=hB3.trans (hb3.mono hB3.size)
     have hs3:=hbw3.size
     have hB4:=alloc_below w3 (.cells #[.string (bM ++ T.1),.slice al' T.2.1.mir.nodes.length cl',.slice ar' T.2.2.mir.nodes.length cr2] 32)
     have hbw4:=hbw3.trans (hB4.mono hs3)
     have hT4:=HTT.out.keep hbw4
     have hlow1:=HTT.out.bel.size
     obtain ⟨y,hy⟩:∃ y:RuV,y=(mirOf T,.slice al' T.2.1.mir.nodes.length cl',.slice ar' T.2.2.mir.nodes.length cr2):=⟨_,rfl⟩
     have hsrc:SrcAt (w3.alloc (.cells #[.string (bM ++ T.1),.slice al' T.2.1.mir.nodes.length cl',.slice ar' T.2.2.mir.nodes.length cr2] 32)) 3 (.slice (some ⟨w3.heap.size,0,none⟩) 1 1) 1 ([y].flatMap ruCells):=by
      have h:=ru_lit w3 y
      rw [hy] at h ⊢
      exact h
     simp only [World.size_alloc] at ho1 ho2
     have hyn:NdsOwn (w3.alloc (.cells #[.string (bM ++ T.1),.slice al' T.2.1.mir.nodes.length cl',.slice ar' T.2.2.mir.nodes.length cr2] 32)) wr.heap.size y.2.1 y.1.left∧NdsOwn (w3.alloc (.cells #[.string (bM ++ T.1),.slice al' T.2.1.mir.nodes.length cl',.slice ar' T.2.2.mir.nodes.length cr2] 32)) wr.heap.size y.2.2 y.1.right:=by
      rw [hy]
      exact ⟨NdsOwn.keep hB4 (ho1.mono (by omega)),NdsOwn.keep hB4 (ho2.mono (by omega))⟩
     have hyin:RuIn (w3.alloc (.cells #[.string (bM ++ T.1),.slice al' T.2.1.mir.nodes.length cl',.slice ar' T.2.2.mir.nodes.length cr2] 32)) (b+1) [y]:=by
      refine ⟨fun z hz=>?_,List.pairwise_singleton _ _⟩
      simp only [List.mem_singleton] at hz
      subst hz
      exact ⟨hyn.1.mono (by omega),hyn.2.mono (by omega),by rw [hy];exact hap⟩
     have hsep:∀ x ∈ ys,∀ z ∈ [y],RuSep x z:=by
      intro x hx z hz
      simp only [List.mem_singleton] at hz
      subst hz
      have hxo:=HTT.out.row.2.1 x hx
      exact ⟨apart_later hxo.1 hyn.1 (Nat.le_refl _),apart_later hxo.1 hyn.2 (Nat.le_refl _),apart_later hxo.2.1 hyn.1 (Nat.le_refl _),apart_later hxo.2.1 hyn.2 (Nat.le_refl _)⟩
     have hyl:ys.length=18+j:=by
      have h1:=congrArg List.length HY.out
      have h2:=HE.out.2.2.2.1
      simp only [List.length_map,List.length_append,List.length_take,h2] at h1
      omega
     have hy1:y.1=mirOf T:=by rw [hy]
     have HH:=Lib.hid (And.intro hsrc (And.intro hyn (And.intro hyin (And.intro hsep (And.intro hyl (And.intro hT4 hy1))))))
     clear hsrc hyn hyin hsep hyl hT4 hy1 hy ho1 ho2 hap HMR HIN hb3 hbw3 hB3 hT
     go_wp2_with (at_builtin;go_must (refine ru_app rfl (.tmp 84) (.tmp 88) rfl (b+1) (.slice ao (18+j) co) (.slice (some ⟨w3.heap.size,0,none⟩) 1 1) ys [y] (18+j) 1 HH.out.2.2.2.2.1 rfl rfl rfl HH.out.2.2.2.2.2.1.row HH.out.1 HH.out.2.2.1 HH.out.2.2.2.1 ?e1 (by omega) ?_;(case e1=>simp;omega);intro v9 w9 h9 hg9 hv9))
     have hT9:=HH.out.2.2.2.2.2.1.put (m:=18) (Nat.le_refl _) h9 hg9 hv9 (fun z hz=>by
      simp only [List.mem_singleton] at hz
      subst hz
      exact .inr ⟨HH.out.2.1.1.mono hlow1,HH.out.2.1.2.mono hlow1⟩)
     clear h9 hg9 hv9
     go_roundw
     case rel=>exact ⟨j+1,_,by omega,by go_num,hT9,(show _=_ by rw [List.map_append,HY.out,HTA.out,List.map_append,List.map_singleton,List.map_singleton,HH.out.2.2.2.2.2.2,List.append_assoc])⟩
     case measure=>simp [intOf];omega
    ·obtain rfl:j=18:=by omega
     have j1:¬ (18:Int)<18:=by omega
     rw [show 18+18=36 from rfl] at hT ⊢
     replace hyl:ys.length=36:=hyl
     have hxl:=HXL.out
     have hal:=HE.out.2.2.2.1
     have hsrc:=ru_part hrow2 hxl 18 7 (cr - 18) (by omega)
     have hin:=(RuRow.in' hrow2).part 18 7
     have hlen:((xs.drop 18).take 7).length=7:=by simp;omega
     have hsep:=hT.sep (RuRow.in' hrow) 7
     have HH:=Lib.hid (And.intro hsrc (And.intro hin (And.intro hlen (And.intro hsep (And.intro hyl (And.intro hT (And.intro hrow hrow2)))))))
     have hlow1:=hT.bel.size
     obtain ⟨T,al,cl,arr,crr,hT24,ht1,ht2,ht3,hat⟩:=rule_at hrow hxl hal HE.out.1 HE.out.2.1 24 (by omega)
     have HAT:=Lib.hid hat
     have HD1:=Lib.hid (drop_take_one hT24)
     have hmr:=fun (w':World) (h1:NdsAt w' (.slice al T.2.1.nodes.length cl) T.2.1.nodes) (h2:NdsAt w' (.slice arr T.2.2.nodes.length crr) T.2.2.nodes)=>mirAx_any T.1 _ _ T.2.1 T.2.2 w' h1 h2 ht1 ht2 (by omega)
     have HMR:=Lib.hid hmr
     clear hat hT24 hmr ht1 ht2
     clear hsrc hin hlen hsep hyl hT hal hxl hj h18 hrow2
     go_wp2_with (at_builtin;go_must (refine ru_app rfl (.tmp 94) (.tmp 97) rfl (b+1) (.slice ao 36 co) (.slice (some ⟨g,54,none⟩) 7 (cr - 18)) ys ((xs.drop 18).take 7) 36 7 HH.out.2.2.2.2.1 HH.out.2.2.1 rfl rfl HH.out.2.2.2.2.2.1.row HH.out.1 HH.out.2.1 HH.out.2.2.2.1 (by omega) (by omega) ?_;intro v5 w5 h5 hg5 hv5;have hT5:=HH.out.2.2.2.2.2.1.put (m:=25) (by omega) h5 hg5 hv5 (fun z hz=>.inl (mem_part hz));obtain ⟨c0,c1,c2',hn1,hn2⟩:=HAT.out w5 hT5.bel;simp only [Nat.reduceMul,Nat.reduceAdd] at c0 c1 c2';have gz:=cell_lt c0;have HN5:=Lib.hid (And.intro hn1 (And.intro hn2 hT5));clear h5 hg5 hv5 hn1 hn2 hT5))
     refine (HMR.out _ HN5.out.1 HN5.out.2.1).mono ?_
     rintro e w6 ⟨vl',vr',rfl,⟨ho1,ho2,hap⟩,hb6⟩
     obtain ⟨al',cl',rfl⟩:=ho1.slice
     obtain ⟨ar',cr2,rfl⟩:=ho2.slice
     have hB7:=alloc_below w6 (.cells #[.string (bM ++ T.1),.slice al' T.2.1.mir.nodes.length cl',.slice ar' T.2.2.mir.nodes.length cr2] 32)
     have hs6:=hb6.size
     have hb57:=hb6.trans (hB7.mono hs6)
     have hT5:=HN5.out.2.2
     have hT7:=hT5.keep hb57
     have hl5:=hT5.bel.size
     obtain ⟨y,hy⟩:∃ y:RuV,y=(mirOf T,.slice al' T.2.1.mir.nodes.length cl',.slice ar' T.2.2.mir.nodes.length cr2):=⟨_,rfl⟩
     have hsrc:SrcAt (w6.alloc (.cells #[.string (bM ++ T.1),.slice al' T.2.1.mir.nodes.length cl',.slice ar' T.2.2.mir.nodes.length cr2] 32)) 3 (.slice (some ⟨w6.heap.size,0,none⟩) 1 1) 1 ([y].flatMap ruCells):=by
      have h:=ru_lit w6 y
      rw [hy] at h ⊢
      exact h
     have hyn:NdsOwn (w6.alloc (.cells #[.string (bM ++ T.1),.slice al' T.2.1.mir.nodes.length cl',.slice ar' T.2.2.mir.nodes.length cr2] 32)) w5.heap.size y.2.1 y.1.left∧NdsOwn (w6.alloc (.cells #[.string (bM ++ T.1),.slice al' T.2.1.mir.nodes.length cl',.slice ar' T.2.2.mir.nodes.length cr2] 32)) w5.heap.size y.2.2 y.1.right:=by
      rw [hy]
      exact ⟨NdsOwn.keep hB7 ho1,NdsOwn.keep hB7 ho2⟩
     have hyin:RuIn (w6.alloc (.cells #[.string (bM ++ T.1),.slice al' T.2.1.mir.nodes.length cl',.slice ar' T.2.2.mir.nodes.length cr2] 32)) (b+1) [y]:=by
      refine ⟨fun z hz=>?_,List.pairwise_singleton _ _⟩
      simp only [List.mem_singleton] at hz
      subst hz
      exact ⟨hyn.1.mono (by omega),hyn.2.mono (by omega),by rw [hy];exact hap⟩
     have hsep:∀ x ∈ ys ++ (xs.drop 18).take 7,∀ z ∈ [y],RuSep x z:=by
      intro x hx z hz
      simp only [List.mem_singleton] at hz
      subst hz
      have hxo:=hT5.row.2.1 x hx
      exact ⟨apart_later hxo.1 hyn.1 (Nat.le_refl _),apart_later hxo.1 hyn.2 (Nat.le_refl _),apart_later hxo.2.1 hyn.1 (Nat.le_refl _),apart_later hxo.2.1 hyn.2 (Nat.le_refl _)⟩
     have hyl:(ys ++ (xs.drop 18).take 7).length=43:=by rw [List.length_append,HH.out.2.2.2.2.1,HH.out.2.2.1]
     have hy1:y.1=mirOf T:=by rw [hy]
     have hfst:(ys ++ (xs.drop 18).take 7 ++ [y]).map Prod.fst=(A.take 18).map rulOf ++ (A.take 18).map mirOf ++ ((A.drop 18).take 7).map rulOf ++ ((A.drop 24).take 1).map mirOf:=by
      rw [List.map_append,List.map_append,HY.out,HD1.out,List.map_singleton,List.map_singleton,hy1,show ((xs.drop 18).take 7).map Prod.fst=((A.drop 18).take 7).map rulOf by rw [List.map_take,List.map_drop,HE.out.2.2.1,← List.map_drop,← List.map_take]]
     have hA1:∃ av cv,v5=.slice av 43 cv:=by have h9:=hT5.row.shape;rw [hyl] at h9;exact h9
     obtain ⟨av,cv,rfl⟩:=hA1
     have HG:=Lib.hid (And.intro hsrc (And.intro hyn (And.intro hyin (And.intro hsep (And.intro hyl (And.intro hT7 (And.intro hfst hl5)))))))
     clear hsrc hyn hyin hsep hyl hT7 hy1 hy ho1 ho2 hap HMR hT5 hfst hB7 hb57
     have hfit:b+1≤((w6.alloc (.cells #[.string (bM ++ T.1),.slice al' T.2.1.mir.nodes.length cl',.slice ar' T.2.2.mir.nodes.length cr2] 32))).heap.size:=by simp;omega
     by_cases hk0:k=0
     ·have hkb:(k != 0)=false:=by simp [hk0]
      have HK:=Lib.hid hk0
      clear hk0
      go_wp2_with (at_builtin;go_must (refine ru_app rfl (.tmp 99) (.tmp 107) rfl (b+1) (.slice av 43 cv) (.slice (some ⟨w6.heap.size,0,none⟩) 1 1) (ys ++ (xs.drop 18).take 7) [y] 43 1 HG.out.2.2.2.2.1 rfl rfl rfl HG.out.2.2.2.2.2.1.row HG.out.1 HG.out.2.2.1 HG.out.2.2.2.1 hfit (by omega) ?_;intro v8 w8 h8 hg8 hv8))
      go_ret
      have hT8:=HG.out.2.2.2.2.2.1.put (m:=25) (Nat.le_refl _) h8 hg8 hv8 (fun z hz=>by
       simp only [List.mem_singleton] at hz
       subst hz
       exact .inr ⟨HG.out.2.1.1.mono HG.out.2.2.2.2.2.2.2,HG.out.2.1.2.mono HG.out.2.2.2.2.2.2.2⟩)
      refine ⟨v8,_,rfl,?_,hT8.row.mono (by omega),hbel.trans (hT8.bel.mono (by omega))⟩
      rw [HG.out.2.2.2.2.2.2.1,HAX.out,if_pos HK.out,List.append_nil]
     ·have hkb:(k != 0)=true:=by simp [hk0]
      have HK:=Lib.hid hk0
      have hl2:((xs.drop 25).take 2).length=2:=by have:=HXL.out;simp;omega
      have hal:=HE.out.2.2.2.1
      have hd2:((xs.drop 25).take 2).map Prod.fst=(A.drop 25).map rulOf:=by
       rw [List.map_take,List.map_drop,HE.out.2.2.1,← List.map_drop,← List.map_take,List.take_of_length_le (by simp;omega)]
      have HD2:=Lib.hid (And.intro hl2 hd2)
      clear hk0 hl2 hal hd2
      go_wp2_with (first
       | (at_builtin;refine ru_app rfl (.tmp 99) (.tmp 107) rfl (b+1) (.slice av 43 cv) (.slice (some ⟨w6.heap.size,0,none⟩) 1 1) (ys ++ (xs.drop 18).take 7) [y] 43 1 HG.out.2.2.2.2.1 rfl rfl rfl HG.out.2.2.2.2.2.1.row HG.out.1 HG.out.2.2.1 HG.out.2.2.2.1 hfit (by omega) ?_;intro v8 w8 h8 hg8 hv8;have hT8:=HG.out.2.2.2.2.2.1.put (m:=25) (Nat.le_refl _) h8 hg8 hv8 (fun z hz=>by simp only [List.mem_singleton] at hz;subst hz;exact .inr ⟨HG.out.2.1.1.mono HG.out.2.2.2.2.2.2.2,HG.out.2.1.2.mono HG.out.2.2.2.2.2.2.2⟩);have hl8:(ys ++ (xs.drop 18).take 7 ++ [y]).length=44:=by rw [List.length_append,HG.out.2.2.2.2.1];rfl)
       | (at_builtin;go_must (refine ru_app rfl (.tmp 111) (.tmp 114) rfl (b+1) v8 (.slice (some ⟨g,75,none⟩) 2 (cr - 25)) (ys ++ (xs.drop 18).take 7 ++ [y]) ((xs.drop 25).take 2) 44 2 hl8 HD2.out.1 rfl rfl hT8.row (ru_part (hrow.keep hT8.bel) HXL.out 25 2 (cr - 25) (by omega)) ((RuRow.in' (hrow.keep hT8.bel)).part 25 2) (hT8.sep (RuRow.in' hrow) 2) (by have:=hT8.bel.size;omega) (by omega) ?_;intro v9 w9 h9 hg9 hv9)))
      go_ret
      have hT9:=hT8.put (m:=27) (by omega) h9 hg9 hv9 (fun z hz=>.inl (mem_part hz))
      refine ⟨v9,_,rfl,?_,hT9.row.mono (by omega),hbel.trans (hT9.bel.mono (by omega))⟩
      rw [List.map_append,HG.out.2.2.2.2.2.2.1,HAX.out,if_neg HK.out,HD2.out.2]
end Go.Proofs.YtbljmfcifljkaaaGreatDoor
