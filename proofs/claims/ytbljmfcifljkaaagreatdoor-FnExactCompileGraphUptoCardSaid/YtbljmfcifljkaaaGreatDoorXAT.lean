/-
  The edges that an edge needs: slices.Index, slices.Contains, the program's needs. Own work.
-/
import Derived.Test.YtbljmfcifljkaaaGreatDoorXAS
set_option linter.all false
set_option maxRecDepth 100000
set_option maxHeartbeats 8000000
namespace Go.Proofs.YtbljmfcifljkaaaGreatDoor
open Go.RowKit
set_option maxRecDepth 100000
set_option maxHeartbeats 2000000
theorem index_any (v:Value) (zs:List Int) (x:Int) (w:World) (hv:IntsAt w v zs) (hn:zs.length≤1048576) :
  Calls Tryz.prog 153 #[v,.int .i64 x] w fun e w'=>e=.returned (.int .i64 (fiV (fun z=>decide (z=x)) zs))∧w=w':=by
 obtain ⟨a,cap,rfl,hc,hat⟩:=hv
 go_enter Tryz.func153,Tryz.ntmps153
 go_wp2
 go_loopw [8] (fun i wr=>∃ k:Nat,k≤zs.length∧i=.int .i64 k∧wr=w∧∀ j,∀ h:j<zs.length,j<k → (zs[j]'h) ≠ x) (fun i _=>zs.length - (intOf i).toNat)
 case atStart=>exact ⟨0,Nat.zero_le _,rfl,by first|rfl|trivial,fun j h1 h2=>by omega⟩
 case round =>
  obtain ⟨k,hk,rfl,hww,hall⟩:=hrel
  subst hww
  have HALL:=Lib.hid hall
  clear hall
  by_cases hlt:k<zs.length
  ·obtain ⟨b,o,rfl,_,c0⟩:=hat k hlt
   rw [Nat.mul_one] at c0
   have bz:=cell_lt c0
   by_cases hb:zs[k]=x
   ·have HF:=Lib.hid (fiV_hit (p:=fun z=>decide (z=x)) hlt (fun j hj hjk=>by simpa using HALL.out j hj hjk) (by simpa using hb))
    rw [hb] at c0
    clear hb hat
    go_wp2
    go_ret
    exact ⟨by rw [HF.out];rfl,rfl⟩
   ·have HB:=Lib.hid hb
    have hne:(zs[k] == x)=false:=by simp [hb]
    have hne2:(x == zs[k])=false:=by simp only [beq_eq_false_iff_ne,ne_eq];exact fun e=>hb e.symm
    generalize hz:zs[k]=z at c0 hne hne2
    clear hb hat hz
    go_wp2
    go_roundw
    case rel=>exact ⟨k+1,by omega,by go_num,by first|rfl|trivial,fun j h1 h2=>by
     rcases Nat.lt_or_ge j k with h|h
     ·exact HALL.out j h1 h
     ·obtain rfl:j=k:=by omega
      exact HB.out⟩
    case measure=>simp [intOf];omega
  ·obtain rfl:k=zs.length:=by omega
   have HF:=Lib.hid (fiV_miss (p:=fun z=>decide (z=x)) (fun j hj=>by simpa using HALL.out j hj hj))
   clear hat
   go_wp2
   go_ret
   exact ⟨by rw [HF.out];rfl,rfl⟩
theorem contains_any (v:Value) (zs:List Int) (x:Int) (w:World) (hv:IntsAt w v zs) (hn:zs.length≤1048576) :
  Calls Tryz.prog 217 #[v,.int .i64 x] w fun e w'=>e=.returned (.bool (decide (x ∈ zs)))∧w=w':=by
 obtain ⟨a,cap,rfl⟩:=hv.slice
 have HI:=Lib.hid (index_any _ zs x w hv hn)
 have hfa:=fiV_any (fun z=>decide (z=x)) zs
 clear hv
 go_enter Tryz.func217,Tryz.ntmps217
 go_wp2_with fail
 refine HI.out.mono ?_
 rintro e w2 ⟨rfl,rfl⟩
 clear HI
 generalize fiV (fun z=>decide (z=x)) zs=r at hfa
 have HFA:=Lib.hid hfa
 clear hfa
 go_wp2
 go_ret
 refine ⟨?_,rfl⟩
 have h2:decide (x ∈ zs)=zs.any fun z=>decide (z=x):=by
  rw [Bool.eq_iff_iff]
  simp
 rw [h2]
 by_cases h0:0≤r
 ·rw [HFA.out.1 h0];simp [h0]
 ·have:(zs.any fun z=>decide (z=x))=false:=by
   cases h:zs.any fun z=>decide (z=x) with
   | false=>rfl
   | true=>exact absurd (HFA.out.2 h) h0
  rw [this];simp [h0]
theorem gneeds1_any (z:Int) (fb:Nat) (k v:Int) (vi vo:Value) (os:List Int) (w:World) (hk:Bk w fb 189 #[.int .i64 k,.int .i64 v,vi,vo]) (ho:IntsAt w vo os) (hn:os.length≤1048576) :
  Calls Tryz.prog 308 #[.int .i64 z,.pointer (some ⟨fb,0,none⟩)] w fun e w'=>e=.returned (.bool (decide (z ∈ os)))∧w=w':=by
 have c3:=hk.cell.1 3
 have bz:=hk.lt
 simp only [List.getElem?_toArray,List.getElem?_cons_zero,List.getElem?_cons_succ] at c3
 have HC:=Lib.hid (contains_any _ os z w ho hn)
 obtain ⟨oa,oc,rfl⟩:=ho.slice
 clear ho hk
 go_enter Tryz.func308,Tryz.ntmps308
 go_wp2_with fail
 refine HC.out.mono ?_
 rintro e w2 ⟨rfl,rfl⟩
 go_wp2
 go_ret
 exact ⟨rfl,rfl⟩
theorem meet_comm (xs ys:List Int):(ys.any fun w=>decide (w ∈ xs))=meetB xs ys:=by
 unfold meetB
 rw [Bool.eq_iff_iff]
 simp only [List.any_eq_true,decide_eq_true_eq]
 exact ⟨fun ⟨w,h1,h2⟩=>⟨w,h2,h1⟩,fun ⟨w,h1,h2⟩=>⟨w,h2,h1⟩⟩
def ndN (E:List EdI) (e:EdI) (k:Nat):List Int:=((List.range k).filter fun j=>meetB (E.getD j ed0).outs e.ins).map fun i:Nat=>(i:Int)
theorem ndN_yes {E:List EdI} {e:EdI} {k:Nat} (hk:k<E.length) (h:meetB E[k].outs e.ins=true):ndN E e (k+1)=ndN E e k ++ [(k:Int)]:=by
 unfold ndN
 rw [List.range_succ,List.filter_append,List.map_append,List.filter_cons_of_pos (by rw [List.getD_eq_getElem?_getD,List.getElem?_eq_getElem hk];exact h)]
 rfl
theorem ndN_no {E:List EdI} {e:EdI} {k:Nat} (hk:k<E.length) (h:meetB E[k].outs e.ins=false):ndN E e (k+1)=ndN E e k:=by
 unfold ndN
 rw [List.range_succ,List.filter_append,List.map_append,List.filter_cons_of_neg (by rw [List.getD_eq_getElem?_getD,List.getElem?_eq_getElem hk];simp [h])]
 simp
theorem ndN_len (E:List EdI) (e:EdI) (k:Nat):(ndN E e k).length≤k:=by
 unfold ndN
 rw [List.length_map]
 exact Nat.le_trans (List.length_filter_le _ _) (by simp)
def slB (vs:List Value):Prop:=∀ x ∈ vs,∃ a n c,x=.slice a n c
theorem ints_excS {w w':World} {G:Nat} {t:TypeId} {vs:List Value} {v:Value} {zs:List Int} (hG:Bk w G t vs.toArray) (hs:slB vs) (hE:Exc (fun k=>k=G) w w') (h:IntsAt w v zs):IntsAt w' v zs :=
 SlAt.mono h fun j b o ⟨hj,h3⟩=>⟨hj,by
  have hne:¬ b=G:=fun e=>by
   subst e
   rw [(Bk.cell hG).1 o] at h3
   simp only [List.getElem?_toArray] at h3
   obtain ⟨a,n,c,e⟩:=hs _ (List.mem_of_getElem? h3)
   cases e
  exact (hE.cell.1 b o (cell_lt h3) hne).trans h3⟩
structure NsO (w:World) (E:List EdI) (G:Nat) (t:TypeId) (cs:Array Value) (k:Nat) (wr:World) (vs:List Value):Prop where
 len:vs.length=E.length
 bk:Bk wr G 40 vs.toArray
 sl:slB vs
 done:∀ j,∀ h:j<vs.length,∀ h2:j<E.length,j<k → IntsAt wr (vs[j]'h) (ndE1 E (E[j]'h2))
 nil:∀ j,∀ h:j<vs.length,k≤j → vs[j]=.slice none 0 0
 bel:Below w.heap.size w wr
 kg:Bk wr w.heap.size t cs
theorem NsO.keep {w:World} {E:List EdI} {G:Nat} {t:TypeId} {cs:Array Value} {k:Nat} {wr w':World} {vs:List Value} (h:NsO w E G t cs k wr vs) (hb:Below wr.heap.size wr w'):NsO w E G t cs k w' vs :=
 ⟨h.len,h.bk.keep hb,h.sl,fun j h1 h2 h3=>(h.done j h1 h2 h3).keep hb,h.nil,h.bel.trans (hb.mono h.bel.size),h.kg.keep hb⟩
theorem NsO.step {w:World} {E:List EdI} {G:Nat} {t:TypeId} {cs:Array Value} {k:Nat} {wr w':World} {vs:List Value} {u:Value} {H:Nat} (h:NsO w E G t cs k wr vs) (hk:k<E.length) (hx:Exc (fun b=>b=G) wr w') (hu:Rw w' H u (ndE1 E E[k]))
  (hb:Bk w' G 40 (vs.set k u).toArray) (hGw:w.heap.size<G):NsO w E G t cs (k+1) w' (vs.set k u):=by
 have hlen:=h.len
 refine ⟨by rw [List.length_set];exact h.len,hb,fun x hx=>?_,fun j h1 h2 h3=>?_,fun j h1 h2=>?_,h.bel.trans (below_exc hx h.bel.size (fun j hj=>by omega)),h.kg.exc hx (by omega)⟩
 ·rcases List.mem_or_eq_of_mem_set hx with h2|rfl
  ·exact h.sl x h2
  ·obtain ⟨a,c,e⟩:=hu.slice
   exact ⟨a,_,c,e⟩
 ·by_cases e:k=j
  ·subst e
   rw [List.getElem_set_self]
   exact hu.at
  ·rw [List.getElem_set_ne e]
   exact ints_excS h.bk h.sl hx (h.done j (by omega) h2 (by omega))
 ·rw [List.getElem_set_ne (by omega)]
  exact h.nil j (by simpa using h1) (by omega)
theorem gneeds_any (W:Int) (ve vi vo:Value) (E:List EdI) (w:World) (hg:EdsAt w ve E) (hl:E.length≤100) (hok:∀ e ∈ E,e.ins.length≤1000∧e.outs.length≤1000) :
  Calls Tryz.prog 270 #[.agg #[.int .i64 W,ve,vi,vo]] w (NeP (ndE E) w):=by
 obtain ⟨a,cap,rfl,hc,hat⟩:=hg
 obtain ⟨i0,hi,hz0,hz1,hz2⟩:=info_parts infoInts
 have hA:=alloc_below w (.cells #[.int .i64 W,.slice a E.length cap,vi,vo] 53)
 have kC:=Bk.new w 53 #[.int .i64 W,.slice a E.length cap,vi,vo]
 have hzA:(w.alloc (.cells #[.int .i64 W,.slice a E.length cap,vi,vo] 53)).heap.size=w.heap.size+1:=by simp
 go_enter Tryz.func270,Tryz.ntmps270
 go_wp2_with (at_make;refine wpList_make_full _ rfl _ _ _ rfl (w.heap.size+1) 40 i0 _ 1 Tryz.underlying256 hi hz0 hz1 _ _ _ _ E.length rfl rfl rfl rfl (by rw [hz2];omega) (by unfold maxLen;omega) (by simp) ?_;intro w1 hown hgr;have hb1:Below (w.alloc (.cells #[.int .i64 W,.slice a E.length cap,vi,vo] 53)).heap.size (w.alloc (.cells #[.int .i64 W,.slice a E.length cap,vi,vo] 53)) w1:=(Below.refl _ _).grown hgr (Nat.le_refl _) (by simp);have kC1:=kC.keep hb1;have g1:=kC1.cell.1 1;simp only [List.getElem?_toArray,List.getElem?_cons_zero,List.getElem?_cons_succ] at g1;have gz:=kC1.lt)
 have hzm:=made_flat (f:=fun v:Value=>[v]) (.slice none 0 0) E.length (sz:=1) (by omega) rfl
 have hbk:Bk w1 (w.heap.size+1) 40 (List.replicate E.length (.slice none 0 0)).toArray:=by
  rw [hzA] at hown
  rcases hown.2 with ⟨e,_⟩|⟨g',cp,cur,e,hB,hg,h1,h2,h3,h4⟩
  ·simp at e
  ·simp only [Value.slice.injEq,Option.some.injEq,Addr.mk.injEq,and_true,true_and] at e
   obtain ⟨rfl,rfl⟩:=e
   have h5:(List.replicate E.length (Value.slice none 0 0)).flatMap (fun v:Value=>[v])=List.replicate E.length (.slice none 0 0):=by simp
   rw [show Value.cells (.slice none 0 0)=(#[.slice none 0 0]:Array Value) from rfl] at h4
   rw [hzm,h5,List.take_of_length_le (by rw [Array.length_toList,h3];omega)] at h4
   show w1.heap[w.heap.size+1]?=_
   rw [hg,← h4]
 have hB1:Below w.heap.size w w1:=hA.trans (hb1.mono hA.size)
 have hst:NsO w E (w.heap.size+1) 53 #[.int .i64 W,.slice a E.length cap,vi,vo] 0 w1 (List.replicate E.length (.slice none 0 0)):=⟨by simp,hbk,fun x hx=>by rw [List.eq_of_mem_replicate hx];exact ⟨_,_,_,rfl⟩,fun j _ _ h=>by omega,fun j h _=>by simp,hB1,kC1⟩
 clear hown hgr hzm hb1 kC kC1 hi hz0 hz1 hz2 hbk hB1 hA hzA g1 gz
 go_loopw [15] (fun i wr=>∃ k:Nat,k≤E.length∧i=.int .i64 k∧∃ vs,NsO w E (w.heap.size+1) 53 #[.int .i64 W,.slice a E.length cap,vi,vo] k wr vs) (fun i _=>E.length - (intOf i).toNat)
 case atStart=>exact ⟨0,Nat.zero_le _,rfl,_,hst⟩
 case round =>
  clear hst
  obtain ⟨k,hk,rfl,vs,hst⟩:=hrel
  by_cases hlk:k<E.length
  ·have hlen:=hst.len
   obtain ⟨b,o,rfl,_,hed⟩:=hat k hlk
   have hek:=hok _ (List.getElem_mem hlk)
   have hstep:=fun {w' u H}=>hst.step (w':=w') (u:=u) (H:=H) hlk
   obtain ⟨e,hee⟩:∃ e,E[k]=e:=⟨_,rfl⟩
   rw [hee] at hed hek
   obtain ⟨c0,c1,wi,wo,c2,c3,hei,heo⟩:=hed
   replace c0:=cell_keep hst.bel c0
   replace c1:=cell_keep hst.bel c1
   replace c2:=cell_keep hst.bel c2
   replace c3:=cell_keep hst.bel c3
   replace hei:=hei.keep hst.bel
   have bz:=cell_lt c0
   obtain ⟨ia,ic,rfl⟩:=hei.slice
   obtain ⟨oa,oc,rfl⟩:=heo.slice
   have hA2:=alloc_below wr (.cells #[.int .i64 e.kind,.int .i64 e.value,.slice ia e.ins.length ic,.slice oa e.outs.length oc] 189)
   have kE:=Bk.new wr 189 #[.int .i64 e.kind,.int .i64 e.value,.slice ia e.ins.length ic,.slice oa e.outs.length oc]
   have hst2:=hst.keep hA2
   have hei2:=hei.keep hA2
   have g0:=hst.kg.cell.1 1
   have gz:=hst.kg.lt
   have Gz:=hst.bk.lt
   simp only [List.getElem?_toArray,List.getElem?_cons_zero,List.getElem?_cons_succ] at g0
   have HEE:=Lib.hid hee
   have HLEN:=Lib.hid hlen
   clear hst hA2 hei heo hee hlen hstep
   go_wp2_with fail
   have HWZ:=Lib.hid (show wr.heap.size<(wr.alloc (.cells #[.int .i64 e.kind,.int .i64 e.value,.slice ia e.ins.length ic,.slice oa e.outs.length oc] 189)).heap.size by simp)
   generalize (wr.alloc (.cells #[.int .i64 e.kind,.int .i64 e.value,.slice ia e.ins.length ic,.slice oa e.outs.length oc] 189))=Wi at kE hst2 hei2 HWZ ⊢
   have HST:=Lib.hid hst2
   have HGW:=Lib.hid gz
   have HG2:=Lib.hid Gz
   have hnil:=hst2.nil k (by rw [HLEN.out];exact hlk) (Nat.le_refl _)
   have hsn:vs.set k (.slice none 0 0)=vs:=by rw [← hnil];exact List.set_getElem_self _
   have hin0:∃ u,Rw Wi Wi.heap.size u (ndN E e 0)∧Bk Wi (w.heap.size+1) 40 (vs.set k u).toArray∧Exc (fun b=>b=w.heap.size+1) Wi Wi :=
    ⟨.slice none 0 0,World.ownsRow_nil _ _ _ _,by rw [hsn];exact hst2.bk,Exc.refl _ _⟩
   have HIN0:=Lib.hid hin0
   have HKE:=Lib.hid kE
   have HBE:=Lib.hid (show ¬ wr.heap.size=w.heap.size+1 by omega)
   have HEI:=Lib.hid hei2
   have HBEL:=Lib.hid hst2.bel
   have HAT:=Lib.hid hat
   generalize hbe:wr.heap.size=be at *
   clear hst2 hnil hsn hin0 kE hei2 c0 c1 c2 c3 bz g0 gz Gz hat
   clear hbe
   go_loopw [23] (fun i wr=>∃ k2:Nat,k2≤E.length∧i=.int .i64 k2∧∃ u,Rw wr Wi.heap.size u (ndN E e k2)∧Bk wr (w.heap.size+1) 40 (vs.set k u).toArray∧Exc (fun b=>b=w.heap.size+1) Wi wr) (fun i _=>E.length - (intOf i).toNat)
   case atStart=>exact ⟨0,Nat.zero_le _,rfl,HIN0.out⟩
   case round =>
    clear HIN0
    obtain ⟨k2,hk2,rfl,u,hu,hbG,hx⟩:=hrel
    have hBw:Below w.heap.size w wr:=HBEL.out.trans (below_exc hx HBEL.out.size (fun j hj=>by omega))
    by_cases hlk2:k2<E.length
    ·obtain ⟨b2,o2,eab,_,hed⟩:=HAT.out k2 hlk2
     simp only [Option.some.injEq,Addr.mk.injEq,and_true] at eab
     obtain ⟨rfl,rfl⟩:=eab
     have hfk:=hok _ (List.getElem_mem hlk2)
     have hyes:=@ndN_yes E e k2 hlk2
     have hno:=@ndN_no E e k2 hlk2
     have hnl:=ndN_len E e k2
     obtain ⟨f,hff⟩:∃ f,E[k2]=f:=⟨_,rfl⟩
     rw [hff] at hed hfk hyes hno
     obtain ⟨c0,c1,wi2,wo2,c2,c3,hfi,hfo⟩:=hed
     replace c0:=cell_keep hBw c0
     replace c1:=cell_keep hBw c1
     replace c2:=cell_keep hBw c2
     replace c3:=cell_keep hBw c3
     replace hfo:=hfo.keep hBw
     have bz:=cell_lt c0
     obtain ⟨fia,fic,rfl⟩:=hfi.slice
     obtain ⟨foa,foc,rfl⟩:=hfo.slice
     obtain ⟨ua,uc,rfl⟩:=hu.slice
     have hA3:=alloc_below wr (.cells #[.int .i64 f.kind,.int .i64 f.value,.slice fia f.ins.length fic,.slice foa f.outs.length foc] 189)
     have kF:=Bk.new wr 189 #[.int .i64 f.kind,.int .i64 f.value,.slice fia f.ins.length fic,.slice foa f.outs.length foc]
     have hfo2:=hfo.keep hA3
     have hei3:=(ints_excS HST.out.bk HST.out.sl hx HEI.out).keep hA3
     have hu2:=hu.keep hA3
     have hbG2:=hbG.keep hA3
     have hx2:=hx.below hA3
     have hke2:=(HKE.out.exc hx HBE.out).keep hA3
     have e2:=hke2.cell.1 2
     have ez:=hke2.lt
     simp only [List.getElem?_toArray,List.getElem?_cons_zero,List.getElem?_cons_succ] at e2
     have hcf:=containsFunc_any (.slice ia e.ins.length ic) e.ins 308 #[.pointer (some ⟨wr.heap.size,0,none⟩)] (fun z=>decide (z ∈ f.outs)) (wr.alloc (.cells #[.int .i64 f.kind,.int .i64 f.value,.slice fia f.ins.length fic,.slice foa f.outs.length foc] 189)) hei3 (by omega) (fun W z hz hb=>by
      refine (gneeds1_any z wr.heap.size f.kind f.value _ _ f.outs W (kF.keep hb) (hfo2.keep hb) (by omega)).mono ?_
      rintro e w' ⟨rfl,rfl⟩
      exact ⟨rfl,hb⟩) (eg_of Tryz.func308 (by kernel_rfl) rfl)
     rw [meet_comm] at hcf
     clear hfi hfo hu hbG hx kF hA3 hei3 hke2 hfo2
     cases hm:meetB f.outs e.ins with
     | false =>
      rw [hm] at hcf
      have HCF:=Lib.hid hcf
      have HSN:=Lib.hid (hno hm)
      clear hcf hyes hno hm hff
      go_wp2_with fail
      refine HCF.out.mono ?_
      rintro e' w3 ⟨rfl,hb3⟩
      go_wp2
      go_roundw
      case rel=>exact ⟨k2+1,by omega,by go_num,_,by rw [HSN.out];exact hu2.keep hb3,hbG2.keep hb3,hx2.below hb3⟩
      case measure=>simp [intOf];omega
     | true =>
      rw [hm] at hcf
      have HCF:=Lib.hid hcf
      have HSN:=Lib.hid (hyes hm)
      clear hcf hyes hno hm hff
      go_wp2_with fail
      refine HCF.out.mono ?_
      rintro e' w3 ⟨rfl,hb3⟩
      have hu3:=hu2.keep hb3
      have hbG3:=hbG2.keep hb3
      have hx3:=hx2.below hb3
      have y3:w3.cell? ⟨w.heap.size+1,k,none⟩=some (.slice ua (ndN E e k2).length uc):=by
       rw [hbG3.cell.1];simp [HLEN.out,hlk]
      have z3:=hbG3.lt
      have h1:=one_at w3 k2
      have hA4:=alloc_below w3 (.cells #[.int .i64 k2] 3)
      have hu4:=hu3.keep hA4
      have hbG4:=hbG3.keep hA4
      have hx4:=hx3.below hA4
      have hgne:∀ j,(Value.slice ua (ndN E e k2).length uc).ownBlock=some j → Wi.heap.size≤j:=fun j hj=>(World.ownsRow.lt hu4 j hj).1
      clear hu2 hbG2 hx2 hu3 hbG3 hx3 hA4 hb3 c0 c1 c2 c3 bz e2 ez
      go_wp2_with (at_builtin;go_must (refine ints_append h1 rfl (.tmp 37) (.tmp 39) rfl Wi.heap.size _ (ndN E e k2) rfl rfl hu4 hx4.size (by simp only [List.length_singleton];omega) ?_);intro v5 w5 q1 q2 q3;obtain ⟨va,vc,rfl⟩:=q1.slice;have hbG5:=hbG4.grown q2 (fun e=>by have:=hgne _ e;have:=HWZ.out;have:=HG2.out;omega);have f5:=hbG5.cell.2.1 k;have y5:w5.cell? ⟨w.heap.size+1,k,none⟩=some (.slice ua (ndN E e k2).length uc):=(by rw [hbG5.cell.1];simp [HLEN.out,hlk]);have z5:=hbG5.lt)
      have hx5:=hx4.grown q2 (fun j hj=>.inl (hgne j hj))
      have hb6:=hbG5.set k (.slice va (ndN E e k2 ++ [(k2:Int)]).length vc)
      rw [List.setIfInBounds_toArray,List.set_set] at hb6
      have hq6:=q1.setB hbG5 (by decide) k (.slice va (ndN E e k2 ++ [(k2:Int)]).length vc)
      have hx6:=exc_set hx5 (a:=⟨w.heap.size+1,k,none⟩) (.inr rfl) (.slice va (ndN E e k2 ++ [(k2:Int)]).length vc)
      rw [show (ndN E e k2 ++ [(k2:Int)]).length=(ndN E e k2).length+1 by simp] at hb6 hq6 hx6
      go_roundw
      case rel=>exact ⟨k2+1,by omega,by go_num,_,by rw [HSN.out];exact hq6,hb6,hx6⟩
      case measure=>simp [intOf];omega
    ·obtain rfl:k2=E.length:=by omega
     have hfin:=HST.out.step hlk hx (by rw [HEE.out];exact hu) hbG (by omega)
     have HF:=Lib.hid hfin
     clear hfin hx hu hbG hBw
     go_wp2
     go_roundw
     case rel=>exact ⟨k+1,by omega,by go_num,_,HF.out⟩
     case measure=>simp [intOf];omega
  ·obtain rfl:k=E.length:=by omega
   have hres:LsAt wr (.slice (some ⟨w.heap.size+1,0,none⟩) (ndE E).length E.length) (ndE E):=by
    refine ⟨_,_,rfl,by simp [ndE],fun i hi=>⟨_,_,rfl,hi,?_⟩⟩
    have hi2:i<E.length:=by simpa [ndE] using hi
    have hlen:=hst.len
    refine ⟨vs[i],?_,?_⟩
    ·rw [hst.bk.cell.1];simp [hlen,hi2]
    ·have:=hst.done i (by omega) hi2 hi2
     simpa [ndE] using this
   have hel:(ndE E).length=E.length:=by simp [ndE]
   rw [hel] at hres
   have HR:=Lib.hid hres
   have hB:=hst.bel
   clear hat hres hst
   go_wp2
   go_ret
   exact ⟨_,_,by rw [hel];rfl,by rw [hel];exact HR.out,hB⟩
end Go.Proofs.YtbljmfcifljkaaaGreatDoor
/-
  The circuit of a graph: the program's way back to a wire's source. Own work.
-/
namespace Go.Proofs.YtbljmfcifljkaaaGreatDoor
open Go.RowKit
set_option maxRecDepth 100000
set_option maxHeartbeats 2000000
theorem ints_cell {w:World} {a:Option Addr} {n c:Nat} {zs:List Int} (h:IntsAt w (.slice a n c) zs) {i:Nat} (hi:i<zs.length):∃ b o,a=some ⟨b,o,none⟩∧w.cell? ⟨b,o+i,none⟩=some (.int .i64 zs[i]):=by
 obtain ⟨a',c',e,hc,hat⟩:=h
 simp only [Value.slice.injEq] at e
 obtain ⟨rfl,_,rfl⟩:=e
 obtain ⟨b,o,h1,_,h2⟩:=hat i hi
 rw [Nat.mul_one] at h2
 exact ⟨b,o,h1,h2⟩
structure BefL (g:GrI) (bl:List Int):Prop where
 len:bl.length=g.wires.toNat
 pos:∀ i,∀ h:i<g.edges.length,∀ u ∈ g.edges[i].outs,bl[u.toNat]?=some (i:Int)
theorem cfrom_any (g:GrI) (h:CgOk g) (bs be bg:Nat) (sv vb vh ve vi vo:Value) (bl:List Int) (z:Int) (w:World) (h0:0≤z) (hz:z<g.wires) (kS:Bk w bs 40 #[sv]) (hsv:IntsAt w sv (srcL g)) (kB:Bk w be 275 #[vb,vh]) (hvb:IntsAt w vb bl) (hbl:BefL g bl)
  (kG:Bk w bg 53 #[.int .i64 g.wires,ve,vi,vo]) (hE:EdsAt w ve g.edges) (hlE:g.edges.length≤1000) (hlW:g.wires≤1000) :
  Calls Tryz.prog 215 #[.int .i64 z,.pointer (some ⟨bs,0,none⟩),.pointer (some ⟨bg,0,none⟩),.pointer (some ⟨be,0,none⟩)] w fun e w'=>e=.returned (.int .i64 (srcV g z))∧Below w.heap.size w w':=by
 have hsl:=srcL_len g
 obtain ⟨sa,sc,rfl⟩:=hsv.slice
 obtain ⟨ba,bc,rfl⟩:=hvb.slice
 obtain ⟨ea,ec,rfl,hec,heat⟩:=hE
 have s0:=kS.cell.1 0
 have sz:=kS.lt
 have b0:=kB.cell.1 0
 have bz:=kB.lt
 have g1:=kG.cell.1 1
 have gz:=kG.lt
 simp only [List.getElem?_toArray,List.getElem?_cons_zero,List.getElem?_cons_succ] at s0 b0 g1
 have HBACK:=Lib.hid (fun (w:Int)=>@srcV_back g h w)
 have HHERE:=Lib.hid (fun (w:Int)=>@srcV_here g w)
 have HSV:=Lib.hid (fun (i:Nat) (hi:i<(srcL g).length)=>ints_cell hsv hi)
 have HVB:=Lib.hid (fun (i:Nat) (hi:i<bl.length)=>ints_cell hvb hi)
 have HBL:=Lib.hid hbl
 have HAT:=Lib.hid heat
 have HSL:=Lib.hid hsl
 clear hsv hvb hbl kS kB kG heat hsl
 rw [HSL.out] at s0
 rw [HBL.out.len] at b0
 obtain ⟨n,hn⟩:∃ n:Nat,g.wires=n:=⟨g.wires.toNat,by omega⟩
 have hn2:g.wires.toNat=n:=by omega
 rw [hn2] at s0 b0
 have HN:=Lib.hid (And.intro hn hn2)
 have hnle:n≤1000:=by omega
 have hzn:z<n:=by omega
 clear hn hn2 hz
 go_enter Tryz.func215,Tryz.ntmps215
 go_wp2_with fail
 go_loopw [0] (fun x wr=>∃ m:Nat,m<n∧x=.int .i64 m∧srcV g m=srcV g z∧Below w.heap.size w wr) (fun x _=>chaseN (srcL g) g.edges (g.edges.length+1) (intOf x))
 case atStart=>exact ⟨z.toNat,by omega,by rw [show ((z.toNat:Nat):Int)=z by omega],by rw [show ((z.toNat:Nat):Int)=z by omega],Below.refl _ _⟩
 case round =>
  obtain ⟨m,hm,rfl,hsame,hbel⟩:=hrel
  obtain ⟨sb,so,rfl,c0⟩:=HSV.out m (by rw [HSL.out,HN.out.2];exact hm)
  replace c0:=cell_keep hbel c0
  replace s0:=cell_keep hbel s0
  have sz':=cell_lt s0
  have cz:=cell_lt c0
  obtain ⟨S,hS⟩:∃ S,(srcL g)[m]'(by rw [HSL.out,HN.out.2];exact hm)=S:=⟨_,rfl⟩
  have hSd:(srcL g).getD ((m:Int)).toNat (-1)=S:=by rw [Int.toNat_natCast,List.getD_eq_getElem?_getD,List.getElem?_eq_getElem (by rw [HSL.out,HN.out.2];exact hm),← hS];rfl
  rw [hS] at c0
  by_cases hneg:0≤S
  ·have hres:srcV g z=S:=by rw [← hsame,HHERE.out (m:Int) (by rw [hSd];exact hneg),hSd]
   have HR:=Lib.hid hres
   have hno:¬ S<0:=by omega
   clear hsame hSd hS hres
   go_wp2
   go_ret
   exact ⟨by rw [HR.out];rfl,hbel⟩
  ·obtain ⟨i,hi,hw1,hl1,hi0,hi1,hsm,hless⟩:=HBACK.out (m:Int) (by omega) (by rw [HN.out.1];omega) (by rw [hSd];omega)
   have hbi:=HBL.out.pos i hi _ hw1
   rw [Int.toNat_natCast] at hbi
   obtain ⟨bb,bo,rfl,d0⟩:=HVB.out m (by rw [HBL.out.len,HN.out.2];exact hm)
   obtain ⟨hbm,hbe⟩:=List.getElem?_eq_some_iff.1 hbi
   rw [hbe] at d0
   replace d0:=cell_keep hbel d0
   replace b0:=cell_keep hbel b0
   replace g1:=cell_keep hbel g1
   obtain ⟨eb,eo,rfl,_,hed⟩:=HAT.out i hi
   obtain ⟨c0',c1',wi,wo,e2,e3,hei,heo⟩:=hed
   obtain ⟨ia,ic,rfl⟩:=hei.slice
   obtain ⟨ib,io,rfl,f0⟩:=ints_cell hei (i:=0) (by omega)
   replace e2:=cell_keep hbel e2
   replace f0:=cell_keep hbel f0
   have hin:g.edges[i].ins[0]'(by omega)=in0 g.edges[i]:=(getD0 (by omega)).symm
   rw [hin] at f0
   simp only [Nat.add_zero] at f0
   rw [hl1] at e2
   obtain ⟨y,hy⟩:∃ y:Nat,in0 g.edges[i]=y:=⟨(in0 g.edges[i]).toNat,by omega⟩
   rw [hy] at f0 hi0 hi1 hsm hless
   have hyn:y<n:=by rw [HN.out.1] at hi1;omega
   have HSM:=Lib.hid (hsm.trans hsame)
   have HLS:=Lib.hid hless
   have z1:=cell_lt d0
   have z2:=cell_lt b0
   have z3:=cell_lt g1
   have z4:=cell_lt e2
   have z5:=cell_lt f0
   have hyes:S<0:=by omega
   have hielen:(i:Int)<(g.edges.length:Int):=by omega
   clear hsame hSd hS hsm hless hy hin hei heo e3 c0' c1' hbi hbe hw1 hneg hi0 hi1
   go_wp2_with fail
   go_quiet (fail)
   have hq:=fun nq=>below_drewN hbel nq
   go_wp2_with fail
   have hb2:=hq nq
   go_roundw
   case rel=>exact ⟨y,hyn,rfl,HSM.out,hb2⟩
   case measure=>exact HLS.out
end Go.Proofs.YtbljmfcifljkaaaGreatDoor
