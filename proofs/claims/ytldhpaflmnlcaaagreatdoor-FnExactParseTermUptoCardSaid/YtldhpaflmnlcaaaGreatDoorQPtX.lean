/-
  Declarations that the merged groups of the journals leave out. (Printed by xtr.py.) Own work.
-/
import Derived.Test.YtldhpaflmnlcaaaGreatDoorQM
import Derived.Test.YtldhpaflmnlcaaaGreatDoorQC
import Derived.Test.YtldhpaflmnlcaaaGreatDoorQA
set_option linter.all false
set_option maxRecDepth 100000
set_option maxHeartbeats 8000000
namespace Go.Proofs.YtldhpaflmnlcaaaGreatDoor
open Go.RowKit
theorem owns_block_ne {w:World} {B B' e e' sz sz':Nat} {v:Value} {g cap:Nat} {n n':Nat} {xs xs':List Value} (h:w.ownsRow B e sz v n xs) (h':w.ownsRow B' e' sz' (.slice (some ⟨g,0,none⟩) n' cap) n' xs') (he:e ≠ e'):v.ownBlock ≠ some g :=
 fun hk=>owns_ne h h' he g hk rfl
theorem set4 {α:Type} {f:α → List Value} {w:World} {B e g n cap:Nat} {xs:List α} (hf:∀ x,(f x).length=4)
  (h:w.ownsRow B e 4 (.slice (some ⟨g,0,none⟩) n cap) n (xs.flatMap f)) (i:Nat) (hi:i<xs.length) (a b c d:Value) (y:α) (hy:f y=[a,b,c,d]) :
  ((((w.setCell ⟨g,i * 4,none⟩ a).setCell ⟨g,i * 4+1,none⟩ b).setCell ⟨g,i * 4+2,none⟩ c).setCell ⟨g,i * 4+3,none⟩ d).ownsRow B e 4 (.slice (some ⟨g,0,none⟩) n cap) n ((xs.set i y).flatMap f):=by
 have hcat:∀ (l:List α) (j:Nat) (hj:j<l.length),l.flatMap f=(l.take j).flatMap f ++ f l[j] ++ (l.drop (j+1)).flatMap f:=by
  intro l j hj
  conv=>lhs;rw [← List.take_append_drop j l]
  rw [List.flatMap_append,List.append_assoc,List.drop_eq_getElem_cons hj,List.flatMap_cons]
 have hl:((xs.take i).flatMap f).length=i * 4:=by rw [flat_length hf,List.length_take];congr 1;omega
 have hset:((((xs.flatMap f).set (i * 4) a).set (i * 4+1) b).set (i * 4+2) c).set (i * 4+3) d=(xs.set i y).flatMap f:=by
  rw [hcat xs i hi,hcat (xs.set i y) i (by simpa using hi)]
  have hx:=hf xs[i]
  simp only [List.take_set_of_le (Nat.le_refl i),List.getElem_set_self,hy,List.drop_set_of_lt (Nat.lt_succ_self i)]
  match hxx:f xs[i],hx with
  | [p,q,r,s],_ =>
   rw [List.append_assoc]
   rw [List.set_append_right _ _ (by omega),hl,Nat.sub_self]
   rw [List.set_append_right _ _ (by omega),hl,Nat.add_sub_cancel_left]
   rw [List.set_append_right _ _ (by omega),hl,Nat.add_sub_cancel_left]
   rw [List.set_append_right _ _ (by omega),hl,Nat.add_sub_cancel_left]
   simp
 have h1:=(h.stored (i * 4) a).1
 have h2:=(h1.stored (i * 4+1) b).1
 have h3:=(h2.stored (i * 4+2) c).1
 have h4:=(h3.stored (i * 4+3) d).1
 rw [hset] at h4
 exact h4
theorem toDef_any (v:Value) (d:Df) (w:World) (hv:NdsAt w v d.body) (hn:d.body.length≤1048576) :
  Calls Tryz.prog 67 #[.agg #[.string d.name,.int .i64 d.inn,.int .i64 d.out,v]] w fun e w' =>
   ∃ v',e=.returned (.agg #[.string d.name,.int .i64 d.inn,.int .i64 d.out,v'])∧NdsOwn w' w.heap.size v' d.body∧Below w.heap.size w w':=by
 obtain ⟨a,cap,rfl⟩:=hv.slice
 go_enter Tryz.func67,Tryz.ntmps67
 go_wp2_with (go_at_call 83;refine (toTerm_any _ d.body _ (hv.keep ((((Below.refl _ _).alloc (Nat.le_refl _) _).alloc (by simp) _).alloc (by simp;omega) _)) hn).mono ?_;rintro e w2 ⟨v',rfl,hown,hb2⟩;obtain ⟨a',cap',rfl⟩:=hown.slice;obtain ⟨hc2,hf2,hs2⟩:=bcell hb2;simp only [World.size_alloc] at hs2 hown hb2)
 refine bodyPost_ret (v:=.agg #[.string d.name,.int .i64 d.inn,.int .i64 d.out,.slice a' d.body.length cap']) (by simp [results,Tryz.results67,go_sem,hc2]) rfl ⟨_,rfl,?_,?_⟩
 ·refine NdsOwn.mono (B:=w.heap.size+1+1+1) (by omega) ?_
  repeat (with_reducible refine NdsOwn.setLow ?_ ?_ _;rotate_left;· (show _<_;simp only [];omega))
  exact hown
 ·repeat (with_reducible refine Below.setCell ?_ ?_ _;rotate_left;· (simp <;> omega))
  refine Below.trans ?_ (Below.mono hb2 ?_)
  ·repeat (first|exact Below.refl _ _|refine Below.alloc ?_ (by simp <;> omega) _)
  ·(try simp only [World.size_alloc]);omega
def dfz:Df × Value:=(⟨⟨#[]⟩,0,0,[]⟩,.slice none 0 0)
def ToDefS (w wr:World) (B g:Nat) (L:List Df) (k:Nat):Prop :=
 ∃ ys:List (Df × Value),ys.map Prod.fst=L.take k∧wr.ownsRow B 28 4 (.slice (some ⟨g,0,none⟩) L.length L.length) L.length ((ys ++ List.replicate (L.length - k) dfz).flatMap dfCells) ∧
  (∀ x ∈ ys,NdsOwn wr B x.2 x.1.body)∧(ys.Pairwise fun x y=>Apart x.2 y.2)∧g<wr.heap.size∧B≤g∧Below B w wr
theorem toDefS_step {w wr w2:World} {B g:Nat} {L:List Df} {k:Nat} (h:ToDefS w wr B g L k) (hk:k<L.length) (hb2:Below wr.heap.size wr w2) {v:Value} (hv:NdsOwn w2 wr.heap.size v L[k].body) :
  ToDefS w ((((w2.setCell ⟨g,k * 4,none⟩ (.string L[k].name)).setCell ⟨g,k * 4+1,none⟩ (.int .i64 L[k].inn)).setCell ⟨g,k * 4+2,none⟩ (.int .i64 L[k].out)).setCell ⟨g,k * 4+3,none⟩ v) B g L (k+1):=by
 obtain ⟨ys,h1,h2,h3,h4,h5,h6,h7⟩:=h
 have hlen:ys.length=k:=by have:=congrArg List.length h1;simpa [Nat.min_eq_left (Nat.le_of_lt hk)] using this
 have h2':=owns_keep hb2 h2
 have hsz:=hb2.size
 have hB:B≤wr.heap.size:=by omega
 refine ⟨ys ++ [(L[k],v)],?_,?_,?_,?_,?_,h6,?_⟩
 ·rw [List.map_append,h1,List.take_succ_eq_append_getElem hk];rfl
 ·have:=set4 dfCells_len h2' k (by simp;omega) (.string L[k].name) (.int .i64 L[k].inn) (.int .i64 L[k].out) v (L[k],v) rfl
  have e:(ys ++ List.replicate (L.length - k) dfz).set k (L[k],v)=ys ++ [(L[k],v)] ++ List.replicate (L.length - (k+1)) dfz:=by
   rw [List.set_append_right _ _ (by omega),hlen,Nat.sub_self]
   obtain ⟨m,hm⟩:∃ m,L.length - k=m+1:=⟨L.length - k - 1,by omega⟩
   rw [hm,show L.length - (k+1)=m from by omega,List.replicate_succ,List.set_cons_zero,List.append_assoc]
   rfl
  rw [e] at this
  exact this
 ·have key:∀ (x:Value) (ns:List Nd),NdsOwn w2 B x ns → NdsOwn ((((w2.setCell ⟨g,k * 4,none⟩ (.string L[k].name)).setCell ⟨g,k * 4+1,none⟩ (.int .i64 L[k].inn)).setCell ⟨g,k * 4+2,none⟩ (.int .i64 L[k].out)).setCell ⟨g,k * 4+3,none⟩ v) B x ns:=by
   intro x ns hx
   have hne:x.ownBlock ≠ some g:=owns_block_ne hx h2' (by decide)
   exact owns_other (owns_other (owns_other (owns_other hx _ _ hne) _ _ hne) _ _ hne) _ _ hne
  intro x hx
  rcases List.mem_append.1 hx with hx|hx
  ·exact key _ _ ((h3 x hx).keep hb2)
  ·simp at hx;subst hx;exact key _ _ (hv.mono hB)
 ·exact pairwise_snoc h4 fun y hy=>apart_later (h3 y hy) hv (Nat.le_refl _)
 ·simp;omega
 ·exact ((((h7.trans (hb2.mono hB)).setCell h6 _).setCell h6 _).setCell h6 _).setCell h6 _
theorem toDefS_old {w wr w2:World} {B g:Nat} {L:List Df} {k:Nat} (h:ToDefS w wr B g L k) (hk:k<L.length) (hb2:Below wr.heap.size wr w2) :
  ∃ (x:ByteArray) (y z:Int) (u:Option Addr),w2.cell? ⟨g,k * 4,none⟩=some (.string x)∧w2.cell? ⟨g,k * 4+1,none⟩=some (.int .i64 y)∧w2.cell? ⟨g,k * 4+2,none⟩=some (.int .i64 z)∧w2.cell? ⟨g,k * 4+3,none⟩=some (.slice u 0 0) ∧
   w2.frozen? ⟨g,k * 4,none⟩=false∧w2.frozen? ⟨g,k * 4+1,none⟩=false∧w2.frozen? ⟨g,k * 4+2,none⟩=false∧w2.frozen? ⟨g,k * 4+3,none⟩=false:=by
 obtain ⟨ys,h1,h2,_⟩:=h
 have hlen:ys.length=k:=by have:=congrArg List.length h1;simpa [Nat.min_eq_left (Nat.le_of_lt hk)] using this
 have hll:k<(ys ++ List.replicate (L.length - k) dfz).length:=by simp;omega
 have hx:(ys ++ List.replicate (L.length - k) dfz)[k]=dfz:=by rw [List.getElem_append_right (by omega)];simp
 have:=df_old (owns_keep hb2 h2) k hll
 rw [hx] at this
 exact ⟨_,_,_,_,this⟩
theorem toDefS_end {w wr:World} {B g:Nat} {L:List Df} (h:ToDefS w wr B g L L.length):DfsOwn wr B (.slice (some ⟨g,0,none⟩) L.length L.length) L∧Below B w wr:=by
 obtain ⟨ys,h1,h2,h3,h4,h5,h6,h7⟩:=h
 rw [List.take_length] at h1
 refine ⟨⟨ys,h1,?_,h3,h4⟩,h7⟩
 have hl:ys.length=L.length:=by rw [← h1,List.length_map]
 rw [hl]
 simpa using h2
theorem toDefS_start {w w1:World} {L:List Df} (hown:w1.ownsRow w.heap.size 28 4 (Value.slice (some { block:=w.heap.size,off:=0 }) L.length L.length) L.length (madeCells (Value.agg #[.string ⟨#[]⟩,.int .i64 0,.int .i64 0,.slice none 0 0]).cells (L.length * 4)).toList) (hgr:w.grownBy w1 none):ToDefS w w1 w.heap.size w.heap.size L 0:=by
 have hz:=made_flat (f:=dfCells) dfz L.length (sz:=4) (by omega) rfl
 refine ⟨[],by simp,?_,by simp,List.Pairwise.nil,(hown.lt w.heap.size rfl).2,Nat.le_refl _,(Below.refl _ _).grown hgr (Nat.le_refl _) (by simp)⟩
 simp only [List.nil_append,Nat.sub_zero];rw [← hz];exact hown
theorem toDefS_any (v:Value) (L:List Df) (w:World) (hv:DfsAt w v L) (hn:L.length≤1048576) (hb:∀ d ∈ L,d.body.length≤1048576) :
  Calls Tryz.prog 18 #[v] w fun e w'=>∃ v',e=.returned v'∧DfsOwn w' w.heap.size v' L∧Below w.heap.size w w':=by
 obtain ⟨a,cap,rfl,hc,hat⟩:=hv
 obtain ⟨i0,hi,hz0,hz1,hz2⟩:=info_parts info28
 go_enter Tryz.func18,Tryz.ntmps18
 go_wp2_with (at_make;refine wpList_make_full _ rfl _ _ _ rfl w.heap.size 28 i0 _ 4 Tryz.underlying31 hi hz0 hz1 _ _ _ _ L.length rfl rfl rfl rfl (by rw [hz2];omega) (by unfold maxLen;omega) (Nat.le_refl _) ?_;intro w1 hown hgr)
 have hst:=toDefS_start hown hgr
 clear hown hgr hi hz0 hz1 hz2
 go_loopw [4] (fun i wr=>∃ k:Nat,k≤L.length∧i=.int .i64 k∧ToDefS w wr w.heap.size w.heap.size L k) (fun i _=>L.length - (intOf i).toNat)
 case atStart=>exact ⟨0,Nat.zero_le _,rfl,hst⟩
 case round =>
  obtain ⟨k,hk,rfl,hst⟩:=hrel
  by_cases hlt:k<L.length
  ·obtain ⟨b,o,rfl,_,hnd⟩:=hat k hlt
   obtain ⟨c0,c1,c2,v,c3,hv⟩:=hnd.keep hst.choose_spec.2.2.2.2.2.2
   obtain ⟨va,vc,rfl⟩:=hv.slice
   have hbk:=hb L[k] (List.getElem_mem _)
   clear hat hnd hb
   go_wp2_with (go_at_call 67;refine (toDef_any _ L[k] _ hv hbk).mono ?_;rintro e w2 ⟨v',rfl,hown',hb2⟩;obtain ⟨va',vc',rfl⟩:=hown'.slice;obtain ⟨x,y,z,u,d0,d1,d2,d3,f0,f1,f2,f3⟩:=toDefS_old hst hlt hb2)
   have hst3:=toDefS_step hst hlt hb2 hown'
   go_roundw
   case rel=>exact ⟨k+1,by omega,by go_num,hst3⟩
   case measure=>simp [intOf];omega
  ·go_wp2
   go_ret
   have hkk:k=L.length:=by omega
   subst hkk
   exact ⟨_,rfl,toDefS_end hst⟩
theorem szDef_any (v:Value) (d:Df) (left:Int) (w:World) (hv:NdsAt w v d.body) (hok:DfOk d) (h0:0≤left) (h1:left≤1048576) :
  Calls Tryz.prog 64 #[.agg #[.string d.name,.int .i64 d.inn,.int .i64 d.out,v],.int .i64 left] w (SzPost left w):=by
 obtain ⟨a,cap,rfl⟩:=hv.slice
 obtain ⟨hs,hok⟩:=hok
 go_enter Tryz.func64,Tryz.ntmps64
 go_wp2_with (go_at_call 81;refine (szTerm_any _ d.body _ _ (hv.keep ((Below.refl _ _).alloc (Nat.le_refl _) _)) hok (by omega) (by omega)).mono ?_;rintro e w' ⟨r',rfl,q0,q1,hb2⟩)
 ·go_ret
  exact ⟨_,rfl,by omega,by omega,((Below.refl _ _).alloc (Nat.le_refl _) _)⟩
 all_goals
  go_ret
  exact ⟨_,rfl,by omega,by omega,((Below.refl _ _).alloc (Nat.le_refl _) _).trans (hb2.mono (by simp))⟩
theorem szDefS_any (v:Value) (L:List Df) (left:Int) (w:World) (hv:DfsAt w v L) (hs:∀ d ∈ L,DfOk d) (hn:L.length≤1048576) (h0:0≤left) (h1:left≤1048576) :
  Calls Tryz.prog 16 #[v,.int .i64 left] w (SzPost left w):=by
 obtain ⟨a,cap,rfl,hc,hat⟩:=hv
 go_enter Tryz.func16,Tryz.ntmps16
 go_wp2
 ·go_ret
  exact ⟨_,rfl,by omega,by omega,Below.refl _ _⟩
 ·go_loopw [1,5] (fun l i wr=>∃ (k:Nat) (r:Int),k≤L.length∧i=.int .i64 k∧l=.int .i64 r∧0≤r∧r≤left∧Below w.heap.size w wr) (fun _ i _=>L.length - (intOf i).toNat)
  case atStart=>exact ⟨0,_,Nat.zero_le _,rfl,rfl,by omega,by omega,Below.refl _ _⟩
  case round =>
   obtain ⟨k,r,hk,rfl,rfl,hr0,hr1,hbel⟩:=hrel
   by_cases hlt:k<L.length
   ·obtain ⟨b,o,rfl,_,hnd⟩:=hat k hlt
    have hnd':=hnd.keep hbel
    obtain ⟨c0,c1,c2,v,c3,hv⟩:=hnd'
    obtain ⟨va,vc,rfl⟩:=hv.slice
    have hsz:=hs L[k] (List.getElem_mem _)
    clear hat hnd hs
    go_wp2_with (go_at_call 64;refine (szDef_any _ L[k] _ _ hv hsz (by omega) (by omega)).mono ?_;rintro e w' ⟨r',rfl,q0,q1,hb2⟩)
    ·go_ret
     exact ⟨_,rfl,by omega,by omega,hbel.trans (hb2.mono (by have:=hbel.size;omega))⟩
    ·go_roundw
     case rel=>exact ⟨k+1,_,by omega,by go_num,rfl,by omega,by omega,hbel.trans (hb2.mono (by have:=hbel.size;omega))⟩
     case measure=>simp [intOf];omega
   ·go_wp2
    go_ret
    exact ⟨_,rfl,by omega,by omega,hbel⟩
theorem markTerm_any (v:Value) (ns:List Nd) (k:Int) (B:Nat) (w:World) (hv:NdsOwn w B v ns) (hn:ns.length≤1048576) (h0:0≤k) (h1:k≤8388608) :
  Calls Tryz.prog 31 #[.agg #[v],.int .i64 k] w fun e w'=>e=.returned (.int .i64 (k+3 * ns.length))∧NdsOwn w' B v (mkNds ns.length k)∧Exc (Own1 v) w w':=by
 obtain ⟨a,cap,rfl⟩:=hv.slice
 go_enter Tryz.func31,Tryz.ntmps31
 go_wp2_with (go_at_call 73;refine (markNodeS_any _ ns _ B _ (hv.keep (alloc_below _ _)) hn h0 h1).mono ?_;rintro e w2 ⟨rfl,hown,hex⟩)
 go_ret
 exact ⟨rfl,hown,(Below.exc (alloc_below _ _)).trans hex⟩
theorem heldTerm_any (v:Value) (n:Nat) (k:Int) (w:World) (hv:NdsAt w v (mkNds n k)) (hn:n≤1048576) (h0:0≤k) (h1:k≤8388608) :
  Calls Tryz.prog 32 #[.agg #[v],.int .i64 k] w fun e w'=>e=.returned (.int .i64 (k+3 * n))∧Below w.heap.size w w':=by
 obtain ⟨a,cap,rfl⟩:=hv.slice
 have hp:¬ (k+3 * (n:Int)<0):=by omega
 go_enter Tryz.func32,Tryz.ntmps32
 go_wp2_with (go_at_call 76;refine (heldNodeS_any _ n _ _ (hv.keep (alloc_below _ _)) hn h0 h1).mono ?_;rintro e w2 ⟨rfl,hb2⟩)
 go_ret
 exact ⟨rfl,(alloc_below _ _).trans (hb2.mono (by simp))⟩
end Go.Proofs.YtldhpaflmnlcaaaGreatDoor
