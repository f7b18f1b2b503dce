/-
  The laws' copies of their arguments: new memory that reads as the argument does. Own work.
-/
import Derived.Test.YtldhpaflmnlcaaaGreatDoorProg
import Derived.Test.YtldhpaflmnlcaaaGreatDoorQA
import Derived.WalkLawsBesides
import Derived.WalkSpells
import Derived.Test.YtldhpaflmnlcaaaGreatDoorQB
import Derived.StillTailTactics
import Derived.WideShapes
import Derived.Deep.QuietTactic
import Derived.BigQuiet
import Derived.Deep.RegionWith
import Derived.Laws.IdiomStrings
set_option linter.all false
namespace Go.Proofs.YtldhpaflmnlcaaaGreatDoor
open Go.RowKit
theorem toNode_any (d:Nd) (w:World) :
  Calls Tryz.prog 182 #[.agg #[.int .i64 d.kind,.int .i64 d.value,.string d.name]] w fun e w'=>e = .returned (.agg #[.int .i64 d.kind,.int .i64 d.value,.string d.name])∧Below w.heap.size w w':=by
 go_enter Tryz.func182,Tryz.ntmps182
 go_wp2
 refine bodyPost_ret (v:=.agg #[.int .i64 d.kind,.int .i64 d.value,.string d.name]) (by simp [results,Tryz.results182,go_sem]) rfl ⟨rfl,?_⟩
 exact (((Below.refl _ _).alloc (Nat.le_refl _) _).alloc (by simp) _).alloc (by simp;omega) _
theorem info170:(Tryz.prog.info? 170).map (fun i=>(i.zero,i.size,i.bytes)) = some (some (.agg #[.int .i64 0,.int .i64 0,.string ⟨#[]⟩]),3,32):=by kernel_rfl
theorem info28:(Tryz.prog.info? 28).map (fun i=>(i.zero,i.size,i.bytes)) = some (some (.agg #[.string ⟨#[]⟩,.int .i64 0,.int .i64 0,.slice none 0 0]),4,56):=by kernel_rfl
theorem info54:(Tryz.prog.info? 54).map (fun i=>(i.zero,i.size,i.bytes)) = some (some (.agg #[.int .i64 0,.string ⟨#[]⟩,.string ⟨#[]⟩,.slice none 0 0]),4,64):=by kernel_rfl
def nd0:Nd:=⟨0,0,⟨#[]⟩⟩
theorem toNodeS_any (v:Value) (ns:List Nd) (w:World) (hv:NdsAt w v ns) (hn:ns.length≤1048576) :
  Calls Tryz.prog 125 #[v] w fun e w'=>∃ v',e = .returned v'∧NdsOwn w' w.heap.size v' ns∧Below w.heap.size w w':=by
 obtain ⟨a,cap,rfl,hc,hat⟩:=hv
 obtain ⟨i0,hi,hz0,hz1,hz2⟩:=info_parts info170
 go_enter Tryz.func125,Tryz.ntmps125
 go_wp2_with (at_make;refine wpList_make_full _ rfl _ _ _ rfl w.heap.size 170 i0 _ 3 Tryz.underlying24 hi hz0 hz1 _ _ _ _ ns.length rfl rfl rfl rfl (by rw [hz2];omega) (by unfold maxLen;omega) (Nat.le_refl _) ?_;intro w1 hown hgr)
 have hz:=made_flat (f:=ndCells) nd0 ns.length (sz:=3) (by omega) rfl
 have hown0:w1.ownsRow w.heap.size 170 3 (Value.slice (some { block:=w.heap.size,off:=0 }) ns.length ns.length) ns.length ((ns.take 0 ++ List.replicate (ns.length - 0) nd0).flatMap ndCells):=by
  simp only [List.take_zero,List.nil_append,Nat.sub_zero];rw [← hz];exact hown
 have hlt:w.heap.size < w1.heap.size:=(hown.lt w.heap.size rfl).2
 have hb1:Below w.heap.size w w1:=(Below.refl _ _).grown hgr (Nat.le_refl _) (by simp)
 clear hown hz hgr
 go_loopw [4] (fun i wr=>∃ k:Nat,k≤ns.length∧i = .int .i64 k∧wr.ownsRow w.heap.size 170 3 (Value.slice (some { block:=w.heap.size,off:=0 }) ns.length ns.length) ns.length ((ns.take k ++ List.replicate (ns.length - k) nd0).flatMap ndCells)∧w.heap.size < wr.heap.size∧Below w.heap.size w wr) (fun i _=>ns.length - (intOf i).toNat)
 case atStart=>exact ⟨0,Nat.zero_le _,rfl,hown0,hlt,hb1⟩
 case round =>
  obtain ⟨k,hk,rfl,hown,hsz,hbel⟩:=hrel
  clear hown0 hlt hb1
  by_cases hlt:k < ns.length
  ·obtain ⟨b,o,rfl,_,hnd⟩:=hat k hlt
   obtain ⟨c0,c1,c2⟩:=hnd.keep hbel
   have hll:(ns.take k ++ List.replicate (ns.length - k) nd0).length = ns.length:=by simp;omega
   clear hat hnd
   go_wp2_with (go_at_call 182;refine (toNode_any ns[k] _).mono ?_;rintro e w2 ⟨rfl,hb2⟩;have hown2:=owns_keep hb2 hown;obtain ⟨x,y,z,d0,d1,d2,f0,f1,f2⟩:=nds_old hown2 k (by rw [hll];exact hlt))
   have hown3:=nds_set hown2 k (by rw [hll];exact hlt) ns[k]
   rw [take_set ns nd0 k hlt] at hown3
   have hs2:=hb2.size
   go_roundw
   case rel=>exact ⟨k+1,by omega,by go_num,hown3,by simp;omega,(((hbel.trans (hb2.mono (by omega))).setCell (Nat.le_refl _) _).setCell (Nat.le_refl _) _).setCell (Nat.le_refl _) _⟩
   case measure=>simp [intOf];omega
  ·go_wp2
   go_ret
   have hkk:k = ns.length:=by omega
   subst hkk
   refine ⟨_,rfl,?_,hbel⟩
   simpa [NdsOwn] using hown
theorem NdsOwn.setLow {w:World} {B:Nat} {v:Value} {ns:List Nd} (h:NdsOwn w B v ns) {a:Addr} (ha:a.block < B) (u:Value):NdsOwn (w.setCell a u) B v ns:=ownsRow_setCell_below h ha u
theorem toTerm_any (v:Value) (ns:List Nd) (w:World) (hv:NdsAt w v ns) (hn:ns.length≤1048576) :
  Calls Tryz.prog 83 #[.agg #[v]] w fun e w'=>∃ v',e = .returned (.agg #[v'])∧NdsOwn w' w.heap.size v' ns∧Below w.heap.size w w':=by
 obtain ⟨a,cap,rfl⟩:=hv.slice
 go_enter Tryz.func83,Tryz.ntmps83
 go_wp2_with (go_at_call 125;refine (toNodeS_any _ ns _ (hv.keep ((((Below.refl _ _).alloc (Nat.le_refl _) _).alloc (by simp) _).alloc (by simp;omega) _)) hn).mono ?_;rintro e w2 ⟨v',rfl,hown,hb2⟩;obtain ⟨a',cap',rfl⟩:=hown.slice;obtain ⟨hc2,hf2,hs2⟩:=bcell hb2;simp only [World.size_alloc] at hs2 hown hb2)
 refine bodyPost_ret (v:=.agg #[.slice a' ns.length cap']) (by simp [results,Tryz.results83,go_sem,hc2]) rfl ⟨_,rfl,?_,?_⟩
 ·exact ((hown.setLow (by simp) _).setLow (by simp) _).mono (by omega)
 ·exact ((((((Below.refl _ _).alloc (Nat.le_refl _) _).alloc (by simp) _).alloc (by simp;omega) _).trans (hb2.mono (by omega))).setCell (by simp;omega) _).setCell (by simp) _
theorem toDef_any (v:Value) (d:Df) (w:World) (hv:NdsAt w v d.body) (hn:d.body.length≤1048576) :
  Calls Tryz.prog 67 #[.agg #[.string d.name,.int .i64 d.inn,.int .i64 d.out,v]] w fun e w' =>
   ∃ v',e = .returned (.agg #[.string d.name,.int .i64 d.inn,.int .i64 d.out,v'])∧NdsOwn w' w.heap.size v' d.body∧Below w.heap.size w w':=by
 obtain ⟨a,cap,rfl⟩:=hv.slice
 go_enter Tryz.func67,Tryz.ntmps67
 go_wp2_with (go_at_call 83;refine (toTerm_any _ d.body _ (hv.keep ((((Below.refl _ _).alloc (Nat.le_refl _) _).alloc (by simp) _).alloc (by simp;omega) _)) hn).mono ?_;rintro e w2 ⟨v',rfl,hown,hb2⟩;obtain ⟨a',cap',rfl⟩:=hown.slice;obtain ⟨hc2,hf2,hs2⟩:=bcell hb2;simp only [World.size_alloc] at hs2 hown hb2)
 refine bodyPost_ret (v:=.agg #[.string d.name,.int .i64 d.inn,.int .i64 d.out,.slice a' d.body.length cap']) (by simp [results,Tryz.results67,go_sem,hc2]) rfl ⟨_,rfl,?_,?_⟩
 ·refine NdsOwn.mono (B:=w.heap.size+1+1+1) (by omega) ?_
  repeat (with_reducible refine NdsOwn.setLow ?_ ?_ _;rotate_left;· (show _ < _;simp only [];omega))
  exact hown
 ·repeat (with_reducible refine Below.setCell ?_ ?_ _;rotate_left;· (simp <;> omega))
  refine Below.trans ?_ (Below.mono hb2 ?_)
  ·repeat (first|exact Below.refl _ _|refine Below.alloc ?_ (by simp <;> omega) _)
  ·(try simp only [World.size_alloc]);omega
theorem toEntry_any (v:Value) (d:En) (w:World) (hv:NdsAt w v d.body) (hn:d.body.length≤1048576) :
  Calls Tryz.prog 35 #[.agg #[.int .i64 d.kind,.string d.name,.string d.to,v]] w fun e w' =>
   ∃ v',e = .returned (.agg #[.int .i64 d.kind,.string d.name,.string d.to,v'])∧NdsOwn w' w.heap.size v' d.body∧Below w.heap.size w w':=by
 obtain ⟨a,cap,rfl⟩:=hv.slice
 go_enter Tryz.func35,Tryz.ntmps35
 go_wp2_with (go_at_call 83;refine (toTerm_any _ d.body _ (hv.keep ((((Below.refl _ _).alloc (Nat.le_refl _) _).alloc (by simp) _).alloc (by simp;omega) _)) hn).mono ?_;rintro e w2 ⟨v',rfl,hown,hb2⟩;obtain ⟨a',cap',rfl⟩:=hown.slice;obtain ⟨hc2,hf2,hs2⟩:=bcell hb2;simp only [World.size_alloc] at hs2 hown hb2)
 refine bodyPost_ret (v:=.agg #[.int .i64 d.kind,.string d.name,.string d.to,.slice a' d.body.length cap']) (by simp [results,Tryz.results35,go_sem,hc2]) rfl ⟨_,rfl,?_,?_⟩
 ·refine NdsOwn.mono (B:=w.heap.size+1+1+1) (by omega) ?_
  repeat (with_reducible refine NdsOwn.setLow ?_ ?_ _;rotate_left;· (show _ < _;simp only [];omega))
  exact hown
 ·repeat (with_reducible refine Below.setCell ?_ ?_ _;rotate_left;· (simp <;> omega))
  refine Below.trans ?_ (Below.mono hb2 ?_)
  ·repeat (first|exact Below.refl _ _|refine Below.alloc ?_ (by simp <;> omega) _)
  ·(try simp only [World.size_alloc]);omega
theorem toDisk_any (s t:ByteArray) (w:World) :
  Calls Tryz.prog 53 #[.agg #[.string s,.string t]] w fun e w'=>e = .returned (.agg #[.string s,.string t])∧Below w.heap.size w w':=by
 go_enter Tryz.func53,Tryz.ntmps53
 go_wp2
 refine bodyPost_ret (v:=.agg #[.string s,.string t]) (by simp [results,Tryz.results53,go_sem]) rfl ⟨rfl,?_⟩
 repeat (first|exact Below.refl _ _|refine Below.alloc ?_ (by simp <;> omega) _)
theorem pairwise_snoc {α:Type} {R:α → α → Prop} {l:List α} {x:α} (h:l.Pairwise R) (hx:∀ y ∈ l,R y x):(l ++ [x]).Pairwise R:=by
 rw [List.pairwise_append]
 exact ⟨h,by simp,by simpa using hx⟩
def dfz:Df × Value:=(⟨⟨#[]⟩,0,0,[]⟩,.slice none 0 0)
def enz:En × Value:=(⟨0,⟨#[]⟩,⟨#[]⟩,[]⟩,.slice none 0 0)
def ToDefS (w wr:World) (B g:Nat) (L:List Df) (k:Nat):Prop :=
 ∃ ys:List (Df × Value),ys.map Prod.fst = L.take k∧wr.ownsRow B 28 4 (.slice (some ⟨g,0,none⟩) L.length L.length) L.length ((ys ++ List.replicate (L.length - k) dfz).flatMap dfCells) ∧
  (∀ x ∈ ys,NdsOwn wr B x.2 x.1.body)∧(ys.Pairwise fun x y=>Apart x.2 y.2)∧g < wr.heap.size∧B≤g∧Below B w wr
theorem toDefS_step {w wr w2:World} {B g:Nat} {L:List Df} {k:Nat} (h:ToDefS w wr B g L k) (hk:k < L.length) (hb2:Below wr.heap.size wr w2) {v:Value} (hv:NdsOwn w2 wr.heap.size v L[k].body) :
  ToDefS w ((((w2.setCell ⟨g,k * 4,none⟩ (.string L[k].name)).setCell ⟨g,k * 4+1,none⟩ (.int .i64 L[k].inn)).setCell ⟨g,k * 4+2,none⟩ (.int .i64 L[k].out)).setCell ⟨g,k * 4+3,none⟩ v) B g L (k+1):=by
 obtain ⟨ys,h1,h2,h3,h4,h5,h6,h7⟩:=h
 have hlen:ys.length = k:=by have:=congrArg List.length h1;simpa [Nat.min_eq_left (Nat.le_of_lt hk)] using this
 have h2':=owns_keep hb2 h2
 have hsz:=hb2.size
 have hB:B≤wr.heap.size:=by omega
 refine ⟨ys ++ [(L[k],v)],?_,?_,?_,?_,?_,h6,?_⟩
 ·rw [List.map_append,h1,List.take_succ_eq_append_getElem hk];rfl
 ·have:=set4 dfCells_len h2' k (by simp;omega) (.string L[k].name) (.int .i64 L[k].inn) (.int .i64 L[k].out) v (L[k],v) rfl
  have e:(ys ++ List.replicate (L.length - k) dfz).set k (L[k],v) = ys ++ [(L[k],v)] ++ List.replicate (L.length - (k+1)) dfz:=by
   rw [List.set_append_right _ _ (by omega),hlen,Nat.sub_self]
   obtain ⟨m,hm⟩:∃ m,L.length - k = m+1:=⟨L.length - k - 1,by omega⟩
   rw [hm,show L.length - (k+1) = m from by omega,List.replicate_succ,List.set_cons_zero,List.append_assoc]
   rfl
  rw [e] at this
  exact this
 ·have key:∀ (x:Value) (ns:List Nd),NdsOwn w2 B x ns → NdsOwn ((((w2.setCell ⟨g,k * 4,none⟩ (.string L[k].name)).setCell ⟨g,k * 4+1,none⟩ (.int .i64 L[k].inn)).setCell ⟨g,k * 4+2,none⟩ (.int .i64 L[k].out)).setCell ⟨g,k * 4+3,none⟩ v) B x ns:=by
   intro x ns hx
   have hne:x.ownBlock ≠ some g:=owns_block_ne hx h2' (by decide)
   exact owns_other (owns_other (owns_other (owns_other hx _ _ hne) _ _ hne) _ _ hne) _ _ hne
  intro x hx
  rcases List.mem_append.1 hx with hx|hx
  ·exact key _ _ ((h3 x hx).keep hb2)
  ·simp at hx;subst hx;exact key _ _ (hv.mono hB)
 ·exact pairwise_snoc h4 fun y hy=>apart_later (h3 y hy) hv (Nat.le_refl _)
 ·simp;omega
 ·exact ((((h7.trans (hb2.mono hB)).setCell h6 _).setCell h6 _).setCell h6 _).setCell h6 _
theorem toDefS_old {w wr w2:World} {B g:Nat} {L:List Df} {k:Nat} (h:ToDefS w wr B g L k) (hk:k < L.length) (hb2:Below wr.heap.size wr w2) :
  ∃ (x:ByteArray) (y z:Int) (u:Option Addr),w2.cell? ⟨g,k * 4,none⟩ = some (.string x)∧w2.cell? ⟨g,k * 4+1,none⟩ = some (.int .i64 y)∧w2.cell? ⟨g,k * 4+2,none⟩ = some (.int .i64 z)∧w2.cell? ⟨g,k * 4+3,none⟩ = some (.slice u 0 0) ∧
   w2.frozen? ⟨g,k * 4,none⟩ = false∧w2.frozen? ⟨g,k * 4+1,none⟩ = false∧w2.frozen? ⟨g,k * 4+2,none⟩ = false∧w2.frozen? ⟨g,k * 4+3,none⟩ = false:=by
 obtain ⟨ys,h1,h2,_⟩:=h
 have hlen:ys.length = k:=by have:=congrArg List.length h1;simpa [Nat.min_eq_left (Nat.le_of_lt hk)] using this
 have hll:k < (ys ++ List.replicate (L.length - k) dfz).length:=by simp;omega
 have hx:(ys ++ List.replicate (L.length - k) dfz)[k] = dfz:=by rw [List.getElem_append_right (by omega)];simp
 have:=df_old (owns_keep hb2 h2) k hll
 rw [hx] at this
 exact ⟨_,_,_,_,this⟩
theorem toDefS_end {w wr:World} {B g:Nat} {L:List Df} (h:ToDefS w wr B g L L.length):DfsOwn wr B (.slice (some ⟨g,0,none⟩) L.length L.length) L∧Below B w wr:=by
 obtain ⟨ys,h1,h2,h3,h4,h5,h6,h7⟩:=h
 rw [List.take_length] at h1
 refine ⟨⟨ys,h1,?_,h3,h4⟩,h7⟩
 have hl:ys.length = L.length:=by rw [← h1,List.length_map]
 rw [hl]
 simpa using h2
theorem toDefS_start {w w1:World} {L:List Df} (hown:w1.ownsRow w.heap.size 28 4 (Value.slice (some { block:=w.heap.size,off:=0 }) L.length L.length) L.length (madeCells (Value.agg #[.string ⟨#[]⟩,.int .i64 0,.int .i64 0,.slice none 0 0]).cells (L.length * 4)).toList) (hgr:w.grownBy w1 none):ToDefS w w1 w.heap.size w.heap.size L 0:=by
 have hz:=made_flat (f:=dfCells) dfz L.length (sz:=4) (by omega) rfl
 refine ⟨[],by simp,?_,by simp,List.Pairwise.nil,(hown.lt w.heap.size rfl).2,Nat.le_refl _,(Below.refl _ _).grown hgr (Nat.le_refl _) (by simp)⟩
 simp only [List.nil_append,Nat.sub_zero];rw [← hz];exact hown
theorem toDefS_any (v:Value) (L:List Df) (w:World) (hv:DfsAt w v L) (hn:L.length≤1048576) (hb:∀ d ∈ L,d.body.length≤1048576) :
  Calls Tryz.prog 18 #[v] w fun e w'=>∃ v',e = .returned v'∧DfsOwn w' w.heap.size v' L∧Below w.heap.size w w':=by
 obtain ⟨a,cap,rfl,hc,hat⟩:=hv
 obtain ⟨i0,hi,hz0,hz1,hz2⟩:=info_parts info28
 go_enter Tryz.func18,Tryz.ntmps18
 go_wp2_with (at_make;refine wpList_make_full _ rfl _ _ _ rfl w.heap.size 28 i0 _ 4 Tryz.underlying31 hi hz0 hz1 _ _ _ _ L.length rfl rfl rfl rfl (by rw [hz2];omega) (by unfold maxLen;omega) (Nat.le_refl _) ?_;intro w1 hown hgr)
 have hst:=toDefS_start hown hgr
 clear hown hgr hi hz0 hz1 hz2
 go_loopw [4] (fun i wr=>∃ k:Nat,k≤L.length∧i = .int .i64 k∧ToDefS w wr w.heap.size w.heap.size L k) (fun i _=>L.length - (intOf i).toNat)
 case atStart=>exact ⟨0,Nat.zero_le _,rfl,hst⟩
 case round =>
  obtain ⟨k,hk,rfl,hst⟩:=hrel
  by_cases hlt:k < L.length
  ·obtain ⟨b,o,rfl,_,hnd⟩:=hat k hlt
   obtain ⟨c0,c1,c2,v,c3,hv⟩:=hnd.keep hst.choose_spec.2.2.2.2.2.2
   obtain ⟨va,vc,rfl⟩:=hv.slice
   have hbk:=hb L[k] (List.getElem_mem _)
   clear hat hnd hb
   go_wp2_with (go_at_call 67;refine (toDef_any _ L[k] _ hv hbk).mono ?_;rintro e w2 ⟨v',rfl,hown',hb2⟩;obtain ⟨va',vc',rfl⟩:=hown'.slice;obtain ⟨x,y,z,u,d0,d1,d2,d3,f0,f1,f2,f3⟩:=toDefS_old hst hlt hb2)
   have hst3:=toDefS_step hst hlt hb2 hown'
   go_roundw
   case rel=>exact ⟨k+1,by omega,by go_num,hst3⟩
   case measure=>simp [intOf];omega
  ·go_wp2
   go_ret
   have hkk:k = L.length:=by omega
   subst hkk
   exact ⟨_,rfl,toDefS_end hst⟩
end Go.Proofs.YtldhpaflmnlcaaaGreatDoor
/-
  Own rows of definitions that grow by append. Own work.
-/
namespace Go.Proofs.YtldhpaflmnlcaaaGreatDoor
open Go.RowKit
theorem owns_shape' {w:World} {B e sz:Nat} {v:Value} {n:Nat} {xs:List Value} (h:w.ownsRow B e sz v n xs):∃ ao cp,v = .slice ao n cp:=by
 rcases h.2 with ⟨rfl,rfl⟩|⟨g,cap,cur,rfl,_⟩
 ·exact ⟨_,_,rfl⟩
 ·exact ⟨_,_,rfl⟩
theorem owns_some' {w:World} {B e sz:Nat} {v:Value} {n:Nat} {xs:List Value} (h:w.ownsRow B e sz v n xs) (hn:0 < n):∃ g cp,v = .slice (some ⟨g,0,none⟩) n cp∧n≤cp∧cp≤maxLen∧B≤g∧g < w.heap.size:=by
 have h':=h
 rcases h.2 with ⟨rfl,rfl⟩|⟨g,cap,cur,rfl,hb,hg,hc,hm,_⟩
 ·omega
 ·exact ⟨g,cap,rfl,hc,hm,hb,(World.ownsRow.lt h' g rfl).2⟩
def DfsRow (w:World) (B:Nat) (v:Value) (xs:List (Df × Value)):Prop :=
 w.ownsRow B 28 4 v xs.length (xs.flatMap dfCells)∧(∀ x ∈ xs,NdsOwn w B x.2 x.1.body)∧xs.Pairwise fun x y=>Apart x.2 y.2
theorem DfsRow.own {w:World} {B:Nat} {v:Value} {xs:List (Df × Value)} (h:DfsRow w B v xs):DfsOwn w B v (xs.map Prod.fst):=⟨xs,rfl,h⟩
theorem DfsOwn.row {w:World} {B:Nat} {v:Value} {L:List Df} (h:DfsOwn w B v L):∃ xs:List (Df × Value),xs.map Prod.fst = L∧DfsRow w B v xs:=h
theorem DfsRow.keep {w w':World} {B:Nat} {v:Value} {xs:List (Df × Value)} (hb:Below w.heap.size w w') (h:DfsRow w B v xs):DfsRow w' B v xs :=
 ⟨owns_keep hb h.1,fun x hx=>(h.2.1 x hx).keep hb,h.2.2⟩
theorem DfsRow.mono {w:World} {B B':Nat} {v:Value} {xs:List (Df × Value)} (hB:B'≤B) (h:DfsRow w B v xs):DfsRow w B' v xs:=⟨owns_mono hB h.1,fun x hx=>(h.2.1 x hx).mono hB,h.2.2⟩
theorem DfsRow.at {w:World} {B:Nat} {v:Value} {xs:List (Df × Value)} (h:DfsRow w B v xs):DfsAt w v (xs.map Prod.fst):=h.own.at
theorem DfsRow.shape {w:World} {B:Nat} {v:Value} {xs:List (Df × Value)} (h:DfsRow w B v xs) (n:Nat) (hn:xs.length = n):∃ ao cp,v = .slice ao n cp:=by
 subst hn;exact owns_shape' h.1
theorem dfCells_one {w:World} {B:Nat} {xs:List (Df × Value)} (h:∀ x ∈ xs,NdsOwn w B x.2 x.1.body):∀ u ∈ xs.flatMap dfCells,u.oneCell' = true:=by
 intro u hu
 obtain ⟨x,hx,hd⟩:=List.mem_flatMap.1 hu
 obtain ⟨a,c,he⟩:=(h x hx).slice
 simp [dfCells] at hd
 rcases hd with rfl|rfl|rfl|rfl <;> first|rfl|(rw [he];rfl)
theorem dfCells_one' {w:World} {xs:List (Df × Value)} (h:∀ x ∈ xs,NdsAt w x.2 x.1.body):∀ u ∈ xs.flatMap dfCells,u.oneCell' = true:=by
 intro u hu
 obtain ⟨x,hx,hd⟩:=List.mem_flatMap.1 hu
 obtain ⟨a,c,he⟩:=(h x hx).slice
 simp [dfCells] at hd
 rcases hd with rfl|rfl|rfl|rfl <;> first|rfl|(rw [he];rfl)
theorem nds_grown {w w':World} {B:Nat} {v:Value} {ns:List Nd} {row:Option Nat} (h:NdsOwn w B v ns) (hg:w.grownBy w' row) (hne:∀ k,v.ownBlock = some k → row ≠ some k):NdsOwn w' B v ns:=by
 refine World.ownsRow.kept h hg ?_
 cases hv:v.ownBlock with
 | none=>exact .inl rfl
 | some k=>exact .inr (fun e=>hne k hv e.symm)
theorem DfsRow.snoc {w w':World} {B:Nat} {v v' vb:Value} {xs:List (Df × Value)} {d:Df} (h:DfsRow w B v xs) (hvb:NdsOwn w B vb d.body) (hap:∀ x ∈ xs,Apart x.2 vb)
  (hown:w'.ownsRow B 28 4 v' (xs.length+1) (xs.flatMap dfCells ++ dfCells (d,vb))) (hg:w.grownBy w' v.ownBlock):DfsRow w' B v' (xs ++ [(d,vb)]):=by
 have ne:∀ (u:Value) ns,NdsOwn w B u ns → ∀ k,u.ownBlock = some k → v.ownBlock ≠ some k:=fun u ns hu k hk=>owns_ne hu h.1 (by decide) k hk
 refine ⟨?_,?_,pairwise_snoc h.2.2 hap⟩
 ·simpa [List.flatMap_append] using hown
 ·intro x hx
  rcases List.mem_append.1 hx with hx|hx
  ·exact nds_grown (h.2.1 x hx) hg (ne _ _ (h.2.1 x hx))
  ·simp at hx;subst hx
   exact nds_grown hvb hg (ne _ _ hvb)
theorem def_append {w:World} {ops:Array Oper} {rest:List Oper} {o:Oper} {a:Act} {Q:Exit → Act → World → Prop} (hgd:o.guard = none) (s x:Operand)
  (ho:o.op = .call { callee:=.builtin .append,args:=#[s,x],argTypes:=#[31,31] })
  (B:Nat) (v:Value) (xs:List (Df × Value)) (d:Df) (vb:Value) (g:Nat) (hg:g = w.heap.size) (hs:a.eval s = v) (hx:a.eval x = .slice (some ⟨g,0,none⟩) 1 1) (hrow:DfsRow w B v xs) (hvb:NdsOwn w B vb d.body) (hap:∀ x ∈ xs,Apart x.2 vb)
  (hB:B≤w.heap.size) (hl:xs.length≤1048576)
  (H:∀ v' w',DfsRow w' B v' (xs ++ [(d,vb)]) → (w.alloc (.cells #[.string d.name,.int .i64 d.inn,.int .i64 d.out,vb] 28)).grownBy w' v.ownBlock → (v'.ownBlock = v.ownBlock∨v'.ownBlock = some (w.heap.size+1)) → wpList Tryz.prog ops Q rest (a.put o.dst v') w') :
  wpList Tryz.prog ops Q (o :: rest) a (w.alloc (.cells #[.string d.name,.int .i64 d.inn,.int .i64 d.out,vb] 28)):=by
 subst hg
 obtain ⟨i0,hi,hz0,hz1,hz2⟩:=info_parts info28
 have hk:=alloc_below w (.cells #[.string d.name,.int .i64 d.inn,.int .i64 d.out,vb] 28)
 refine wpList_append_src hgd s x 31 ho B 28 i0 _ 4 56 Tryz.underlying31 hi hz0 hz1 hz2 rfl (by decide) v xs.length _ hs (owns_keep hk hrow.1) _ 1 (dfCells (d,vb)) hx ⟨rfl,.inr ⟨_,1,rfl,?_⟩⟩ ?_ (by unfold maxLen;omega) (by omega) (by simp;omega) ?_
 ·intro j u hj
  match j,hj with
  | 0,hj=>simp [dfCells] at hj;subst hj;simp [Addr.add]
  | 1,hj=>simp [dfCells] at hj;subst hj;simp [Addr.add]
  | 2,hj=>simp [dfCells] at hj;subst hj;simp [Addr.add]
  | 3,hj=>simp [dfCells] at hj;subst hj;simp [Addr.add]
 ·have:=dfCells_one (w:=w) (B:=B) (xs:=[(d,vb)]) (by intro x hx;simp at hx;subst hx;exact hvb)
  simpa using this
 ·intro v' w' h1 h2 h3
  exact H v' w' ((hrow.keep hk).snoc (hvb.keep hk) hap h1 h2) h2 (by simpa using h3)
theorem dfs_apart {w w2:World} {B Bn:Nat} {v vb:Value} {xs:List (Df × Value)} {ns:List Nd} (h:DfsRow w B v xs) (hvb:NdsOwn w2 Bn vb ns) (hB:w.heap.size≤Bn):∀ x ∈ xs,Apart x.2 vb :=
 fun x hx=>apart_later (h.2.1 x hx) hvb hB
theorem x_defapp {ops:Array Oper} {Q:Exit → Act → World → Prop} {T:Nat → Prop} {w0:World} {i:Nat} {l:List Nat} {bs:Nat → Prop} {a:Act} {w:World} {o:Oper} (ho:ops[i]? = some o) (hk:opKind o = .act) (hg:o.guard = none) (hC:Exc T w0 w) (s x:Operand)
  (hop:o.op = Op.call { callee:=Callee.builtin Builtin.append,args:=#[s,x],argTypes:=#[31,31] })
  (B:Nat) (v:Value) (xs:List (Df × Value)) (d:Df) (vb:Value) (b:Nat) (hs:a.eval s = v) (hx:a.eval x = .slice (some ⟨b,0,none⟩) 1 1)
  (hvT:∀ k,v.ownBlock = some k → (k < w0.heap.size∧T k)∨(w0.heap.size≤k∧bs k)) (hbase:B≤w.heap.size) (hl:xs.length≤1048576)
  (hrow:DfsRow w B v xs) (hvb:NdsOwn w B vb d.body) (hap:∀ x ∈ xs,Apart x.2 vb) (hbo:w.heap[b]? = some (.cells #[.string d.name,.int .i64 d.inn,.int .i64 d.out,vb] 28))
  (h:∀ K:(Nat → Prop) → Act → World → Prop,(∀ bs a w,WX Tryz.prog ops (Exc T w0) w0.heap.size Q l bs a w → K bs a w) → ∀ w1 w2 v',Exc T w0 w1 → Below w.heap.size w w1 →
   DfsRow w2 B v' (xs ++ [(d,vb)]) → w1.grownBy w2 v.ownBlock → Exc T w0 w2 → (v'.ownBlock = v.ownBlock∨v'.ownBlock = some w1.heap.size) → K (more bs w1 w2) (a.put o.dst v') w2) :
  WX Tryz.prog ops (Exc T w0) w0.heap.size Q (i :: l) bs a w:=by
 obtain ⟨i0,hi,hz0,hz1,hz2⟩:=info_parts info28
 refine x_src ho hk hg hC s x 31 hop B 28 i0 _ 4 56 Tryz.underlying31 hi hz0 hz1 hz2 rfl (by decide) v xs.length (xs.flatMap dfCells) hs hvT (.slice (some ⟨b,0,none⟩) 1 1) 1 (dfCells (d,vb)) hx ?_ (by unfold maxLen;omega) (by omega) hbase ?_ ?_
 ·have:=dfCells_one (w:=w) (B:=B) (xs:=[(d,vb)]) (by intro x hx;simp at hx;subst hx;exact hvb)
  simpa using this
 ·intro w1 hw1 hb1
  refine ⟨(hrow.keep hb1).1,rfl,.inr ⟨_,1,rfl,?_⟩⟩
  obtain ⟨m0,_,_⟩:=made_cell ((hb1.block b (made_cell hbo).2.2).trans hbo)
  intro j u hj
  match j,hj with
  | 0,hj=>simp [dfCells] at hj;subst hj;simp [Addr.add,m0]
  | 1,hj=>simp [dfCells] at hj;subst hj;simp [Addr.add,m0]
  | 2,hj=>simp [dfCells] at hj;subst hj;simp [Addr.add,m0]
  | 3,hj=>simp [dfCells] at hj;subst hj;simp [Addr.add,m0]
 ·intro K hK w1 w2 v' hw1 hb1 h1 h2 h3 h4
  exact h K hK w1 w2 v' hw1 hb1 ((hrow.keep hb1).snoc (hvb.keep hb1) hap h1 h2) h2 h3 h4
end Go.Proofs.YtldhpaflmnlcaaaGreatDoor
/-
  The laws' comparisons: true exactly if the data are equal. Own work.
-/
namespace Go.Proofs.YtldhpaflmnlcaaaGreatDoor
open Go.RowKit
theorem str_beq (a b:ByteArray):(a.toList == b.toList) = decide (a = b):=by
 rw [ByteArray.toList_eq,ByteArray.toList_eq,Bool.eq_iff_iff];simp only [beq_iff_eq,decide_eq_true_eq]
 exact ⟨fun h=>WideShapes.bytes_inj h,fun h=>by rw [h]⟩
theorem str_of_true {a b:ByteArray} (h:(a.toList == b.toList) = true):a = b:=by rw [str_beq] at h;simpa using h
theorem str_of_false {a b:ByteArray} (h:(a.toList == b.toList) = false):a ≠ b:=by rw [str_beq] at h;simpa using h
theorem str_of_ntrue {a b:ByteArray} (h:(!a.toList == b.toList) = true):a ≠ b:=by rw [str_beq] at h;simpa using h
theorem str_of_nfalse {a b:ByteArray} (h:(!a.toList == b.toList) = false):a = b:=by rw [str_beq] at h;simpa using h
theorem int_of_ntrue {a b:Int} (h:(a != b) = true):a ≠ b:=by simpa using h
theorem int_of_nfalse {a b:Int} (h:(a != b) = false):a = b:=by simpa using h
theorem no_bool {p:Prop} [Decidable p] (h:¬ p):Ending.returned (.bool false) = .returned (.bool (decide p)):=by simp [h]
theorem yes_bool {p:Prop} [Decidable p] (h:p):Ending.returned (.bool true) = .returned (.bool (decide p)):=by simp [h]
theorem eqNode_any (a b:Nd) (w:World) :
  Calls Tryz.prog 122 #[.agg #[.int .i64 a.kind,.int .i64 a.value,.string a.name],.agg #[.int .i64 b.kind,.int .i64 b.value,.string b.name]] w fun e w'=>e = .returned (.bool (decide (a = b)))∧Below w.heap.size w w':=by
 go_enter Tryz.func122,Tryz.ntmps122
 go_wp2
 all_goals
  go_ret
  refine ⟨?_,by repeat (first|exact Below.refl _ _|refine Below.alloc ?_ (by simp <;> omega) _)⟩
 ·exact no_bool fun h=>int_of_ntrue ‹_› (by rw [h])
 ·exact no_bool fun h=>int_of_ntrue ‹_› (by rw [h])
 ·exact no_bool fun h=>str_of_ntrue ‹_› (by rw [h])
 ·have h1:a.kind = b.kind:=int_of_nfalse ‹_›
  have h2:a.value = b.value:=int_of_nfalse ‹_›
  have h3:a.name = b.name:=str_of_nfalse ‹_›
  exact yes_bool (by cases a;cases b;simp_all)
def EqTail {α:Type} (a b:List α) (k:Nat):Prop:=a = b ↔ a.drop k = b.drop k
theorem EqTail.zero {α:Type} (a b:List α):EqTail a b 0:=by simp [EqTail]
theorem EqTail.step {α:Type} {a b:List α} {k:Nat} (h:EqTail a b k) (ha:k < a.length) (hb:k < b.length) (he:a[k] = b[k]):EqTail a b (k+1):=by
 unfold EqTail at *
 rw [h,List.drop_eq_getElem_cons ha,List.drop_eq_getElem_cons hb,he]
 simp only [List.cons.injEq,true_and]
theorem EqTail.no {α:Type} {a b:List α} {k:Nat} (h:EqTail a b k) (ha:k < a.length) (hb:k < b.length) (he:a[k] ≠ b[k]):a ≠ b:=by
 unfold EqTail at h
 rw [ne_eq,h,List.drop_eq_getElem_cons ha,List.drop_eq_getElem_cons hb]
 simp only [List.cons.injEq,he,false_and,not_false_eq_true]
theorem EqTail.done {α:Type} {a b:List α} {k:Nat} (h:EqTail a b k) (ha:a.length≤k) (hb:b.length≤k):a = b:=by
 unfold EqTail at h
 rw [h,List.drop_eq_nil_of_le ha,List.drop_eq_nil_of_le hb]
set_option maxRecDepth 100000 in
theorem eqNodeS_any (v v':Value) (a b:List Nd) (w:World) (hv:NdsAt w v a) (hv':NdsAt w v' b) (hn:a.length≤1048576) (hn':b.length≤1048576) :
  Calls Tryz.prog 80 #[v,v'] w fun e w'=>e = .returned (.bool (decide (a = b)))∧Below w.heap.size w w':=by
 obtain ⟨p,cap,rfl,hc,hat⟩:=hv
 obtain ⟨p',cap',rfl,hc',hat'⟩:=hv'
 by_cases hl:a.length = b.length
 ·have hl1:((a.length:Int) != b.length) = false:=by simp [hl]
  go_enter Tryz.func80,Tryz.ntmps80
  have HL:=Lib.hid hl
  clear hl
  go_wp2
  go_loopw [5] (fun i wr=>∃ k:Nat,k≤a.length∧i = .int .i64 k∧EqTail a b k∧Below w.heap.size w wr) (fun i _=>a.length - (intOf i).toNat)
  case atStart=>exact ⟨0,Nat.zero_le _,rfl,EqTail.zero _ _,Below.refl _ _⟩
  case round =>
   obtain ⟨k,hk,rfl,ht,hbel⟩:=hrel
   by_cases hlt:k < a.length
   ·have hlt':k < b.length:=by have:=HL.out;omega
    obtain ⟨g,o,rfl,_,hnd⟩:=hat k hlt
    obtain ⟨g',o',rfl,_,hnd'⟩:=hat' k hlt'
    obtain ⟨c0,c1,c2⟩:=hnd.keep hbel
    obtain ⟨d0,d1,d2⟩:=hnd'.keep hbel
    clear hat hnd hat' hnd'
    by_cases he:a[k] = b[k]
    ·have he2:decide (a[k] = b[k]) = true:=by simp [he]
     have HE:=Lib.hid he
     clear he
     go_wp2_with fail
     go_still_tail 8,(by kernel_rfl)
     go_wp2_with (go_at_call 122;refine (eqNode_any a[k] b[k] _).mono ?_;rintro e w2 ⟨rfl,hb2⟩)
     have hs:=hbel.drew.size
     go_roundw
     case rel=>exact ⟨k+1,by omega,by go_num,ht.step hlt hlt' HE.out,hbel.drew.trans (hb2.mono (by omega))⟩
     case measure=>simp [intOf];omega
    ·have he2:decide (a[k] = b[k]) = false:=by simp [he]
     go_wp2_with fail
     go_still_tail 8,(by kernel_rfl)
     go_wp2_with (go_at_call 122;refine (eqNode_any a[k] b[k] _).mono ?_;rintro e w2 ⟨rfl,hb2⟩)
     have hs:=hbel.drew.size
     go_ret
     exact ⟨no_bool (ht.no hlt hlt' he),hbel.drew.trans (hb2.mono (by omega))⟩
   ·go_wp2
    go_ret
    exact ⟨yes_bool (ht.done (by omega) (by have:=HL.out;omega)),hbel⟩
 ·have hl1:((a.length:Int) != b.length) = true:=by simp;omega
  go_enter Tryz.func80,Tryz.ntmps80
  go_wp2
  go_ret
  exact ⟨no_bool fun h=>hl (by rw [h]),Below.refl _ _⟩
theorem eqTerm_any (v v':Value) (a b:List Nd) (w:World) (hv:NdsAt w v a) (hv':NdsAt w v' b) (hn:a.length≤1048576) (hn':b.length≤1048576) :
  Calls Tryz.prog 30 #[.agg #[v],.agg #[v']] w fun e w'=>e = .returned (.bool (decide (a = b)))∧Below w.heap.size w w':=by
 obtain ⟨p,cap,rfl⟩:=hv.slice
 obtain ⟨p',cap',rfl⟩:=hv'.slice
 have hB:∀ o o',Below w.heap.size w ((w.alloc o).alloc o'):=fun o o'=>((Below.refl _ _).alloc (Nat.le_refl _) _).alloc (by simp) _
 by_cases h:a = b
 ·have h1:decide (a = b) = true:=by simp [h]
  have H:=Lib.hid h;clear h
  go_enter Tryz.func30,Tryz.ntmps30
  go_wp2_with (go_at_call 80;refine (eqNodeS_any _ _ a b _ (hv.keep (hB _ _)) (hv'.keep (hB _ _)) hn hn').mono ?_;rintro e w2 ⟨rfl,hb2⟩)
  go_ret
  exact ⟨yes_bool H.out,(hB _ _).trans (hb2.mono (by simp;omega))⟩
 ·have h1:decide (a = b) = false:=by simp [h]
  go_enter Tryz.func30,Tryz.ntmps30
  go_wp2_with (go_at_call 80;refine (eqNodeS_any _ _ a b _ (hv.keep (hB _ _)) (hv'.keep (hB _ _)) hn hn').mono ?_;rintro e w2 ⟨rfl,hb2⟩)
  go_ret
  exact ⟨no_bool h,(hB _ _).trans (hb2.mono (by simp;omega))⟩
theorem eqDef_any (v v':Value) (a b:Df) (w:World) (hv:NdsAt w v a.body) (hv':NdsAt w v' b.body) (hn:a.body.length≤1048576) (hn':b.body.length≤1048576) :
  Calls Tryz.prog 20 #[.agg #[.string a.name,.int .i64 a.inn,.int .i64 a.out,v],.agg #[.string b.name,.int .i64 b.inn,.int .i64 b.out,v']] w fun e w'=>e = .returned (.bool (decide (a = b)))∧Below w.heap.size w w':=by
 obtain ⟨p,cap,rfl⟩:=hv.slice
 obtain ⟨p',cap',rfl⟩:=hv'.slice
 have hB:∀ o o',Below w.heap.size w ((w.alloc o).alloc o'):=fun o o'=>((Below.refl _ _).alloc (Nat.le_refl _) _).alloc (by simp) _
 by_cases h:a.body = b.body
 ·have h1:decide (a.body = b.body) = true:=by simp [h]
  have H:=Lib.hid h;clear h
  go_enter Tryz.func20,Tryz.ntmps20
  go_wp2_with (go_at_call 30;refine (eqTerm_any _ _ a.body b.body _ (hv.keep (hB _ _)) (hv'.keep (hB _ _)) hn hn').mono ?_;rintro e w2 ⟨rfl,hb2⟩)
  all_goals go_ret
  ·exact ⟨no_bool fun h=>str_of_ntrue ‹_› (by rw [h]),hB _ _⟩
  ·exact ⟨no_bool fun h=>int_of_ntrue ‹_› (by rw [h]),hB _ _⟩
  ·exact ⟨no_bool fun h=>int_of_ntrue ‹_› (by rw [h]),hB _ _⟩
  ·have g1:a.name = b.name:=str_of_nfalse ‹_›
   have g2:a.inn = b.inn:=int_of_nfalse ‹_›
   have g3:a.out = b.out:=int_of_nfalse ‹_›
   have g4:=H.out
   exact ⟨yes_bool (by cases a;cases b;simp_all),(hB _ _).trans (hb2.mono (by simp;omega))⟩
 ·have h1:decide (a.body = b.body) = false:=by simp [h]
  go_enter Tryz.func20,Tryz.ntmps20
  go_wp2_with (go_at_call 30;refine (eqTerm_any _ _ a.body b.body _ (hv.keep (hB _ _)) (hv'.keep (hB _ _)) hn hn').mono ?_;rintro e w2 ⟨rfl,hb2⟩)
  all_goals go_ret
  ·exact ⟨no_bool fun h=>str_of_ntrue ‹_› (by rw [h]),hB _ _⟩
  ·exact ⟨no_bool fun h=>int_of_ntrue ‹_› (by rw [h]),hB _ _⟩
  ·exact ⟨no_bool fun h=>int_of_ntrue ‹_› (by rw [h]),hB _ _⟩
  ·exact ⟨no_bool fun h'=>h (by rw [h']),(hB _ _).trans (hb2.mono (by simp;omega))⟩
theorem eqEntry_any (v v':Value) (a b:En) (w:World) (hv:NdsAt w v a.body) (hv':NdsAt w v' b.body) (hn:a.body.length≤1048576) (hn':b.body.length≤1048576) :
  Calls Tryz.prog 37 #[.agg #[.int .i64 a.kind,.string a.name,.string a.to,v],.agg #[.int .i64 b.kind,.string b.name,.string b.to,v']] w fun e w'=>e = .returned (.bool (decide (a = b)))∧Below w.heap.size w w':=by
 obtain ⟨p,cap,rfl⟩:=hv.slice
 obtain ⟨p',cap',rfl⟩:=hv'.slice
 have hB:∀ o o',Below w.heap.size w ((w.alloc o).alloc o'):=fun o o'=>((Below.refl _ _).alloc (Nat.le_refl _) _).alloc (by simp) _
 by_cases h:a.body = b.body
 ·have h1:decide (a.body = b.body) = true:=by simp [h]
  have H:=Lib.hid h;clear h
  go_enter Tryz.func37,Tryz.ntmps37
  go_wp2_with (go_at_call 30;refine (eqTerm_any _ _ a.body b.body _ (hv.keep (hB _ _)) (hv'.keep (hB _ _)) hn hn').mono ?_;rintro e w2 ⟨rfl,hb2⟩)
  all_goals go_ret
  ·exact ⟨no_bool fun h=>int_of_ntrue ‹_› (by rw [h]),hB _ _⟩
  ·exact ⟨no_bool fun h=>str_of_ntrue ‹(!a.name.toList == b.name.toList) = true› (by rw [h]),hB _ _⟩
  ·exact ⟨no_bool fun h=>str_of_ntrue ‹(!a.to.toList == b.to.toList) = true› (by rw [h]),hB _ _⟩
  ·have g1:a.name = b.name:=str_of_nfalse ‹_›
   have g2:a.to = b.to:=str_of_nfalse ‹_›
   have g3:a.kind = b.kind:=int_of_nfalse ‹_›
   have g4:=H.out
   exact ⟨yes_bool (by cases a;cases b;simp_all),(hB _ _).trans (hb2.mono (by simp;omega))⟩
 ·have h1:decide (a.body = b.body) = false:=by simp [h]
  go_enter Tryz.func37,Tryz.ntmps37
  go_wp2_with (go_at_call 30;refine (eqTerm_any _ _ a.body b.body _ (hv.keep (hB _ _)) (hv'.keep (hB _ _)) hn hn').mono ?_;rintro e w2 ⟨rfl,hb2⟩)
  all_goals go_ret
  ·exact ⟨no_bool fun h=>int_of_ntrue ‹_› (by rw [h]),hB _ _⟩
  ·exact ⟨no_bool fun h=>str_of_ntrue ‹(!a.name.toList == b.name.toList) = true› (by rw [h]),hB _ _⟩
  ·exact ⟨no_bool fun h=>str_of_ntrue ‹(!a.to.toList == b.to.toList) = true› (by rw [h]),hB _ _⟩
  ·exact ⟨no_bool fun h'=>h (by rw [h']),(hB _ _).trans (hb2.mono (by simp;omega))⟩
set_option maxRecDepth 100000 in
theorem eqDefS_any (v v':Value) (a b:List Df) (w:World) (hv:DfsAt w v a) (hv':DfsAt w v' b) (hn:a.length≤1048576) (hn':b.length≤1048576) (hm:∀ d ∈ a,d.body.length≤1048576) (hm':∀ d ∈ b,d.body.length≤1048576) :
  Calls Tryz.prog 21 #[v,v'] w fun e w'=>e = .returned (.bool (decide (a = b)))∧Below w.heap.size w w':=by
 obtain ⟨p,cap,rfl,hc,hat⟩:=hv
 obtain ⟨p',cap',rfl,hc',hat'⟩:=hv'
 by_cases hl:a.length = b.length
 ·have hl1:((a.length:Int) != b.length) = false:=by simp [hl]
  go_enter Tryz.func21,Tryz.ntmps21
  have HL:=Lib.hid hl
  clear hl
  go_wp2
  go_loopw [5] (fun i wr=>∃ k:Nat,k≤a.length∧i = .int .i64 k∧EqTail a b k∧Below w.heap.size w wr) (fun i _=>a.length - (intOf i).toNat)
  case atStart=>exact ⟨0,Nat.zero_le _,rfl,EqTail.zero _ _,Below.refl _ _⟩
  case round =>
   obtain ⟨k,hk,rfl,ht,hbel⟩:=hrel
   by_cases hlt:k < a.length
   ·have hlt':k < b.length:=by have:=HL.out;omega
    obtain ⟨g,o,rfl,_,hnd⟩:=hat k hlt
    obtain ⟨g',o',rfl,_,hnd'⟩:=hat' k hlt'
    obtain ⟨c0,c1,c2,v1,c3,hv1⟩:=hnd.keep hbel
    obtain ⟨d0,d1,d2,v2,d3,hv2⟩:=hnd'.keep hbel
    obtain ⟨p1,cap1,rfl⟩:=hv1.slice
    obtain ⟨p2,cap2,rfl⟩:=hv2.slice
    have hm1:=hm a[k] (List.getElem_mem _)
    have hm2:=hm' b[k] (List.getElem_mem _)
    clear hat hnd hat' hnd' hm hm'
    by_cases he:a[k] = b[k]
    ·have he2:decide (a[k] = b[k]) = true:=by simp [he]
     have HE:=Lib.hid he
     clear he
     go_wp2_with fail
     go_still_tail 8,(by kernel_rfl)
     go_wp2_with (go_at_call 20;refine (eqDef_any _ _ a[k] b[k] wr.drew hv1 hv2 hm1 hm2).mono ?_;rintro e w2 ⟨rfl,hb2⟩)
     have hs:=hbel.drew.size
     go_roundw
     case rel=>exact ⟨k+1,by omega,by go_num,ht.step hlt hlt' HE.out,hbel.drew.trans (hb2.mono (by omega))⟩
     case measure=>simp [intOf];omega
    ·have he2:decide (a[k] = b[k]) = false:=by simp [he]
     go_wp2_with fail
     go_still_tail 8,(by kernel_rfl)
     go_wp2_with (go_at_call 20;refine (eqDef_any _ _ a[k] b[k] wr.drew hv1 hv2 hm1 hm2).mono ?_;rintro e w2 ⟨rfl,hb2⟩)
     have hs:=hbel.drew.size
     go_ret
     exact ⟨no_bool (ht.no hlt hlt' he),hbel.drew.trans (hb2.mono (by omega))⟩
   ·go_wp2
    go_ret
    exact ⟨yes_bool (ht.done (by omega) (by have:=HL.out;omega)),hbel⟩
 ·have hl1:((a.length:Int) != b.length) = true:=by simp;omega
  go_enter Tryz.func21,Tryz.ntmps21
  go_wp2
  go_ret
  exact ⟨no_bool fun h=>hl (by rw [h]),Below.refl _ _⟩
set_option maxRecDepth 100000 in
theorem eqEntryS_any (v v':Value) (a b:List En) (w:World) (hv:EnsAt w v a) (hv':EnsAt w v' b) (hn:a.length≤1048576) (hn':b.length≤1048576) (hm:∀ d ∈ a,d.body.length≤1048576) (hm':∀ d ∈ b,d.body.length≤1048576) :
  Calls Tryz.prog 45 #[v,v'] w fun e w'=>e = .returned (.bool (decide (a = b)))∧Below w.heap.size w w':=by
 obtain ⟨p,cap,rfl,hc,hat⟩:=hv
 obtain ⟨p',cap',rfl,hc',hat'⟩:=hv'
 by_cases hl:a.length = b.length
 ·have hl1:((a.length:Int) != b.length) = false:=by simp [hl]
  go_enter Tryz.func45,Tryz.ntmps45
  have HL:=Lib.hid hl
  clear hl
  go_wp2
  go_loopw [5] (fun i wr=>∃ k:Nat,k≤a.length∧i = .int .i64 k∧EqTail a b k∧Below w.heap.size w wr) (fun i _=>a.length - (intOf i).toNat)
  case atStart=>exact ⟨0,Nat.zero_le _,rfl,EqTail.zero _ _,Below.refl _ _⟩
  case round =>
   obtain ⟨k,hk,rfl,ht,hbel⟩:=hrel
   by_cases hlt:k < a.length
   ·have hlt':k < b.length:=by have:=HL.out;omega
    obtain ⟨g,o,rfl,_,hnd⟩:=hat k hlt
    obtain ⟨g',o',rfl,_,hnd'⟩:=hat' k hlt'
    obtain ⟨c0,c1,c2,v1,c3,hv1⟩:=hnd.keep hbel
    obtain ⟨d0,d1,d2,v2,d3,hv2⟩:=hnd'.keep hbel
    obtain ⟨p1,cap1,rfl⟩:=hv1.slice
    obtain ⟨p2,cap2,rfl⟩:=hv2.slice
    have hm1:=hm a[k] (List.getElem_mem _)
    have hm2:=hm' b[k] (List.getElem_mem _)
    clear hat hnd hat' hnd' hm hm'
    by_cases he:a[k] = b[k]
    ·have he2:decide (a[k] = b[k]) = true:=by simp [he]
     have HE:=Lib.hid he
     clear he
     go_wp2_with fail
     go_still_tail 8,(by kernel_rfl)
     go_wp2_with (go_at_call 37;refine (eqEntry_any _ _ a[k] b[k] wr.drew hv1 hv2 hm1 hm2).mono ?_;rintro e w2 ⟨rfl,hb2⟩)
     have hs:=hbel.drew.size
     go_roundw
     case rel=>exact ⟨k+1,by omega,by go_num,ht.step hlt hlt' HE.out,hbel.drew.trans (hb2.mono (by omega))⟩
     case measure=>simp [intOf];omega
    ·have he2:decide (a[k] = b[k]) = false:=by simp [he]
     go_wp2_with fail
     go_still_tail 8,(by kernel_rfl)
     go_wp2_with (go_at_call 37;refine (eqEntry_any _ _ a[k] b[k] wr.drew hv1 hv2 hm1 hm2).mono ?_;rintro e w2 ⟨rfl,hb2⟩)
     have hs:=hbel.drew.size
     go_ret
     exact ⟨no_bool (ht.no hlt hlt' he),hbel.drew.trans (hb2.mono (by omega))⟩
   ·go_wp2
    go_ret
    exact ⟨yes_bool (ht.done (by omega) (by have:=HL.out;omega)),hbel⟩
 ·have hl1:((a.length:Int) != b.length) = true:=by simp;omega
  go_enter Tryz.func45,Tryz.ntmps45
  go_wp2
  go_ret
  exact ⟨no_bool fun h=>hl (by rw [h]),Below.refl _ _⟩
end Go.Proofs.YtldhpaflmnlcaaaGreatDoor
/-
  Walks of the small functions of terms and names. Own work.
-/
namespace Go.Proofs.YtldhpaflmnlcaaaGreatDoor
open Go.RowKit
def inB (n lo hi:Int):Bool:=decide (lo≤n) && decide (n≤hi)
theorem within_any (n lo hi:Int) (w:World) :
  Calls Tryz.prog 113 #[.int .i64 n,.int .i64 lo,.int .i64 hi] w fun e w'=>e = .returned (.bool (inB n lo hi))∧w = w':=by
 go_enter Tryz.func113,Tryz.ntmps113
 go_wp2
 all_goals go_ret
 all_goals exact ⟨ret_bool (by simp [inB];try omega),rfl⟩
theorem l1In_any (n lo hi:Int) (w:World) :
  Calls Tryz.prog 193 #[.int .i64 n,.int .i64 lo,.int .i64 hi] w fun e w'=>e = .returned (.bool (inB n lo hi))∧w = w':=by
 go_enter Tryz.func193,Tryz.ntmps193
 go_wp2
 all_goals go_ret
 all_goals exact ⟨ret_bool (by simp [inB];try omega),rfl⟩
def lowB (b:UInt8):Bool:=decide ((97:Int)≤(b.toNat:Int)) && decide ((b.toNat:Int)≤122)
def digB (b:UInt8):Bool:=decide ((48:Int)≤(b.toNat:Int)) && decide ((b.toNat:Int)≤57)
theorem isLower_any (b:UInt8) (w:World) :
  Calls Tryz.prog 114 #[.int .u8 b.toNat] w fun e w'=>e = .returned (.bool (lowB b))∧w = w':=by
 go_enter Tryz.func114,Tryz.ntmps114
 go_wp2
 all_goals go_ret
 all_goals exact ⟨ret_bool (by first|(simp_all [lowB];done)|(simp_all [lowB];omega)),rfl⟩
theorem isDigit_any (b:UInt8) (w:World) :
  Calls Tryz.prog 116 #[.int .u8 b.toNat] w fun e w'=>e = .returned (.bool (digB b))∧w = w':=by
 go_enter Tryz.func116,Tryz.ntmps116
 go_wp2
 all_goals go_ret
 all_goals exact ⟨ret_bool (by first|(simp_all [digB];done)|(simp_all [digB];omega)),rfl⟩
def valB (k:Int):Bool:=(k == 7) || (k == 13)
theorem hasValue_any (k:Int) (w:World) :
  Calls Tryz.prog 216 #[.int .i64 k] w fun e w'=>e = .returned (.bool (valB k))∧w = w':=by
 go_enter Tryz.func216,Tryz.ntmps216
 go_wp2
 all_goals go_ret
 all_goals exact ⟨ret_bool (by simp_all [valB]),rfl⟩
theorem isGenerator_any (k:Int) (w:World) :
  Calls Tryz.prog 197 #[.int .i64 k] w fun e w'=>e = .returned (.bool (inB k 3 14))∧w = w':=by
 go_enter Tryz.func197,Tryz.ntmps197
 go_wp2_with (go_at_call 113;refine (within_any _ _ _ _).mono ?_;rintro e w2 ⟨rfl,rfl⟩)
 go_ret
 exact ⟨rfl,rfl⟩
def genValB (k v:Int):Bool:=if valB k then inB v 0 96 else (v == 0)
theorem isGeneratorValue_any (k v:Int) (w:World) :
  Calls Tryz.prog 199 #[.int .i64 k,.int .i64 v] w fun e w'=>e = .returned (.bool (genValB k v))∧w = w':=by
 cases hk:valB k
 all_goals
  go_enter Tryz.func199,Tryz.ntmps199
  go_wp2_with (first|(go_at_call 216;refine (hasValue_any _ _).mono ?_;rintro e w2 ⟨rfl,rfl⟩)|(go_at_call 113;refine (within_any _ _ _ _).mono ?_;rintro e w2 ⟨rfl,rfl⟩))
  go_ret
  exact ⟨by simp [genValB,hk],rfl⟩
theorem fit_any (a b:Int) (w:World) :
  Calls Tryz.prog 196 #[.agg #[.int .i64 a,.int .i64 b]] w fun e w'=>e = .returned (.bool (decide (a≤12) && decide (b≤12)))∧Below w.heap.size w w':=by
 go_enter Tryz.func196,Tryz.ntmps196
 go_wp2
 all_goals go_ret
 all_goals exact ⟨ret_bool (by first|(simp_all;done)|(simp_all;omega)),(Below.refl _ _).alloc (Nat.le_refl _) _⟩
theorem tmKind_any (k:Int) (w:World) :
  Calls Tryz.prog 195 #[.int .i64 k] w fun e w'=>e = .returned (.tuple #[.int .i64 (kindW k).1,.int .i64 (kindW k).2])∧w = w':=by
 go_enter Tryz.func195,Tryz.ntmps195
 go_wp2
 all_goals go_ret2
 all_goals exact ⟨by simp_all [kindW],rfl⟩
end Go.Proofs.YtldhpaflmnlcaaaGreatDoor
/-
  Walks of the functions on names and on finding definitions. Own work.
-/
namespace Go.Proofs.YtldhpaflmnlcaaaGreatDoor
open Go.RowKit
def reserved:List ByteArray:=[⟨#[105,100]⟩,⟨#[115,119,97,112]⟩,⟨#[99,111,112,121]⟩,⟨#[100,105,115,99,97,114,100]⟩,⟨#[97,100,100]⟩,⟨#[122,101,114,111]⟩,⟨#[115,99,97,108,101]⟩,⟨#[100,101,108,97,121]⟩,
 ⟨#[99,111,99,111,112,121]⟩,⟨#[99,111,100,105,115,99,97,114,100]⟩,⟨#[99,111,97,100,100]⟩,⟨#[99,111,122,101,114,111]⟩,⟨#[99,111,115,99,97,108,101]⟩,⟨#[99,111,100,101,108,97,121]⟩]
def kwords:List ByteArray:=⟨#[]⟩ :: reserved
def StrsAt (w:World) (v:Value) (ss:List ByteArray):Prop:=SlAt 1 v ss.length fun i b o=>∃ h:i < ss.length,w.cell? ⟨b,o,none⟩ = some (.string ss[i])
theorem StrsAt.keep {w w':World} (hb:Below w.heap.size w w') {v:Value} {ns:List ByteArray} (h:StrsAt w v ns):StrsAt w' v ns :=
 SlAt.mono h fun _ _ _ ⟨hi,r⟩=>⟨hi,cell_keep hb r⟩
theorem strs_made (w:World) (ss:List ByteArray) (t:TypeId):StrsAt (w.alloc (.cells (ss.map Value.string).toArray t)) (.slice (some ⟨w.heap.size,0,none⟩) ss.length ss.length) ss:=by
 refine ⟨_,_,rfl,Nat.le_refl _,fun i hi=>⟨_,_,rfl,hi,?_⟩⟩
 have h1:(w.alloc (.cells (ss.map Value.string).toArray t)).heap[w.heap.size]? = some (.cells (ss.map Value.string).toArray t):=heap_alloc_new w _
 have h2:(⟨w.heap.size,0+i * 1,none⟩:Addr) = ⟨w.heap.size,i,none⟩:=by simp
 rw [h2,cell_of_row _ w.heap.size i _ _ _ h1]
 simp [hi]
theorem lbReserved_any (w:World) :
  Calls Tryz.prog 153 #[] w fun e w'=>∃ n:Nat,e = .returned (.slice (some ⟨w.heap.size,0,none⟩) n n)∧n≤14∧14≤n∧StrsAt w' (.slice (some ⟨w.heap.size,0,none⟩) n n) reserved∧Below w.heap.size w w'∧w.heap.size < w'.heap.size:=by
 go_enter Tryz.func153,Tryz.ntmps153
 go_wp2
 go_ret
 exact ⟨14,rfl,Nat.le_refl _,Nat.le_refl _,strs_made w reserved _,(Below.refl _ _).alloc (Nat.le_refl _) _,by simp⟩
theorem kindWords_any (w:World) :
  Calls Tryz.prog 172 #[] w fun e w'=>∃ n:Nat,e = .returned (.slice (some ⟨w.heap.size,0,none⟩) n n)∧n≤15∧15≤n∧StrsAt w' (.slice (some ⟨w.heap.size,0,none⟩) n n) kwords∧Below w.heap.size w w'∧w.heap.size < w'.heap.size:=by
 go_enter Tryz.func172,Tryz.ntmps172
 go_wp2
 go_ret
 exact ⟨15,rfl,Nat.le_refl _,Nat.le_refl _,strs_made w kwords _,(Below.refl _ _).alloc (Nat.le_refl _) _,by simp⟩
def wordFrom (s:ByteArray) (d:Int):List ByteArray → Nat → Int
 | [],_=>d
 | x :: r,k=>if x = s then k else wordFrom s d r (k+1)
def kindOfW (s:ByteArray):Int:=wordFrom s 17 kwords 0
set_option maxRecDepth 100000 in
theorem kindOf_any (s:ByteArray) (w:World) :
  Calls Tryz.prog 115 #[.string s] w fun e w'=>e = .returned (.int .i64 (kindOfW s))∧Below w.heap.size w w':=by
 go_enter Tryz.func115,Tryz.ntmps115
 go_wp2_with (go_at_call 172;refine (kindWords_any _).mono ?_;rintro e w1 ⟨n,rfl,hn1,hn2,hst,hb1,hs1⟩)
 obtain ⟨a,cap,ha,hc,hat⟩:=hst
 simp only [Value.slice.injEq,Option.some.injEq] at ha
 obtain ⟨rfl,hn3,rfl⟩:=ha
 clear hn3
 have hl:kwords.length = 15:=rfl
 go_loopw [7] (fun i wr=>∃ k:Nat,k≤n∧i = .int .i64 k∧Hid (kindOfW s = wordFrom s 17 (kwords.drop k) k)∧Below w1.heap.size w1 wr) (fun i _=>n - (intOf i).toNat)
 case atStart=>exact ⟨0,by omega,rfl,(show Hid _ from (rfl:kindOfW s = _)),Below.refl _ _⟩
 case round =>
  obtain ⟨k,hk,rfl,HF,hbel⟩:=hrel
  by_cases hlt:k < n
  ·obtain ⟨b,o,hbo,_,hnd⟩:=hat k (by omega)
   simp only [Option.some.injEq,Addr.mk.injEq] at hbo
   obtain ⟨rfl,rfl,_⟩:=hbo
   have c0:=cell_keep hbel hnd
   simp only [Nat.zero_add,Nat.mul_one] at c0
   have hsz:=hbel.size
   clear hat hnd
   have hkl:k < kwords.length:=by omega
   by_cases he:kwords[k] = s
   ·have g1:(kwords[k].toList == s.toList) = true:=by rw [str_beq];simp [he]
    have HK:Hid (kindOfW s = k):=by
     show kindOfW s = k
     rw [HF.out,List.drop_eq_getElem_cons hkl,wordFrom,if_pos he]
    clear he
    go_wp2
    go_ret
    exact ⟨ret_int HK.out.symm,hb1.trans (hbel.mono (by omega))⟩
   ·have g1:(kwords[k].toList == s.toList) = false:=by rw [str_beq];simp [he]
    have HK:Hid (kindOfW s = wordFrom s 17 (kwords.drop (k+1)) (k+1)):=by
     show kindOfW s = _
     rw [HF.out,List.drop_eq_getElem_cons hkl,wordFrom,if_neg he]
    clear he
    go_wp2
    go_roundw
    case rel=>exact ⟨k+1,by omega,by go_num,HK,hbel⟩
    case measure=>simp [intOf];omega
  ·go_wp2
   go_ret
   have hkk:k = 15:=by omega
   rw [hkk] at HF
   exact ⟨ret_int HF.out.symm,hb1.trans (hbel.mono (by omega))⟩
def lodB (b:UInt8):Bool:=lowB b || digB b
def restB (s:ByteArray) (k:Nat):Bool:=(s.data.toList.drop k).all lodB
theorem restB_step (s:ByteArray) (k:Nat) (h:k < s.size):restB s k = (lodB s[k] && restB s (k+1)):=by
 unfold restB
 rw [List.drop_eq_getElem_cons (by simpa using h),List.all_cons]
 rfl
theorem restB_end (s:ByteArray) (k:Nat) (h:s.size≤k):restB s k = true:=by
 unfold restB
 rw [List.drop_eq_nil_of_le (by simpa using h)]
 rfl
def wordB (s:ByteArray):Bool:=if h:1≤s.size∧s.size≤8 then lowB (s[0]'(by omega)) && restB s 1 else false
theorem wordB_no {s:ByteArray} (h:¬ (1≤s.size∧s.size≤8)):wordB s = false:=by unfold wordB;rw [dif_neg h]
theorem wordB_low {s:ByteArray} (h:1≤s.size∧s.size≤8) (hl:lowB (s[0]'(by omega)) = false):wordB s = false:=by unfold wordB;rw [dif_pos h,hl];rfl
theorem wordB_rest {s:ByteArray} (h:1≤s.size∧s.size≤8) (hl:lowB (s[0]'(by omega)) = true):wordB s = restB s 1:=by unfold wordB;rw [dif_pos h,hl];rfl
theorem wordB_rest0 {s:ByteArray} (h:1≤s.size∧s.size≤8) (hl:lowB (s[0]'(by omega)) = true):wordB s = restB s 0:=by rw [wordB_rest h hl,restB_step s 0 (by omega)];simp [lodB,hl]
def nameB (s:ByteArray):Bool:=wordB s && decide (kindOfW s = 17)
set_option maxRecDepth 100000 in
theorem isName_any (s:ByteArray) (w:World) (hs:s.size≤1048576) :
  Calls Tryz.prog 70 #[.string s] w fun e w'=>e = .returned (.bool (nameB s))∧Below w.heap.size w w':=by
 by_cases hsz:1≤s.size∧s.size≤8
 ·have h0:0 < s.size:=by omega
  have g1:inB s.size 1 8 = true:=by simp [inB];omega
  cases hl:lowB s[0] with
  | false =>
   go_enter Tryz.func70,Tryz.ntmps70
   go_wp2_with (first|(go_at_call 113;refine (within_any _ _ _ _).mono ?_;rintro e w1 ⟨rfl,rfl⟩)|(go_at_call 114;refine (isLower_any _ _).mono ?_;rintro e w1 ⟨rfl,rfl⟩))
   go_ret
   exact ⟨ret_bool (by simp [nameB,wordB_low hsz hl]),Below.refl _ _⟩
  | true =>
   by_cases hk:kindOfW s = 17
   ·have g2:(kindOfW s != 17) = false:=by simp [hk]
    have HF0:Hid (nameB s = restB s 0):=(show nameB s = restB s 0 by simp [nameB,hk,wordB_rest0 hsz hl])
    clear hk
    go_enter Tryz.func70,Tryz.ntmps70
    go_wp2_with (first|(go_at_call 113;refine (within_any _ _ _ _).mono ?_;rintro e w1 ⟨rfl,rfl⟩)|(go_at_call 114;refine (isLower_any _ _).mono ?_;rintro e w1 ⟨rfl,rfl⟩)|(go_at_call 115;refine (kindOf_any _ _).mono ?_;rintro e w1 ⟨rfl,hb1⟩))
    go_loopw [21] (fun i wr=>∃ k:Nat,k≤s.size∧i = .int .i64 k∧Hid (nameB s = restB s k)∧Below w.heap.size w wr) (fun i _=>s.size - (intOf i).toNat)
    case atStart=>exact ⟨0,by omega,rfl,HF0,hb1⟩
    case round =>
     obtain ⟨k,hk,rfl,HF,hbel⟩:=hrel
     clear HF0 hb1
     by_cases hlt:k < s.size
     ·have hst:=restB_step s k hlt
      cases q1:lowB s[k] <;> cases q2:digB s[k]
      all_goals
       have HK:=Lib.hid (HF.out.trans hst)
       simp only [lodB,q1,q2,Bool.or_false,Bool.or_true,Bool.false_and,Bool.true_and] at HK
       clear hst HF
       go_wp2_with (first|(go_at_call 114;refine (isLower_any _ _).mono ?_;rintro e w1 ⟨rfl,rfl⟩)|(go_at_call 116;refine (isDigit_any _ _).mono ?_;rintro e w1 ⟨rfl,rfl⟩))
      ·go_ret
       exact ⟨ret_bool (by have:=HK.out;simpa [lodB,q1,q2] using this.symm),hbel⟩
      all_goals
       go_roundw
       case rel=>exact ⟨k+1,by omega,by go_num,(show nameB s = _ by have:=HK.out;simpa [lodB,q1,q2] using this),hbel⟩
       case measure=>simp [intOf];omega
     ·go_wp2
      go_ret
      exact ⟨ret_bool (by rw [HF.out,restB_end s k (by omega)]),hbel⟩
   ·have g2:(kindOfW s != 17) = true:=by simp [hk]
    go_enter Tryz.func70,Tryz.ntmps70
    go_wp2_with (first|(go_at_call 113;refine (within_any _ _ _ _).mono ?_;rintro e w1 ⟨rfl,rfl⟩)|(go_at_call 114;refine (isLower_any _ _).mono ?_;rintro e w1 ⟨rfl,rfl⟩)|(go_at_call 115;refine (kindOf_any _ _).mono ?_;rintro e w1 ⟨rfl,hb1⟩))
    go_ret
    exact ⟨ret_bool (by simp [nameB,hk]),hb1⟩
 ·have g1:inB s.size 1 8 = false:=by simp [inB];omega
  go_enter Tryz.func70,Tryz.ntmps70
  go_wp2_with (go_at_call 113;refine (within_any _ _ _ _).mono ?_;rintro e w1 ⟨rfl,rfl⟩)
  go_ret
  exact ⟨ret_bool (by simp [nameB,wordB_no hsz]),Below.refl _ _⟩
end Go.Proofs.YtldhpaflmnlcaaaGreatDoor
/-
  markText: the letter m and the digits of a number. Own work.
-/
namespace Go.Proofs.YtldhpaflmnlcaaaGreatDoor
open Go.RowKit
theorem ba_cons (d:UInt8) (l:List UInt8):(⟨#[d]⟩:ByteArray) ++ ⟨l.toArray⟩ = ⟨(d :: l).toArray⟩:=by
 apply ByteArray.ext
 simp
theorem mdig_toNat (m:Nat):((mdig m).toNat:Int) = 48+(m:Int) % 10:=by
 unfold mdig
 have h:(48+m % 10) < 256:=by omega
 rw [UInt8.toNat_ofNat_of_lt' h]
 omega
theorem conv_digit (w:World) (m:Nat):(convert 168 9 (.slice (some ⟨w.heap.size,0,none⟩) 1 1)).run Tryz.prog (w.alloc (.cells #[.int .u8 (48+(m:Int) % 10)] 5)) =
  .ok (.string ⟨#[mdig m]⟩) (w.alloc (.cells #[.int .u8 (48+(m:Int) % 10)] 5)):=by
 have:=run_convert_bytes_back (P:=Tryz.prog) (w.alloc (.cells #[.int .u8 (48+(m:Int) % 10)] 5)) 168 9 5 ⟨w.heap.size,0,none⟩ 1 [mdig m] Tryz.underlying168 Tryz.underlying5 Tryz.underlying9 (by
  intro j hj
  have:j = 0:=by simpa using hj
  subst this
  simp [Addr.add,mdig_toNat])
 simpa using this
set_option maxRecDepth 100000 in
set_option maxHeartbeats 1000000 in
theorem markText_any (k:Int) (w:World) (h0:0≤k) (h1:k≤16777216) :
  Calls Tryz.prog 72 #[.int .i64 k] w fun e w'=>e = .returned (.string (mtext k))∧Below w.heap.size w w':=by
 obtain ⟨n,rfl⟩:=Int.eq_ofNat_of_zero_le h0
 by_cases hz:n = 0
 ·subst hz
  go_enter Tryz.func72,Tryz.ntmps72
  go_wp2
  go_ret
  exact ⟨rfl,Below.refl _ _⟩
 ·have hp:¬ ((n:Int)≤0):=by omega
  go_enter Tryz.func72,Tryz.ntmps72
  go_wp2
  go_loopw [0,3] (fun kv out wr=>∃ (m:Nat) (l:List UInt8),kv = .int .i64 m∧out = .string ⟨l.toArray⟩∧Hid (mgo n [] = mgo m l)∧l.length+m≤n∧Below w.heap.size w wr) (fun kv _ _=>(intOf kv).toNat)
  case atStart=>exact ⟨n,[],rfl,rfl,(rfl:Hid (mgo n [] = mgo n [])),by simp,Below.refl _ _⟩
  case round =>
   obtain ⟨m,l,rfl,rfl,HM,hl,hbel⟩:=hrel
   by_cases hm:0 < m
   ·have hm':(0:Int) < m:=by omega
    have hcv:=conv_digit wr m
    have HS:Hid (mgo m l = mgo (m / 10) (mdig m :: l)):=(show mgo m l = _ from mgo_pos hm l)
    go_wp2
    go_roundw
    case rel=>exact ⟨m / 10,mdig m :: l,by go_num,by rw [ba_cons],(HM.out.trans HS.out:Hid _),by simp;omega,hbel.alloc hbel.size _⟩
    case measure=>simp [intOf];omega
   ·have hm':¬ (0:Int) < m:=by omega
    have:m = 0:=by omega
    subst this
    go_wp2
    go_ret
    refine ⟨?_,hbel⟩
    rw [mgo_zero] at HM
    refine (?_:Ending.returned (.string ((⟨#[109]⟩:ByteArray) ++ ⟨#[]⟩ ++ ⟨l.toArray⟩)) = _)
    unfold mtext
    rw [if_neg (by omega),Int.toNat_natCast,HM.out,← ba_cons]
    congr 2
end Go.Proofs.YtldhpaflmnlcaaaGreatDoor
/-
  The marks: written into what a law holds, and read again. Own work.
-/
namespace Go.Proofs.YtldhpaflmnlcaaaGreatDoor
open Go.RowKit
theorem Exc.trans {T:Nat → Prop} {w0 w1 w2:World} (h:Exc T w0 w1) (h':Exc T w1 w2):Exc T w0 w2 :=
 ⟨h'.os.trans h.os,h'.tape.trans h.tape,h'.output.trans h.output,Nat.le_trans h.size h'.size,fun k hk ht=>(h'.block k (Nat.lt_of_lt_of_le hk h.size) ht).trans (h.block k hk ht)⟩
theorem Exc.mono {T T':Nat → Prop} {w0 w1:World} (h:Exc T w0 w1) (ht:∀ k,T k → T' k):Exc T' w0 w1 :=
 ⟨h.os,h.tape,h.output,h.size,fun k hk hn=>h.block k hk (fun h'=>hn (ht k h'))⟩
theorem owns_exc {T:Nat → Prop} {w w':World} {B e sz:Nat} {v:Value} {n:Nat} {xs:List Value} (hE:Exc T w w') (h:w.ownsRow B e sz v n xs) (hT:∀ k,v.ownBlock = some k → ¬ T k):w'.ownsRow B e sz v n xs:=by
 refine ⟨h.1,?_⟩
 rcases h.2 with hn|⟨g,cap,cur,rfl,hbb,hgg,rest⟩
 ·exact .inl hn
 ·exact .inr ⟨g,cap,cur,rfl,hbb,(hE.block g (Array.getElem?_eq_some_iff.1 hgg).1 (hT g rfl)).trans hgg,rest⟩
def Own1 (v:Value):Nat → Prop:=fun k=>v.ownBlock = some k
def markedTo (ns:List Nd) (k:Int) (i:Nat):List Nd:=mkNds i k ++ ns.drop i
theorem markedTo_set (ns:List Nd) (k:Int) (i:Nat) (hi:i < ns.length):(markedTo ns k i).set i (mkNd (k+3 * i)) = markedTo ns k (i+1):=by
 unfold markedTo
 rw [List.set_append_right _ _ (by rw [mkNds_length];exact Nat.le_refl _),mkNds_length,Nat.sub_self,List.drop_eq_getElem_cons hi,List.set_cons_zero,mkNds_snoc,List.append_assoc]
 rfl
theorem nds_set_b {w w2:World} {B e g n cap:Nat} {xs:List Nd} (h:w.ownsRow B e 3 (.slice (some ⟨g,0,none⟩) n cap) n (xs.flatMap ndCells)) (i:Nat) (hi:i < xs.length) (d:Nd)
  (hb:Below ((w.setCell ⟨g,i * 3,none⟩ (.int .i64 d.kind)).setCell ⟨g,i * 3+1,none⟩ (.int .i64 d.value)).heap.size ((w.setCell ⟨g,i * 3,none⟩ (.int .i64 d.kind)).setCell ⟨g,i * 3+1,none⟩ (.int .i64 d.value)) w2) :
  (w2.setCell ⟨g,i * 3+2,none⟩ (.string d.name)).ownsRow B e 3 (.slice (some ⟨g,0,none⟩) n cap) n ((xs.set i d).flatMap ndCells):=by
 have h1:=owns_set ndCells_len h i 0 _ hi (by omega) rfl (.int .i64 d.kind) ⟨d.kind,xs[i].value,xs[i].name⟩ rfl
 have h2:=owns_keep hb (owns_set ndCells_len h1 i 1 _ (by simpa using hi) (by omega) rfl (.int .i64 d.value) ⟨d.kind,d.value,xs[i].name⟩ (by simp [ndCells]))
 have h3:=owns_set ndCells_len h2 i 2 _ (by simpa using hi) (by omega) rfl (.string d.name) d (by simp [ndCells])
 simpa using h3
theorem mark_step {wr w2:World} {B e g cap n:Nat} {ns:List Nd} {k:Int} {i:Nat} (hn:ns.length = n) (hi:i < ns.length)
  (hown:wr.ownsRow B e 3 (.slice (some ⟨g,0,none⟩) n cap) n ((markedTo ns k i).flatMap ndCells))
  (hb2:Below ((wr.setCell ⟨g,i * 3,none⟩ (.int .i64 (k+3 * i))).setCell ⟨g,i * 3+1,none⟩ (.int .i64 (k+3 * i+1))).heap.size ((wr.setCell ⟨g,i * 3,none⟩ (.int .i64 (k+3 * i))).setCell ⟨g,i * 3+1,none⟩ (.int .i64 (k+3 * i+1))) w2) :
  ((w2.setCell ⟨g,i * 3+2,none⟩ (.string (mtext (k+3 * i+1+1)))).ownsRow B e 3 (.slice (some ⟨g,0,none⟩) n cap) n ((markedTo ns k (i+1)).flatMap ndCells)) ∧
   Exc (fun j=>j = g) wr (w2.setCell ⟨g,i * 3+2,none⟩ (.string (mtext (k+3 * i+1+1)))):=by
 have hll:i < (markedTo ns k i).length:=by simp [markedTo,mkNds_length];omega
 refine ⟨?_,?_⟩
 ·have h3:=nds_set_b hown i hll ⟨k+3 * i,k+3 * i+1,mtext (k+3 * i+1+1)⟩ hb2
  have e:(markedTo ns k i).set i ⟨k+3 * i,k+3 * i+1,mtext (k+3 * i+1+1)⟩ = markedTo ns k (i+1):=by
   rw [← markedTo_set ns k i hi]
   unfold mkNd
   rw [show k+3 * (i:Int)+2 = k+3 * i+1+1 by omega]
  rw [← e]
  exact h3
 ·have e1:Exc (fun j=>j = g) wr (wr.setCell ⟨g,i * 3,none⟩ (.int .i64 (k+3 * i))):=exc_set (T:=fun j=>j = g) (Exc.refl _ wr) (.inr rfl) _
  have e2:Exc (fun j=>j = g) wr ((wr.setCell ⟨g,i * 3,none⟩ (.int .i64 (k+3 * i))).setCell ⟨g,i * 3+1,none⟩ (.int .i64 (k+3 * i+1))):=exc_set (T:=fun j=>j = g) e1 (.inr rfl) _
  exact exc_set (T:=fun j=>j = g) (e2.below hb2) (.inr rfl) _
set_option maxRecDepth 100000 in
set_option maxHeartbeats 2000000 in
theorem markNodeS_any (v:Value) (ns:List Nd) (k:Int) (B:Nat) (w:World) (hv:NdsOwn w B v ns) (hn:ns.length≤1048576) (h0:0≤k) (h1:k≤8388608) :
  Calls Tryz.prog 73 #[v,.int .i64 k] w fun e w'=>e = .returned (.int .i64 (k+3 * ns.length))∧NdsOwn w' B v (mkNds ns.length k)∧Exc (Own1 v) w w':=by
 obtain ⟨a,cap,rfl⟩:=hv.slice
 go_enter Tryz.func73,Tryz.ntmps73
 go_wp2
 go_loopw [1,5] (fun kv iv wr=>∃ i:Nat,i≤ns.length∧iv = .int .i64 i∧kv = .int .i64 (k+3 * i)∧NdsOwn wr B (.slice a ns.length cap) (markedTo ns k i)∧Exc (Own1 (.slice a ns.length cap)) w wr) (fun _ iv _=>ns.length - (intOf iv).toNat)
 case atStart=>exact ⟨0,by omega,rfl,by simp,by simpa [markedTo,mkNds] using hv,Exc.refl _ _⟩
 case round =>
  obtain ⟨i,hi,rfl,rfl,hown,hex⟩:=hrel
  by_cases hlt:i < ns.length
  ·have hll:(markedTo ns k i).length = ns.length:=by simp [markedTo,mkNds_length];omega
   unfold NdsOwn at hown
   rw [hll] at hown
   obtain ⟨g,cp,he,hgc,hgm,hgB,hgs⟩:=owns_some' hown (by omega)
   simp only [Value.slice.injEq] at he
   obtain ⟨rfl,_,rfl⟩:=he
   obtain ⟨x,y,z,d0,d1,d2,q0,q1,q2⟩:=nds_old hown i (by rw [hll];exact hlt)
   have HL:=Lib.hid hll
   clear hll
   go_wp2_with (go_at_call 72;refine (markText_any _ _ (by omega) (by omega)).mono ?_;rintro e w2 ⟨rfl,hb2⟩;obtain ⟨hc2,hf2,hs2⟩:=bcell hb2;simp only [setCell_size] at hs2)
   obtain ⟨s1,s2⟩:=mark_step rfl hlt hown hb2
   go_roundw
   case rel=>exact ⟨i+1,by omega,by go_num,by go_num,by (unfold NdsOwn;rw [show (markedTo ns k (i+1)).length = ns.length by simp [markedTo,mkNds_length];omega];exact s1),hex.trans (s2.mono (fun j hj=>by simp [Own1,Value.ownBlock,hj]))⟩
   case measure=>simp [intOf];omega
  ·have hii:i = ns.length:=by omega
   subst hii
   go_wp2
   go_ret
   refine ⟨rfl,?_,hex⟩
   simpa [markedTo] using hown
end Go.Proofs.YtldhpaflmnlcaaaGreatDoor
/-
  The marks of terms, definitions, entries and libraries. Own work.
-/
namespace Go.Proofs.YtldhpaflmnlcaaaGreatDoor
open Go.RowKit
theorem markTerm_any (v:Value) (ns:List Nd) (k:Int) (B:Nat) (w:World) (hv:NdsOwn w B v ns) (hn:ns.length≤1048576) (h0:0≤k) (h1:k≤8388608) :
  Calls Tryz.prog 31 #[.agg #[v],.int .i64 k] w fun e w'=>e = .returned (.int .i64 (k+3 * ns.length))∧NdsOwn w' B v (mkNds ns.length k)∧Exc (Own1 v) w w':=by
 obtain ⟨a,cap,rfl⟩:=hv.slice
 go_enter Tryz.func31,Tryz.ntmps31
 go_wp2_with (go_at_call 73;refine (markNodeS_any _ ns _ B _ (hv.keep (alloc_below _ _)) hn h0 h1).mono ?_;rintro e w2 ⟨rfl,hown,hex⟩)
 go_ret
 exact ⟨rfl,hown,(Below.exc (alloc_below _ _)).trans hex⟩
theorem markDef_any (v:Value) (d:Df) (k:Int) (B:Nat) (w:World) (hv:NdsOwn w B v d.body) (hn:d.body.length≤1048576) (h0:0≤k) (h1:k≤8388608) :
  Calls Tryz.prog 23 #[.agg #[.string d.name,.int .i64 d.inn,.int .i64 d.out,v],.int .i64 k] w fun e w'=>e = .returned (.int .i64 (k+3 * d.body.length))∧NdsOwn w' B v (mkNds d.body.length k)∧Exc (Own1 v) w w':=by
 obtain ⟨a,cap,rfl⟩:=hv.slice
 go_enter Tryz.func23,Tryz.ntmps23
 go_wp2_with (go_at_call 31;refine (markTerm_any _ d.body _ B _ (hv.keep (alloc_below _ _)) hn h0 h1).mono ?_;rintro e w2 ⟨rfl,hown,hex⟩)
 go_ret
 exact ⟨rfl,hown,(Below.exc (alloc_below _ _)).trans hex⟩
theorem markEntry_any (v:Value) (d:En) (k:Int) (B:Nat) (w:World) (hv:NdsOwn w B v d.body) (hn:d.body.length≤1048576) (h0:0≤k) (h1:k≤8388608) :
  Calls Tryz.prog 40 #[.agg #[.int .i64 d.kind,.string d.name,.string d.to,v],.int .i64 k] w fun e w'=>e = .returned (.int .i64 (k+3 * d.body.length))∧NdsOwn w' B v (mkNds d.body.length k)∧Exc (Own1 v) w w':=by
 obtain ⟨a,cap,rfl⟩:=hv.slice
 go_enter Tryz.func40,Tryz.ntmps40
 go_wp2_with (go_at_call 31;refine (markTerm_any _ d.body _ B _ (hv.keep (alloc_below _ _)) hn h0 h1).mono ?_;rintro e w2 ⟨rfl,hown,hex⟩)
 go_ret
 exact ⟨rfl,hown,(Below.exc (alloc_below _ _)).trans hex⟩
def OwnD (v:Value) (xs:List (Df × Value)):Nat → Prop:=fun k=>v.ownBlock = some k∨∃ x ∈ xs,x.2.ownBlock = some k
def mkDf (d:Df) (k:Int):Df:=⟨mtext k,k+1,k+1+1,mkNds d.body.length (k+1+1+1)⟩
def mkDs (L:List Df) (k:Int):List Df:=L.mapIdx fun j d=>mkDf d (k+mkLen (L.take j))
def lenD (xs:List (Df × Value)):Int:=mkLen (xs.map Prod.fst)
def markedD (xs:List (Df × Value)) (k:Int) (i:Nat):List (Df × Value):=xs.mapIdx fun j x=>if j < i then (mkDf x.1 (k+lenD (xs.take j)),x.2) else x
theorem markedD_length (xs:List (Df × Value)) (k:Int) (i:Nat):(markedD xs k i).length = xs.length:=by simp [markedD]
theorem markedD_zero (xs:List (Df × Value)) (k:Int):markedD xs k 0 = xs:=by
 apply List.ext_getElem (by simp [markedD])
 intro j h1 h2
 simp [markedD]
theorem markedD_get (xs:List (Df × Value)) (k:Int) (i:Nat) (h:i < xs.length):(markedD xs k i)[i]'(by rw [markedD_length];exact h) = xs[i]:=by simp [markedD]
theorem markedD_set (xs:List (Df × Value)) (k:Int) (i:Nat) (h:i < xs.length):(markedD xs k i).set i (mkDf xs[i].1 (k+lenD (xs.take i)),xs[i].2) = markedD xs k (i+1):=by
 apply List.ext_getElem (by simp [markedD])
 intro j h1 h2
 by_cases hj:i = j
 ·subst hj
  simp [markedD]
 ·rw [List.getElem_set_ne hj]
  simp only [markedD,List.getElem_mapIdx]
  by_cases hji:j < i
  ·rw [if_pos hji,if_pos (by omega)]
  ·rw [if_neg hji,if_neg (by omega)]
theorem markedD_all (xs:List (Df × Value)) (k:Int):(markedD xs k xs.length).map Prod.fst = mkDs (xs.map Prod.fst) k:=by
 apply List.ext_getElem (by simp [markedD,mkDs])
 intro j h1 h2
 have hj:j < xs.length:=by simpa [markedD] using h1
 simp only [List.getElem_map,markedD,mkDs,List.getElem_mapIdx]
 rw [if_pos hj]
 simp [lenD,List.map_take]
theorem markedD_snd (xs:List (Df × Value)) (k:Int) (i:Nat):(markedD xs k i).map Prod.snd = xs.map Prod.snd:=by
 apply List.ext_getElem (by simp [markedD])
 intro j h1 h2
 simp only [List.getElem_map,markedD,List.getElem_mapIdx]
 split <;> rfl
theorem lenD_take (xs:List (Df × Value)) (i:Nat) (h:i < xs.length):lenD (xs.take (i+1)) = lenD (xs.take i)+3+3 * xs[i].1.body.length:=by
 unfold lenD
 rw [List.map_take,List.map_take,mkLen_take (xs.map Prod.fst) i (by simpa using h)]
 simp
theorem lenD_le (xs:List (Df × Value)) (i:Nat):0≤lenD (xs.take i)∧lenD (xs.take i)≤lenD xs:=by
 refine ⟨mkLen_nonneg _,?_⟩
 unfold lenD
 conv=>rhs;rw [← List.take_append_drop i xs]
 rw [List.map_append]
 generalize xs.take i = a
 generalize xs.drop i = b
 induction a with
 | nil=>simp [mkLen];exact mkLen_nonneg _
 | cons x r ih=>simp only [List.map_cons,List.cons_append,mkLen] at ih ⊢;omega
def markW (w2:World) (g i:Nat) (nm:ByteArray) (a b:Int):World:=((w2.setCell ⟨g,i * 4,none⟩ (.string nm)).setCell ⟨g,i * 4+1,none⟩ (.int .i64 a)).setCell ⟨g,i * 4+2,none⟩ (.int .i64 b)
theorem markW_nds {w2:World} {g i:Nat} {nm:ByteArray} {a b:Int} {B:Nat} {u:Value} {ns:List Nd} (h:NdsOwn w2 B u ns) (hne:u.ownBlock ≠ some g):NdsOwn (markW w2 g i nm a b) B u ns :=
 owns_other (owns_other (owns_other h _ _ hne) _ _ hne) _ _ hne
theorem dfs_row_ne {w:World} {B g n cap:Nat} {ys:List (Df × Value)} (h:DfsRow w B (.slice (some ⟨g,0,none⟩) n cap) ys):∀ x ∈ ys,x.2.ownBlock ≠ some g:=fun x hx e=>owns_ne (h.2.1 x hx) h.1 (by decide) g e rfl
theorem markD_step {wr w2 w3:World} {B g n cap:Nat} {ys:List (Df × Value)} {i:Nat} {nm:ByteArray} {a b:Int} {nb:List Nd} (hn:ys.length = n) (h:DfsRow wr B (.slice (some ⟨g,0,none⟩) n cap) ys) (hi:i < ys.length) (hb2:Below wr.heap.size wr w2)
  (h3:NdsOwn w3 B ys[i].2 nb) (hex:Exc (Own1 ys[i].2) (markW w2 g i nm a b) w3):DfsRow w3 B (.slice (some ⟨g,0,none⟩) n cap) (ys.set i (⟨nm,a,b,nb⟩,ys[i].2))∧Exc (OwnD (.slice (some ⟨g,0,none⟩) n cap) ys) wr w3:=by
 subst hn
 have h2:=h.keep hb2
 have hne:=dfs_row_ne h2
 have r1:=owns_set dfCells_len h2.1 i 0 _ hi (by omega) rfl (.string nm) (⟨nm,ys[i].1.inn,ys[i].1.out,ys[i].1.body⟩,ys[i].2) rfl
 have r2:=owns_set dfCells_len r1 i 1 _ (by simpa using hi) (by omega) rfl (.int .i64 a) (⟨nm,a,ys[i].1.out,ys[i].1.body⟩,ys[i].2) (by simp [dfCells])
 have r3:=owns_set dfCells_len r2 i 2 _ (by simpa using hi) (by omega) rfl (.int .i64 b) (⟨nm,a,b,nb⟩,ys[i].2) (by simp [dfCells])
 rw [List.set_set,List.set_set] at r3
 have r4:=owns_exc hex r3 (fun k hk hT=>by
  have h5:=hne ys[i] (List.getElem_mem _)
  simp only [Value.ownBlock,Option.map_some,Option.some.injEq] at hk
  subst hk
  exact h5 hT)
 refine ⟨⟨by rw [List.length_set];exact r4,?_,?_⟩,?_⟩
 ·intro x hx
  obtain ⟨j,hj,rfl⟩:=List.getElem_of_mem hx
  have hj':j < ys.length:=by simpa using hj
  by_cases hij:i = j
  ·subst hij
   rw [List.getElem_set_self]
   exact h3
  ·rw [List.getElem_set_ne hij]
   have h5:=markW_nds (g:=g) (i:=i) (nm:=nm) (a:=a) (b:=b) (h2.2.1 ys[j] (List.getElem_mem _)) (hne _ (List.getElem_mem _))
   refine owns_exc hex h5 (fun k hk hT=>?_)
   have hp:=List.pairwise_iff_getElem.1 h.2.2
   rcases Nat.lt_or_gt_of_ne hij with hlt|hlt
   ·exact hp i j hi hj' hlt k hT hk
   ·exact hp j i hj' hi hlt k hk hT
 ·have e:(ys.set i (⟨nm,a,b,nb⟩,ys[i].2)).map Prod.snd = ys.map Prod.snd:=by
   apply List.ext_getElem (by simp)
   intro j h1 h2
   simp only [List.getElem_map]
   by_cases hij:i = j
   ·subst hij;rw [List.getElem_set_self]
   ·rw [List.getElem_set_ne hij]
  have h6:(ys.map Prod.snd).Pairwise Apart:=List.pairwise_map.2 h.2.2
  rw [← e] at h6
  exact List.pairwise_map.1 h6
 ·have e1:Exc (OwnD (.slice (some ⟨g,0,none⟩) ys.length cap) ys) wr w2:=Below.exc hb2
  have ht:OwnD (.slice (some ⟨g,0,none⟩) ys.length cap) ys g:=.inl rfl
  have e2:Exc (OwnD (.slice (some ⟨g,0,none⟩) ys.length cap) ys) wr (markW w2 g i nm a b) :=
   exc_set (T:=OwnD (.slice (some ⟨g,0,none⟩) ys.length cap) ys) (exc_set (T:=OwnD (.slice (some ⟨g,0,none⟩) ys.length cap) ys) (exc_set (T:=OwnD (.slice (some ⟨g,0,none⟩) ys.length cap) ys) e1 (.inr ht) _) (.inr ht) _) (.inr ht) _
  exact e2.trans (hex.mono (fun k hk=>.inr ⟨ys[i],List.getElem_mem _,hk⟩))
theorem OwnD_congr {v:Value} {xs ys:List (Df × Value)} (h:xs.map Prod.snd = ys.map Prod.snd):∀ k,OwnD v xs k → OwnD v ys k:=by
 rintro k (hk|⟨x,hx,hk⟩)
 ·exact .inl hk
 ·have:x.2 ∈ ys.map Prod.snd:=by rw [← h];exact List.mem_map_of_mem hx
  obtain ⟨y,hy,e⟩:=List.mem_map.1 this
  exact .inr ⟨y,hy,by rw [e];exact hk⟩
set_option maxRecDepth 100000 in
set_option maxHeartbeats 2000000 in
theorem markDefS_any (v:Value) (xs:List (Df × Value)) (k:Int) (B:Nat) (w:World) (hv:DfsRow w B v xs) (hn:xs.length≤1048576) (hb:∀ x ∈ xs,x.1.body.length≤1048576) (h0:0≤k) (h1:k+lenD xs≤8388608) :
  Calls Tryz.prog 22 #[v,.int .i64 k] w fun e w'=>e = .returned (.int .i64 (k+lenD xs))∧DfsRow w' B v (markedD xs k xs.length)∧Exc (OwnD v xs) w w':=by
 obtain ⟨a,cap,rfl⟩:=hv.shape xs.length rfl
 go_enter Tryz.func22,Tryz.ntmps22
 go_wp2
 go_loopw [1,5] (fun kv iv wr=>∃ i:Nat,i≤xs.length∧iv = .int .i64 i∧kv = .int .i64 (k+lenD (xs.take i))∧DfsRow wr B (.slice a xs.length cap) (markedD xs k i)∧Exc (OwnD (.slice a xs.length cap) xs) w wr) (fun _ iv _=>xs.length - (intOf iv).toNat)
 case atStart=>exact ⟨0,by omega,rfl,by simp [lenD,mkLen],by rw [markedD_zero];exact hv,Exc.refl _ _⟩
 case round =>
  obtain ⟨i,hi,rfl,rfl,hrow,hex⟩:=hrel
  by_cases hlt:i < xs.length
  ·have hll:i < (markedD xs k i).length:=by rw [markedD_length];exact hlt
   have hrow1:=hrow.1
   rw [markedD_length] at hrow1
   obtain ⟨g,cp,he,hgc,hgm,hgB,hgs⟩:=owns_some' hrow1 (by omega)
   simp only [Value.slice.injEq] at he
   obtain ⟨rfl,_,rfl⟩:=he
   obtain ⟨d0,d1,d2,d3,q0,q1,q2,q3⟩:=df_old hrow1 i hll
   have hbd:=hrow.2.1 _ (List.getElem_mem hll)
   have hne:=dfs_row_ne hrow _ (List.getElem_mem hll)
   rw [markedD_get xs k i hlt] at d0 d1 d2 d3 hbd hne
   obtain ⟨va,vc,hvs⟩:=hbd.slice
   rw [hvs] at d3 hbd hne
   have hlen:=lenD_le xs i
   have hlen2:=lenD_le xs (i+1)
   have hstep:=lenD_take xs i hlt
   have hbl:=hb xs[i] (List.getElem_mem _)
   have hb0:k+lenD (xs.take i)+1+1+1≤8388608:=by omega
   have HST:=Lib.hid (And.intro hstep hvs)
   clear hstep hvs
   go_wp2_with (first|(go_at_call 72;refine (markText_any _ _ (by omega) (by omega)).mono ?_;rintro e w2 ⟨rfl,hb2⟩;obtain ⟨hc2,hf2,hs2⟩:=bcell hb2)|(go_at_call 73;refine (markNodeS_any _ xs[i].1.body _ B _ (markW_nds (hbd.keep hb2) hne) hbl (by omega) (by omega)).mono ?_;rintro e w3 ⟨rfl,hown3,hex3⟩))
   obtain ⟨hs1,hs2'⟩:=HST.out
   have hg:=markedD_get xs k i hlt
   obtain ⟨s1,s2⟩:=markD_step (nm:=mtext (k+lenD (xs.take i))) (a:=k+lenD (xs.take i)+1) (b:=k+lenD (xs.take i)+1+1) (nb:=mkNds xs[i].1.body.length (k+lenD (xs.take i)+1+1+1)) (markedD_length xs k i) hrow hll hb2 (by rw [hg,hs2'];exact hown3) (by rw [hg,hs2'];exact hex3)
   have e:(markedD xs k i).set i (⟨mtext (k+lenD (xs.take i)),k+lenD (xs.take i)+1,k+lenD (xs.take i)+1+1,mkNds xs[i].1.body.length (k+lenD (xs.take i)+1+1+1)⟩,(markedD xs k i)[i].2) = markedD xs k (i+1):=by
    rw [hg,← markedD_set xs k i hlt]
    rfl
   rw [e] at s1
   have hx3:=hex.trans (s2.mono (OwnD_congr (markedD_snd xs k i)))
   have hke:k+lenD (xs.take i)+1+1+1+3 * (xs[i].1.body.length:Int) = k+lenD (xs.take (i+1)):=by rw [hs1];omega
   have HKE:=Lib.hid hke
   clear hs1 hs2' hg e hke
   go_roundw
   case rel=>exact ⟨i+1,by omega,by go_num,by rw [HKE.out],s1,hx3⟩
   case measure=>simp [intOf];omega
  ·have hii:i = xs.length:=by omega
   subst hii
   go_wp2
   go_ret
   rw [List.take_length]
   exact ⟨rfl,hrow,hex⟩
end Go.Proofs.YtldhpaflmnlcaaaGreatDoor
