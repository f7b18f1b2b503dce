/-
  The program's order of edges. Own work.
-/
import Derived.Test.YtbljmfcifljkaaaGreatDoorXAM
set_option linter.all false
set_option maxRecDepth 100000
set_option maxHeartbeats 8000000
namespace Go.Proofs.YtbljmfcifljkaaaGreatDoor
open Go.RowKit
set_option maxRecDepth 100000
set_option maxHeartbeats 2000000
theorem fi_nxt (nd:List (List Int)) (dn:List Bool) (n:Nat):fiV (fun z=>frB nd dn z.toNat) (upL n)=nxtV (nxt nd dn n):=by
 cases h:nxt nd dn n with
 | some m =>
  obtain ⟨hm,hf⟩:=nxt_some h
  refine fiV_hit (k:=m) (by rw [upL_len];exact hm) (fun j hj hjm=>?_) ?_
  ·rw [upL_get,Int.toNat_natCast]
   cases hfj:frB nd dn j with
   | false=>rfl
   | true =>
    have h2:(List.range n).find? (frB nd dn)=some m:=h
    rw [List.find?_range_eq_some] at h2
    have:=h2.2.2 j hjm
    rw [hfj] at this
    cases this
  ·rw [upL_get,Int.toNat_natCast]
   exact hf
 | none =>
  refine fiV_miss (fun j hj=>?_)
  rw [upL_get,Int.toNat_natCast]
  have h2:(List.range n).find? (frB nd dn)=none:=h
  rw [List.find?_eq_none] at h2
  have:=h2 j (List.mem_range.2 (by rw [upL_len] at hj;exact hj))
  simpa using this
theorem nxt_full {nd:List (List Int)} {dn:List Bool} {n:Nat} (hl:dn.length=n) (h:dn.count false=0):nxt nd dn n=none:=by
 cases hn:nxt nd dn n with
 | none=>rfl
 | some m =>
  rw [← hl] at hn
  have hm:=(nxt_some hn).1
  have hd:=nxt_open hn hm
  rw [List.count_eq_zero] at h
  exact absurd (hd ▸ List.getElem_mem hm) h
theorem cell_excB {w w':World} {G b o:Nat} {dn:List Bool} {v:Value} (hG:BlB w G dn) (hE:Exc (fun k=>k=G) w w') (h:w.cell? ⟨b,o,none⟩=some v) (hv:∀ x,v ≠ .bool x):w'.cell? ⟨b,o,none⟩=some v:=by
 have hne:¬ b=G:=fun e=>by
  subst e
  rw [(Bk.cell hG).1 o] at h
  simp only [List.getElem?_toArray,List.getElem?_map,Option.map_eq_some_iff] at h
  obtain ⟨x,_,e⟩:=h
  exact hv x e.symm
 exact (hE.cell.1 b o (cell_lt h) hne).trans h
theorem ls_excB {w w':World} {G:Nat} {dn:List Bool} {v:Value} {nd:List (List Int)} (hG:BlB w G dn) (h:LsAt w v nd) (hE:Exc (fun k=>k=G) w w'):LsAt w' v nd :=
 SlAt.mono h fun i b o ⟨hi,x,h1,h2⟩=>⟨hi,x,cell_excB hG hE h1 (fun y e=>by subst e;obtain ⟨a,c,e,_⟩:=h2;cases e),
  SlAt.mono h2 fun j b' o' ⟨hj,h3⟩=>⟨hj,cell_excB hG hE h3 (fun y e=>by cases e)⟩⟩
def NeP (nd:List (List Int)) (w:World) (e:Ending) (w':World):Prop:=∃ a c,e=.returned (.slice a nd.length c)∧LsAt w' (.slice a nd.length c) nd∧Below w.heap.size w w'
structure EoSt (W0 w:World) (nd:List (List Int)) (n:Nat) (na:Option Addr) (nc Nb Lb G:Nat) (wr:World) (rv:Value) (out:List Int) (dn:List Bool):Prop where
 nb:Bk wr Nb 256 #[.slice na nd.length nc]
 ex:Exc (fun k=>k=G) W0 wr
 lb:Bk wr Lb 307 #[.slice (some ⟨G,0,none⟩) n n]
 bk:BlB wr G dn
 row:Rw wr W0.heap.size rv out
 bel:Below w.heap.size w wr
 len:dn.length=n
 eq:ordGo nd (n+1) (List.replicate n false)=out ++ ordGo nd (n+1 - out.length) dn
 cnt:out.length+dn.count false≤n
theorem EoSt.keep {W0 w:World} {nd:List (List Int)} {n:Nat} {na:Option Addr} {nc Nb Lb G:Nat} {wr w':World} {rv:Value} {out:List Int} {dn:List Bool} (h:EoSt W0 w nd n na nc Nb Lb G wr rv out dn) (hb:Below wr.heap.size wr w'):EoSt W0 w nd n na nc Nb Lb G w' rv out dn :=
 ⟨h.nb.keep hb,h.ex.below hb,h.lb.keep hb,h.bk.keep hb,owns_keep hb h.row,h.bel.trans (hb.mono h.bel.size),h.len,h.eq,h.cnt⟩
theorem edgeOrder_of (W:Int) (ve vi vo:Value) (nd:List (List Int)) (w:World) (hl:nd.length≤100) (hin:∀ ks ∈ nd,ks.length≤1000∧∀ k ∈ ks,0≤k∧k<nd.length)
  (hnd:Calls Tryz.prog 270 #[.agg #[.int .i64 W,ve,vi,vo]] (w.alloc (.cells #[.int .i64 W,ve,vi,vo] 53)) (NeP nd (w.alloc (.cells #[.int .i64 W,ve,vi,vo] 53)))) :
  Calls Tryz.prog 210 #[.agg #[.int .i64 W,ve,vi,vo]] w (RwP (ordGo nd (nd.length+1) (List.replicate nd.length false)) w):=by
 obtain ⟨i0,hi,hz0,hz1,hz2⟩:=info_parts infoBool
 have hA:=alloc_below w (.cells #[.int .i64 W,ve,vi,vo] 53)
 have HND:=Lib.hid hnd
 have HIN:=Lib.hid hin
 clear hnd hin
 go_enter Tryz.func210,Tryz.ntmps210
 go_wp2_with fail
 refine HND.out.mono ?_
 rintro e w1 ⟨na,nc,rfl,hls,hb1⟩
 have hB1:=hA.trans (hb1.mono hA.size)
 have hA2:=alloc_below w1 (.cells #[.slice na nd.length nc] 256)
 have kN:=Bk.new w1 256 #[.slice na nd.length nc]
 have hls2:=hls.keep hA2
 have hB2:=hB1.trans (hA2.mono hB1.size)
 have hzN:(w1.alloc (.cells #[.slice na nd.length nc] 256)).heap.size=w1.heap.size+1:=by simp
 clear hls hA hb1
 go_wp2_with (at_make;refine wpList_make_full _ rfl _ _ _ rfl (w1.heap.size+1) 4 i0 _ 1 Tryz.underlying307 hi hz0 hz1 _ _ _ _ nd.length rfl rfl rfl rfl (by rw [hz2];omega) (by unfold maxLen;omega) (by simp) ?_;intro w2 hown hgr)
 have hzm:=made_flat (f:=bCell) false nd.length (sz:=1) (by omega) rfl
 have hbk:BlB w2 (w1.heap.size+1) (List.replicate nd.length false):=by
  try rw [hzN] at hown
  refine bls_bk (B:=w1.heap.size+1) (n:=nd.length) (by simp) ?_
  rw [← hzm]
  exact hown
 have hbm:Below (w1.alloc (.cells #[.slice na nd.length nc] 256)).heap.size (w1.alloc (.cells #[.slice na nd.length nc] 256)) w2:=(Below.refl _ _).grown hgr (Nat.le_refl _) (by simp)
 have hA3:=alloc_below w2 (.cells #[.slice (some ⟨w1.heap.size+1,0,none⟩) nd.length nd.length] 307)
 have kL:=Bk.new w2 307 #[.slice (some ⟨w1.heap.size+1,0,none⟩) nd.length nd.length]
 have hA4:=alloc_below (w2.alloc (.cells #[.slice (some ⟨w1.heap.size+1,0,none⟩) nd.length nd.length] 307)) (.cells #[] 3)
 have hb24:=hA3.trans (hA4.mono hA3.size)
 have hB2':=hB2.trans (hbm.mono hB2.size)
 have hrw:=cg_nil (w2.alloc (.cells #[.slice (some ⟨w1.heap.size+1,0,none⟩) nd.length nd.length] 307)) (w2.alloc (.cells #[.slice (some ⟨w1.heap.size+1,0,none⟩) nd.length nd.length] 307)).heap.size (Nat.le_refl _)
 have hzL:(w2.alloc (.cells #[.slice (some ⟨w1.heap.size+1,0,none⟩) nd.length nd.length] 307)).heap.size=w2.heap.size+1:=by simp
 have HB0:=Lib.hid (hbk.keep hA3)
 have HL0:=Lib.hid ((hls2.keep hbm).keep hA3)
 have hst:EoSt (w2.alloc (.cells #[.slice (some ⟨w1.heap.size+1,0,none⟩) nd.length nd.length] 307)) w nd nd.length na nc w1.heap.size w2.heap.size (w1.heap.size+1) ((w2.alloc (.cells #[.slice (some ⟨w1.heap.size+1,0,none⟩) nd.length nd.length] 307)).alloc (.cells #[] 3)) (.slice (some ⟨w2.heap.size+1,0,none⟩) 0 0) [] (List.replicate nd.length false) :=
  ⟨(kN.keep hbm).keep hb24,(Exc.refl _ _).below hA4,kL.keep hA4,hbk.keep hb24,(by rw [hzL] at hrw ⊢;exact hrw),hB2'.trans (hb24.mono hB2'.size),by simp,by simp,by simp⟩
 have HZ0:Hid (w.heap.size≤(w2.alloc (.cells #[.slice (some ⟨w1.heap.size+1,0,none⟩) nd.length nd.length] 307)).heap.size∧w1.heap.size+1<(w2.alloc (.cells #[.slice (some ⟨w1.heap.size+1,0,none⟩) nd.length nd.length] 307)).heap.size):=Lib.hid ⟨Nat.le_trans hB2'.size hA3.size,(hbk.keep hA3).lt⟩
 generalize (w2.alloc (.cells #[.slice (some ⟨w1.heap.size+1,0,none⟩) nd.length nd.length] 307))=W0 at hst HB0 HL0 HZ0
 have HLO:=Lib.hid (show w.heap.size≤w1.heap.size from hB1.size)
 clear hown hgr hzm hbk hbm hA3 kL hA4 hb24 hB2' hrw hzL hA2 kN hls2 hB2 hzN hi hz0 hz1 hz2 hB1
 go_loopw [5] (fun rv wr=>∃ out dn,EoSt W0 w nd nd.length na nc w1.heap.size w2.heap.size (w1.heap.size+1) wr rv out dn) (fun rv _=>nd.length+1 - lnV rv)
 case atStart=>exact ⟨_,_,hst⟩
 case round =>
  clear hst
  obtain ⟨out,dn,hst⟩:=hrel
  obtain ⟨ra,rc,rfl⟩:=hst.row.slice
  have n0:=hst.nb.cell.1 0
  have nz:=hst.nb.lt
  have l0:=hst.lb.cell.1 0
  have lz:=hst.lb.lt
  simp only [List.getElem?_toArray,List.getElem?_cons_zero] at n0 l0
  by_cases hlt:out.length<nd.length
  ·go_wp2_with fail
   refine (upTo_any nd.length wr (by omega)).mono ?_
   rintro e w3 ⟨u,rfl,hu,hb3⟩
   have hst3:=hst.keep hb3
   have hpf:=indexFunc_any u (upL nd.length) 271 #[.pointer (some ⟨w2.heap.size,0,none⟩),.pointer (some ⟨w1.heap.size,0,none⟩)] (fun z=>frB nd dn z.toNat) w3 hu.at (by rw [upL_len];omega) (fun W z hz hb=>by
    obtain ⟨m,hm,rfl⟩:∃ m,m<nd.length∧z=(m:Int):=by
     obtain ⟨m,hm,rfl⟩:=List.mem_map.1 hz
     exact ⟨m,List.mem_range.1 hm,rfl⟩
    have hs:=hst3.keep hb
    have hlb:=hs.lb
    rw [← hst3.len] at hlb
    refine (eoOut_any m w2.heap.size w1.heap.size (w1.heap.size+1) na nc nd dn W hlb hs.bk hs.nb (ls_excB HB0.out HL0.out hs.ex) (by rw [hst3.len]) (by rw [hst3.len];exact hm) (by rw [hst3.len];exact HIN.out)).mono ?_
    rintro e w' ⟨rfl,hb'⟩
    exact ⟨by show _=Ending.returned (Value.bool (frB nd dn ((m:Int)).toNat));rw [Int.toNat_natCast],hb.trans (hb'.mono hb.size)⟩) (eg_of Tryz.func271 (by kernel_rfl) rfl)
   rw [fi_nxt] at hpf
   have HPF:=Lib.hid hpf
   obtain ⟨ua,uc,rfl⟩:=hu.slice
   clear hpf hst n0 nz l0 lz hu hb3
   go_wp2_with fail
   refine HPF.out.mono ?_
   rintro e w4 ⟨rfl,hb4⟩
   have hst4:=hst3.keep hb4
   clear HPF hst3 hb4
   have hbel:=hst4.bel
   cases hnx:nxt nd dn nd.length with
   | none =>
    have hend:ordGo nd (nd.length+1) (List.replicate nd.length false)=out:=by
     rw [hst4.eq,ordGo_end (by rw [hst4.len];exact hnx),List.append_nil]
    have HE:=Lib.hid hend
    have hrow:=hst4.row.mono HZ0.out.1
    rw [show nxtV none=(-1:Int) from rfl]
    clear hst4 hnx hend
    go_wp2
    go_ret
    rw [HE.out]
    exact ⟨_,rfl,hrow,hbel⟩
   | some m =>
    have hm:=(nxt_some hnx).1
    have hm0:¬ ((m:Int)<0):=by omega
    have hmd:m<dn.length:=by rw [hst4.len];exact hm
    obtain ⟨he,hc⟩:=or_next2 hst4.len hst4.eq hst4.cnt hnx
    have hold:=nxt_open hnx hmd
    have bD:=hst4.bk.get m hmd
    rw [hold] at bD
    have bf:=hst4.bk.frz m
    have bz:=hst4.bk.lt
    have bs:=hst4.bk.set m true
    have l0:=hst4.lb.cell.1 0
    have lz:=hst4.lb.lt
    simp only [List.getElem?_toArray,List.getElem?_cons_zero] at l0
    have hlw:w.heap.size≤w1.heap.size+1:=by have:=HLO.out;omega
    have hrne:=row_blk_ne hst4.row hst4.bk (by decide)
    have hrow1:Rw (w4.setCell ⟨w1.heap.size+1,m,none⟩ (.bool true)) W0.heap.size (.slice ra out.length rc) out:=owns_other hst4.row _ _ hrne
    have hB1:Below w.heap.size w (w4.setCell ⟨w1.heap.size+1,m,none⟩ (.bool true)):=hst4.bel.setCell hlw _
    have kN1:Bk (w4.setCell ⟨w1.heap.size+1,m,none⟩ (.bool true)) w1.heap.size 256 #[.slice na nd.length nc]:=hst4.nb.other ⟨w1.heap.size+1,m,none⟩ (.bool true) (by simp)
    have kL1:Bk (w4.setCell ⟨w1.heap.size+1,m,none⟩ (.bool true)) w2.heap.size 307 #[.slice (some ⟨w1.heap.size+1,0,none⟩) nd.length nd.length]:=hst4.lb.other ⟨w1.heap.size+1,m,none⟩ (.bool true) (fun e=>by
     have h1:=hst4.lb
     have h2:=hst4.bk
     rw [e] at h1
     have:=Option.some.inj (h1.symm.trans h2)
     simp only [Obj.cells.injEq] at this
     exact absurd this.2.1 (by decide))
    have ex1:Exc (fun k=>k=w1.heap.size+1) W0 (w4.setCell ⟨w1.heap.size+1,m,none⟩ (.bool true)):=exc_set hst4.ex (.inr rfl) _
    have hz0:W0.heap.size≤(w4.setCell ⟨w1.heap.size+1,m,none⟩ (.bool true)).heap.size:=ex1.size
    have hlen:=hst4.len
    have hcnt:=hst4.cnt
    have hzz:(w4.setCell ⟨w1.heap.size+1,m,none⟩ (.bool true)).heap.size=w4.heap.size:=by simp
    have h1:=one_at (w4.setCell ⟨w1.heap.size+1,m,none⟩ (.bool true)) m
    have hA3:=alloc_below (w4.setCell ⟨w1.heap.size+1,m,none⟩ (.bool true)) (.cells #[.int .i64 m] 3)
    have hrow2:=hrow1.keep hA3
    have hB2:=hB1.trans (hA3.mono hB1.size)
    have hbk2:=BlB.keep hA3 bs
    have kN2:=kN1.keep hA3
    have kL2:=kL1.keep hA3
    have ex2:=ex1.below hA3
    have hz02:=ex2.size
    rw [hzz] at h1
    have hsz2:=hB2.size
    rw [show nxtV (some m)=(m:Int) from rfl]
    have HE:=Lib.hid (And.intro he hc)
    have hap1:=row_blk_ne hrow2 hbk2 (by decide)
    have hap2:=row_blk_ne hrow2 kN2 (by decide)
    have hap3:=row_blk_ne hrow2 kL2 (by decide)
    have HKC:=Lib.hid (And.intro kN2 (And.intro kL2 (And.intro hbk2 ex2)))
    clear hst4 hnx hold he hc hrow1 hB1 kN1 kL1 ex1 bs hA3 hbk2 kN2 kL2 ex2 hlw hz0
    go_wp2_with (at_builtin;go_must (refine ints_append h1 rfl (.tmp 29) (.tmp 31) rfl W0.heap.size _ out rfl rfl hrow2 hz02 (by simp only [List.length_singleton];omega) ?_);intro v2 w5 q1 q2 q3)
    have hown:=fun (j:Nat) (hj:(Value.slice ra out.length rc).ownBlock=some j)=>(World.ownsRow.lt hrow2 j hj).1
    have hb5:Below w.heap.size w w5:=hB2.grown q2 hsz2 (fun j hj=>Nat.le_trans HZ0.out.1 (hown j hj))
    have hb6:=(Below.refl W0.heap.size _).grown q2 hz02 hown
    have ex5:Exc (fun k=>k=w1.heap.size+1) W0 w5:=⟨hb6.os.trans HKC.out.2.2.2.os,hb6.tape.trans HKC.out.2.2.2.tape,hb6.output.trans HKC.out.2.2.2.output,Nat.le_trans HKC.out.2.2.2.size hb6.size,fun k hk ht=>(hb6.block k hk).trans (HKC.out.2.2.2.block k hk ht)⟩
    have kN5:=Bk.grown q2 HKC.out.1 hap2
    have kL5:=Bk.grown q2 HKC.out.2.1 hap3
    have kB5:BlB w5 (w1.heap.size+1) (dn.set m true):=Bk.grown q2 HKC.out.2.2.1 hap1
    obtain ⟨va,vc,rfl⟩:=q1.slice
    go_roundw
    case rel=>exact ⟨out ++ [(m:Int)],dn.set m true,kN5,ex5,kL5,kB5,q1,hb5,by rw [List.length_set];exact hlen,HE.out.1,HE.out.2⟩
    case measure=>simp [lnV];omega
  ·have hlen:out.length=nd.length:=by have:=hst.cnt;omega
   have hend:ordGo nd (nd.length+1) (List.replicate nd.length false)=out:=by
    rw [hst.eq,ordGo_end (by rw [hst.len];exact nxt_full hst.len (by have:=hst.cnt;omega)),List.append_nil]
   have HE:=Lib.hid hend
   have hrow:=hst.row.mono HZ0.out.1
   have hbel:=hst.bel
   have hlt':¬ ((out.length:Int)<(nd.length:Int)):=by omega
   rw [hlen] at hrow
   clear hst hend
   go_wp2
   go_ret
   rw [HE.out]
   exact ⟨_,rfl,hrow,hbel⟩
end Go.Proofs.YtbljmfcifljkaaaGreatDoor
/-
  The gate of an edge; acyclic graphs. Own work.
-/
namespace Go.Proofs.YtbljmfcifljkaaaGreatDoor
open Go.RowKit
set_option maxRecDepth 100000
set_option maxHeartbeats 2000000
def gtOf (k v:Int):Option GtI :=
 if k=6 then some ⟨2,0,0,0⟩ else if k=5 then some ⟨3,0,0,0⟩ else if k=7 then some ⟨4,0,0,v⟩ else if k=8 then some ⟨5,0,0,0⟩ else none
theorem gateOf_any (k v:Int) (vi vo:Value) (w:World) :
  Calls Tryz.prog 213 #[.agg #[.int .i64 k,.int .i64 v,vi,vo]] w fun e w'=>e=.returned (.tuple #[gtV ((gtOf k v).getD gt0),.bool (gtOf k v).isSome])∧Below w.heap.size w w':=by
 have hB:Below w.heap.size w ((w.alloc (.cells #[.int .i64 k,.int .i64 v,vi,vo] 189)).alloc (.cells #[.int .i64 0,.int .i64 0,.int .i64 0,.int .i64 0] 203)):=((Below.refl _ _).alloc (Nat.le_refl _) _).alloc (by simp) _
 by_cases h6:k=6
 ·subst h6
  have HE:Hid (gtOf 6 v=some ⟨2,0,0,0⟩):=Lib.hid rfl
  go_enter Tryz.func213,Tryz.ntmps213
  go_wp2
  refine bodyPost_ret (v:=.tuple #[.agg #[.int .i64 2,.int .i64 0,.int .i64 0,.int .i64 0],.bool true]) (by simp [results,Tryz.results213,go_sem]) rfl ?_
  refine ⟨by rw [HE.out];rfl,?_⟩
  exact ((Below.refl _ _).alloc (Nat.le_refl _) _).alloc (by simp) _
 by_cases h5:k=5
 ·subst h5
  have HE:Hid (gtOf 5 v=some ⟨3,0,0,0⟩):=Lib.hid rfl
  go_enter Tryz.func213,Tryz.ntmps213
  go_wp2
  refine bodyPost_ret (v:=.tuple #[.agg #[.int .i64 3,.int .i64 0,.int .i64 0,.int .i64 0],.bool true]) (by simp [results,Tryz.results213,go_sem]) rfl ?_
  refine ⟨by rw [HE.out];rfl,?_⟩
  exact ((Below.refl _ _).alloc (Nat.le_refl _) _).alloc (by simp) _
 by_cases h7:k=7
 ·subst h7
  have HE:Hid (gtOf 7 v=some ⟨4,0,0,v⟩):=Lib.hid rfl
  go_enter Tryz.func213,Tryz.ntmps213
  go_wp2
  refine bodyPost_ret (v:=.tuple #[.agg #[.int .i64 4,.int .i64 0,.int .i64 0,.int .i64 v],.bool true]) (by simp [results,Tryz.results213,go_sem]) rfl ?_
  refine ⟨by rw [HE.out];rfl,?_⟩
  exact ((Below.refl _ _).alloc (Nat.le_refl _) _).alloc (by simp) _
 by_cases h8:k=8
 ·subst h8
  have HE:Hid (gtOf 8 v=some ⟨5,0,0,0⟩):=Lib.hid rfl
  go_enter Tryz.func213,Tryz.ntmps213
  go_wp2
  refine bodyPost_ret (v:=.tuple #[.agg #[.int .i64 5,.int .i64 0,.int .i64 0,.int .i64 0],.bool true]) (by simp [results,Tryz.results213,go_sem]) rfl ?_
  refine ⟨by rw [HE.out];rfl,?_⟩
  exact ((Below.refl _ _).alloc (Nat.le_refl _) _).alloc (by simp) _
 have HE:Hid (gtOf k v=none):=Lib.hid (by unfold gtOf;simp [h5,h6,h7,h8])
 have e5:(k == 5)=false:=by simp [h5]
 have e6:(k == 6)=false:=by simp [h6]
 have e7:(k == 7)=false:=by simp [h7]
 have e8:(k == 8)=false:=by simp [h8]
 clear h5 h6 h7 h8
 go_enter Tryz.func213,Tryz.ntmps213
 go_wp2
 refine bodyPost_ret (v:=.tuple #[.agg #[.int .i64 0,.int .i64 0,.int .i64 0,.int .i64 0],.bool false]) (by simp [results,Tryz.results213,go_sem]) rfl ?_
 refine ⟨by rw [HE.out];rfl,?_⟩
 exact ((Below.refl _ _).alloc (Nat.le_refl _) _).alloc (by simp) _
theorem ordGo_len (nd:List (List Int)):∀ (f:Nat) (dn:List Bool),(ordGo nd f dn).length≤dn.count false
 | 0,dn=>Nat.zero_le _
 | f+1,dn=>by
  cases h:nxt nd dn dn.length with
  | none=>rw [ordGo_end h];exact Nat.zero_le _
  | some i =>
   rw [ordGo_step h]
   have hi:=(nxt_some h).1
   have hc:=dn_count hi (nxt_open h hi)
   have:=ordGo_len nd f (dn.set i true)
   simp only [List.length_cons]
   omega
def acyB (E:List EdI):Bool:=decide ((ordE E).length=E.length)
theorem ordE_len (E:List EdI):(ordE E).length≤E.length:=by
 have:=ordGo_len (ndE E) (E.length+1) (List.replicate E.length false)
 simpa [ordE] using this
theorem hgAcyclic_any (W:Int) (ve vi vo:Value) (E:List EdI) (w:World) (hg:EdsAt w ve E) (hl:E.length≤100) (hok:∀ e ∈ E,e.ins.length≤1000∧e.outs.length≤1000) :
  Calls Tryz.prog 199 #[.agg #[.int .i64 W,ve,vi,vo]] w (FlP (acyB E) w):=by
 have hA:=alloc_below w (.cells #[.int .i64 W,ve,vi,vo] 53)
 have HO:=Lib.hid (fun (U:World) (hb:Below w.heap.size w U)=>hgOrder_any W ve vi vo E U (SlAt.mono hg fun _ _ _ ⟨hi,r⟩=>⟨hi,r.keep hb⟩) hl hok)
 obtain ⟨a,cap,rfl,hc,_⟩:=hg
 have kG:=Bk.new w 53 #[.int .i64 W,.slice a E.length cap,vi,vo]
 have hlen:=ordE_len E
 have HB:Hid (acyB E=decide ((ordE E).length=E.length)):=Lib.hid rfl
 generalize ordE E=ol at HO hlen HB
 go_enter Tryz.func199,Tryz.ntmps199
 go_wp2_with fail
 obtain ⟨x0,xf,xz⟩:=kG.cell
 have x1:=x0 1
 simp only [List.getElem?_toArray,List.getElem?_cons_zero,List.getElem?_cons_succ] at x1
 have x2:=x0 2
 have x3:=x0 3
 have x0:=x0 0
 simp only [List.getElem?_toArray,List.getElem?_cons_zero,List.getElem?_cons_succ] at x0 x2 x3
 generalize (w.alloc (.cells #[.int .i64 W,.slice a E.length cap,vi,vo] 53))=W0 at hA kG x0 x1 x2 x3 xz ⊢
 have upW:∀ {w':World},Exc NoT W0.drew w' → Below W0.heap.size W0 w':=fun h=>(Below.refl W0.heap.size W0).drew.trans (h.toBelow.mono (by simp))
 refine region_acts (C:=Exc (NoT) _) 6 [0,1,2,3,4,5,6,7] (by kernel_rfl) (by kernel_rfl) (Exc.grows _ _) (Exc.refl _ _) ?_
 iterate 1 (apply x_st rfl rfl rfl;(focus intro u hc' hf';go_simp <;> rfl);intro K hK;go_simp;apply hK;clear hK K)
 refine x_call rfl rfl rfl (Exc.grows _ _) (Exc.refl _ _) 267 (fun K hK=>?_);apply Exists.intro;refine ⟨fun w' hw'=>?_,fun w' hw' hbw=>?_⟩;(focus go_simp;rfl);refine (HO.out _ (hA.trans ((upW hw').mono hA.size))).mono ?_;rintro e w1 ⟨u,rfl,hu,hb1⟩;refine ⟨_,rfl,hb1,fun hx=>?_⟩;go_simp;apply hK;clear hK K
 obtain ⟨ua,uc,rfl⟩:=hu.slice
 iterate 6 (apply x_st rfl rfl rfl;(focus intro u hc' hf';go_simp <;> rfl);intro K hK;go_simp;apply hK;clear hK K)
 refine x_nil ?_
 have hB:=hA.trans ((upW hx).mono hA.size)
 go_wp2
 go_ret
 refine ⟨?_,hB⟩
 rw [HB.out]
 show Ending.returned (Value.bool ((ol.length:Int) == (E.length:Int)))=Ending.returned (Value.bool (decide (ol.length=E.length)))
 rw [beq_dec]
 congr 2
 simp only [decide_eq_decide]
 omega
end Go.Proofs.YtbljmfcifljkaaaGreatDoor
/-
  The reference's test of a circuit. Own work.
-/
namespace Go.Proofs.YtbljmfcifljkaaaGreatDoor
open Go.RowKit
set_option maxRecDepth 100000
set_option maxHeartbeats 2000000
def circB (p inp:Int) (gs:List GtI) (os:List Int):Bool :=
 primeB p && (inB inp 0 8 && (inB (gs.length:Int) 1 40 && (decide (os.length≤8) && (allB 0 ((gs.length:Int) - 1) os && (gs.all (gateB p inp gs.length) && decide ((ordC gs).length=(gs.filter cmbB).length))))))
theorem crGood_any (p inp:Int) (vg vo:Value) (gs:List GtI) (os:List Int) (w:World) (hg:GtsAt w vg gs) (ho:IntsAt w vo os) (hn:gs.length≤1000000) (hm:os.length≤1000000) :
  Calls Tryz.prog 138 #[.int .i64 p,.agg #[.int .i64 inp,vg,vo]] w (FlP (circB p inp gs os) w):=by
 obtain ⟨a,cap,rfl,hcap⟩:=hg.slice
 obtain ⟨oa,oc,rfl⟩:=ho.slice
 have hA:=alloc_below w (.cells #[.int .i64 inp,.slice a gs.length cap,.slice oa os.length oc] 112)
 have kC:=Bk.new w 112 #[.int .i64 inp,.slice a gs.length cap,.slice oa os.length oc]
 have hg1:=hg.keep hA
 have ho1:=ho.keep hA
 have hwn:IntKind.i64.wrap ((gs.length:Int) - 1)=(gs.length:Int) - 1:=IntWalk.i64_in _ (by omega)
 clear hg ho
 go_enter Tryz.func138,Tryz.ntmps138
 go_wp2_with fail
 refine (fdGood_any p _).mono ?_
 rintro e w1 ⟨rfl,hb1⟩
 have kC1:=kC.keep hb1
 have hg2:=hg1.keep hb1
 have ho2:=ho1.keep hb1
 have hB:=hA.trans (hb1.mono hA.size)
 obtain ⟨x0,xf,xz⟩:=kC1.cell
 have x1:=x0 1
 have x2:=x0 2
 have x0:=x0 0
 simp only [List.getElem?_toArray,List.getElem?_cons_zero,List.getElem?_cons_succ] at x0 x1 x2
 clear hg1 ho1 kC hA hb1
 cases hp:primeB p with
 | false =>
  have HE:Hid (circB p inp gs os=false):=Lib.hid (by unfold circB;rw [hp];rfl)
  clear hp
  go_wp2
  go_ret
  exact ⟨by rw [HE.out];rfl,hB⟩
 | true =>
 go_wp2_with fail
 refine (l1In_any _ _ _ _).mono ?_
 rintro e w2 ⟨rfl,rfl⟩
 cases hi:inB inp 0 8 with
 | false =>
  have HE:Hid (circB p inp gs os=false):=Lib.hid (by unfold circB;rw [hp,hi];rfl)
  clear hp hi
  go_wp2
  go_ret
  exact ⟨by rw [HE.out];rfl,hB⟩
 | true =>
 go_wp2_with fail
 refine (l1In_any _ _ _ _).mono ?_
 rintro e w2 ⟨rfl,rfl⟩
 cases hl:inB (gs.length:Int) 1 40 with
 | false =>
  have HE:Hid (circB p inp gs os=false):=Lib.hid (by unfold circB;rw [hp,hi,hl];rfl)
  clear hp hi hl
  go_wp2
  go_ret
  exact ⟨by rw [HE.out];rfl,hB⟩
 | true =>
 by_cases h8:os.length≤8
 rotate_left
 ·have HE:Hid (circB p inp gs os=false):=Lib.hid (by unfold circB;rw [hp,hi,hl,decide_eq_false h8];rfl)
  have hgt:(8:Int)<(os.length:Int):=by omega
  clear hp hi hl
  go_wp2
  go_ret
  exact ⟨by rw [HE.out];rfl,hB⟩
 have hgt:¬ (8:Int)<(os.length:Int):=by omega
 go_wp2_with fail
 refine (l1All_any _ os _ _ _ ho2 (by omega)).mono ?_
 rintro e w2 ⟨rfl,rfl⟩
 cases ha:allB 0 ((gs.length:Int) - 1) os with
 | false =>
  have HE:Hid (circB p inp gs os=false):=Lib.hid (by unfold circB;rw [hp,hi,hl,decide_eq_true h8,ha];rfl)
  clear hp hi hl ha
  go_wp2
  go_ret
  exact ⟨by rw [HE.out];rfl,hB⟩
 | true =>
 have HC:Hid (circB p inp gs os=(gs.all (gateB p inp gs.length) && decide ((ordC gs).length=(gs.filter cmbB).length))):=Lib.hid (by unfold circB;rw [hp,hi,hl,decide_eq_true h8,ha];rfl)
 have hin:0≤inp∧inp≤8:=by simpa [inB] using hi
 have hnn:1≤gs.length∧gs.length≤40:=by simp only [inB,Bool.and_eq_true,decide_eq_true_eq] at hl;omega
 have hpb:=primeB_le hp
 clear hi hl ha h8 hp
 go_wp2_with fail
 clear hgt
 obtain ⟨a2,c2,e2,hc2,hat⟩:=hg2
 simp only [Value.slice.injEq,true_and] at e2
 obtain ⟨rfl,rfl⟩:=e2
 go_loopw [5,43] (fun cv i wr=>∃ k:Nat,k≤gs.length∧i=.int .i64 k∧cv=.int .i64 ((gs.take k).filter cmbB).length∧Below w1.heap.size w1 wr∧∀ j,∀ h:j<gs.length,j<k → gateB p inp gs.length (gs[j]'h)=true) (fun _ i _=>gs.length - (intOf i).toNat)
 case atStart=>exact ⟨0,Nat.zero_le _,rfl,rfl,Below.refl _ _,fun j h1 h2=>by omega⟩
 case round =>
  obtain ⟨k,hk,rfl,rfl,hbel,hall⟩:=hrel
  have HALL:=Lib.hid hall
  clear hall
  have y0:=cell_keep hbel x0
  have y1:=cell_keep hbel x1
  have yz:=cell_lt y0
  by_cases hlk:k<gs.length
  ·obtain ⟨b,o,rfl,_,hgt⟩:=hat k hlk
   obtain ⟨c0,c1,c2,c3⟩:=hgt.keep hbel
   have hcr:=fun W=>crGate_any p inp gs.length gs[k] W (by omega) (by omega) (by omega)
   have hcm:=fun W=>crCombines_any gs[k] W
   have htk:(gs.take (k+1)).filter cmbB=(gs.take k).filter cmbB ++ [gs[k]].filter cmbB:=by rw [List.take_succ_eq_append_getElem hlk,List.filter_append]
   have hmem:=List.getElem_mem hlk
   obtain ⟨g,hgk⟩:∃ g,gs[k]=g:=⟨_,rfl⟩
   rw [hgk] at c0 c1 c2 c3 hcr hcm htk hmem
   have HGK:=Lib.hid hgk
   obtain ⟨kd,ga,gb,gv⟩:=g
   simp only [gtV] at c0 c1 c2 c3 hcr hcm
   have bz:=cell_lt c0
   have hA2:=alloc_below wr (.cells #[.int .i64 kd,.int .i64 ga,.int .i64 gb,.int .i64 gv] 203)
   have kG:=Bk.new wr 203 #[.int .i64 kd,.int .i64 ga,.int .i64 gb,.int .i64 gv]
   have HCR:=Lib.hid hcr
   have HCM:=Lib.hid hcm
   have hbel2:=hbel.trans (hA2.mono hbel.size)
   clear hat hgt hgk hcr hcm
   go_wp2_with fail
   refine (HCR.out _).mono ?_
   rintro e w3 ⟨rfl,hb3⟩
   have hbel3:=hbel2.trans (hb3.mono hbel2.size)
   cases hgb:gateB p inp gs.length ⟨kd,ga,gb,gv⟩ with
   | false =>
    have HE:Hid (circB p inp gs os=false):=Lib.hid (by
     rw [HC.out,List.all_eq_false.2 ⟨_,hmem,by rw [hgb];simp⟩];rfl)
    have hBB:=hB.trans (hbel3.mono hB.size)
    clear hgb htk hmem
    go_wp2
    go_ret
    exact ⟨by rw [HE.out];rfl,hBB⟩
   | true =>
    have HGB:=Lib.hid hgb
    obtain ⟨z0,zf,zz⟩:=(kG.keep hb3).cell
    have z1:=z0 1
    have z2:=z0 2
    have z3:=z0 3
    have z0:=z0 0
    simp only [List.getElem?_toArray,List.getElem?_cons_zero,List.getElem?_cons_succ] at z0 z1 z2 z3
    have hcl:((gs.take k).filter cmbB).length≤40:=Nat.le_trans (List.length_filter_le _ _) (by simp;omega)
    generalize ((gs.take k).filter cmbB)=fl at htk hcl
    clear hgb hb3 kG hA2
    go_wp2_with fail
    refine (HCM.out _).mono ?_
    rintro e w4 ⟨rfl,hb4⟩
    have hbel4:=hbel3.trans (hb4.mono hbel3.size)
    cases hcb:cmbB ⟨kd,ga,gb,gv⟩ with
    | true =>
     have HTK:Hid (((gs.take (k+1)).filter cmbB).length=fl.length+1):=Lib.hid (by rw [htk];simp [hcb])
     clear htk hcb
     go_wp2
     go_roundw
     case rel=>exact ⟨k+1,by omega,by go_num,by rw [HTK.out];go_num,hbel4,fun j h1 h2=>by
      rcases Nat.lt_or_ge j k with h|h
      ·exact HALL.out j h1 h
      ·obtain rfl:j=k:=by omega
       rw [HGK.out];exact HGB.out⟩
     case measure=>simp [intOf];omega
    | false =>
     have HTK:Hid (((gs.take (k+1)).filter cmbB).length=fl.length):=Lib.hid (by rw [htk];simp [hcb])
     clear htk hcb
     go_wp2
     go_roundw
     case rel=>exact ⟨k+1,by omega,by go_num,by rw [HTK.out],hbel4,fun j h1 h2=>by
      rcases Nat.lt_or_ge j k with h|h
      ·exact HALL.out j h1 h
      ·obtain rfl:j=k:=by omega
       rw [HGK.out];exact HGB.out⟩
     case measure=>simp [intOf];omega
  ·obtain rfl:k=gs.length:=by omega
   rw [List.take_length]
   have y2:=cell_keep hbel x2
   have hok:∀ g ∈ gs,gateB p inp gs.length g=true:=fun g hg=>by obtain ⟨j,hj,rfl⟩:=List.mem_iff_getElem.1 hg;exact HALL.out j hj hj
   have hgw:GtsAt wr (.slice a gs.length cap) gs:=GtsAt.keep hbel ⟨a,cap,rfl,hcap,hat⟩
   have HO:=Lib.hid (crOrder_any p inp (.slice oa os.length oc) _ gs wr hgw (by omega) hok)
   have HF:Hid (circB p inp gs os=decide ((ordC gs).length=(gs.filter cmbB).length)):=Lib.hid (by
    rw [HC.out,List.all_eq_true.2 hok,Bool.true_and])
   have hBB:=hB.trans (hbel.mono hB.size)
   clear hat hok hgw
   go_wp2_with fail
   refine HO.out.mono ?_
   rintro e w3 ⟨u,rfl,hu,hb3⟩
   obtain ⟨ua,uc,rfl⟩:=hu.slice
   have hB3:=hBB.trans (hb3.mono hBB.size)
   generalize (ordC gs).length=ol at HF
   generalize (gs.filter cmbB).length=fl at HF
   clear HO hu hb3 hBB
   go_wp2
   go_ret
   refine ⟨?_,hB3⟩
   rw [HF.out]
   show Ending.returned (Value.bool ((ol:Int) == (fl:Int)))=Ending.returned (Value.bool (decide (ol=fl)))
   rw [beq_dec]
   congr 2
   simp only [decide_eq_decide]
   omega
end Go.Proofs.YtbljmfcifljkaaaGreatDoor
