/-
  The draws: texts of terms. Own work.
-/
import Derived.Test.YtikgblkfmpecfaaGreatDoorKND
import Derived.Test.YtikgblkfmpecfaaGreatDoorKNF
import Derived.Test.YtikgblkfmpecfaaGreatDoorKX
import Derived.Test.YtikgblkfmpecfaaGreatDoorKNC
set_option linter.all false
set_option maxRecDepth 100000
set_option maxHeartbeats 8000000
namespace Go.Proofs.YtikgblkfmpecfaaGreatDoor
open Go.RowKit
theorem owns_cur {bc B:Nat} {w w':World} {v:Value} {ns:List Nd} (ho:NdsOwn w B v ns) (hE:Exc (fun k=>k=bc) w w') (hB:bc<B):NdsOwn w' B v ns :=
 owns_exc hE ho (fun k hk e=>by have:=(World.ownsRow.lt ho k hk).1;have:k=bc:=e;omega)
theorem wordy_any (bc m B:Nat) (v:Value) (ns:List Nd) (w:World) (h:Cur bc m w) (hm:m+40≤1099511627776) (ho:NdsOwn w B v ns) (hB:bc<B) (hd:Dn 250 ns) :
  Calls Tryz.prog 50 #[.pointer (some ⟨bc,0,none⟩),.agg #[v]] w (SpP bc (m+40) 4000 w):=by
 have hbz:=h.lt
 obtain ⟨a,c,rfl⟩:=ho.slice
 obtain ⟨t,ht,hok,hl,hc⟩:=hd.one
 have hal:=alloc_below w (.cells #[.slice a ns.length c] 27)
 have h1:Cur bc m (w.alloc (.cells #[.slice a ns.length c] 27)).drew:=(h.keep hal).keep (Below.refl _ _).drew
 have ho1:NdsOwn (w.alloc (.cells #[.slice a ns.length c] 27)).drew B (.slice a ns.length c) ns:=NdsOwn.keep hal.drew ho
 have hE1:Exc (fun k=>k=bc) w (w.alloc (.cells #[.slice a ns.length c] 27)).drew:=((Exc.refl _ _).below hal).below (Below.refl _ _).drew
 have hwc:¬ w.heap.size=bc:=by omega
 have hTN:∀ k,k=bc → k<(w.alloc (.cells #[.slice a ns.length c] 27)).drew.heap.size:=fun k hk=>by simp;omega
 have hsz:=fun b=>prT_size b t hok
 go_enter Tryz.func50,Tryz.ntmps50
 go_wp2_with fail
 refine region_acts (C:=Exc (fun k=>k=bc) _) 6 [0,1,2,3,4] (by kernel_rfl) (by kernel_rfl) (Exc.grows _ _) (Exc.refl _ _) ?_
 iterate 2 (apply x_sT rfl rfl rfl;(focus intro u hc' hf';(try simp only [World.size_drew] at hc' hf');go_simp <;> rfl);intro K hK;go_simp;apply hK;clear hK K)
 refine x_callT rfl rfl rfl (Exc.refl _ _) 39 (hTN) (fun K hK=>?_);apply Exists.intro;refine ⟨fun w' hw'=>?_,fun w3 hw3 hbw3=>?_⟩;(focus go_simp;rfl);refine (one_any bc _ 3 _ (h1.keep hbw3) (by omega) (by omega)).mono ?_;rintro e w4 ⟨b,rfl,hc4,hx4⟩;refine ⟨_,rfl,hx4,fun hx=>?_⟩;go_simp;apply hK;clear hK K
 have ho4:=owns_cur (NdsOwn.keep hbw3 ho1) hx4 hB
 refine x_call rfl rfl rfl (Exc.grows _ _) (hx) 45 (fun K hK=>?_);apply Exists.intro;refine ⟨fun w' hw'=>?_,fun w5 hw5 hbw5=>?_⟩;(focus go_simp;rfl);refine (sxPrint_full b _ ns t _ (NdsOwn.keep hbw5 ho4).at (by omega) ht hok (by omega) numOk).mono ?_;rintro e w6 ⟨rfl,hb6⟩;refine ⟨_,rfl,hb6,fun hx=>?_⟩;go_simp;apply hK;clear hK K
 iterate 1 (apply x_sT rfl rfl rfl;(focus intro u hc' hf';(try simp only [World.size_drew] at hc' hf');go_simp <;> rfl);intro K hK;go_simp;apply hK;clear hK K)
 refine x_nil ?_
 have hc6:=(hc4.keep hbw5).keep hb6
 have hx6:Exc (fun k=>k=bc) w w6:=((hE1.below hbw3).trans hx4).below (hbw5.trans (hb6.mono hbw5.size))
 obtain ⟨s,hs⟩:∃ s,s=prT b t:=⟨_,rfl⟩
 have hss:=hsz b
 rw [← hs] at hss
 rw [← hs]
 clear hs hb6 hbw5 hx ho4 hc4 hx4 hbw3
 go_upto_region 3 with (go_at_call 38;refine (pick_any bc _ 6 _ hc6 (by omega) (by omega)).mono ?_;rintro e w7 ⟨y,rfl,y0,y1,y2,hc7,hx7⟩)
 have hx7:=hx6.trans hx7
 clear y2 hx6 hc6
 have hss2:s.size≤3000:=by omega
 have n1:¬ 9223372036854775807<1+s.size:=by omega
 have n2:¬ 9223372036854775807<1+s.size+1:=by omega
 have n3:¬ 9223372036854775807<s.size+1:=by omega
 have u1:(⟨#[40]⟩:ByteArray).size=1:=rfl
 have u2:(⟨#[41]⟩:ByteArray).size=1:=rfl
 have u3:(⟨#[32]⟩:ByteArray).size=1:=rfl
 have u4:(⟨#[10]⟩:ByteArray).size=1:=rfl
 by_cases h0:y=0
 ·subst h0
  go_wp2_with (go_at_call 65;refine (spoilt_any bc _ s _ _ hc7 (by omega) (by omega) (by decide) (by decide)).mono ?_;rintro e w8 ⟨s8,rfl,hs8,hc8,hx8⟩)
  go_ret
  exact ⟨_,rfl,by omega,hc8.mono (by omega),hx7.trans hx8⟩
 by_cases h1:y=1
 ·subst h1
  go_wp2_with fail
  go_ret
  exact ⟨_,rfl,by simp only [bsize,u1,u2];omega,hc7.mono (by omega),hx7⟩
 by_cases h2:y=2
 ·subst h2
  go_wp2_with fail
  go_ret
  exact ⟨_,rfl,by simp only [bsize,u3,u4];omega,hc7.mono (by omega),hx7⟩
 go_wp2_with fail
 go_ret
 exact ⟨_,rfl,by omega,hc7.mono (by omega),hx7⟩
end Go.Proofs.YtikgblkfmpecfaaGreatDoor
/-
  The draws of terms to print and of texts to parse. Own work.
-/
namespace Go.Proofs.YtikgblkfmpecfaaGreatDoor
open Go.RowKit
theorem cur_start {w:World} {va:Value} {code:List UInt8} (h:BytesAt w va code) (hl:code.length≤1048576) (hlow:∀ k,va.ownBlock=some k → k<w.heap.size) :
  Cur w.heap.size 0 (w.alloc (.cells #[va,.int .i64 0,.int .u64 0] 67)):=by
 refine ⟨va,code,0,0,by simp [go_sem],by simp [go_sem],by simp [go_sem],fun j=>by simp [go_sem],h.keep fun b o e=>?_,fun b o sp n c e=>hlow b (by rw [e];rfl),Nat.le_refl _,hl⟩
 have:=hlow b e
 exact (alloc_below w _).cell (p:=⟨b,o,none⟩) this
theorem BytesAt.low {w w':World} {va:Value} {code:List UInt8} (h:BytesAt w va code) (hlow:∀ k,va.ownBlock=some k → k<w.heap.size) (hb:Below w.heap.size w w'):BytesAt w' va code :=
 h.keep fun b o e=>hb.cell (p:=⟨b,o,none⟩) (hlow b e)
theorem below_exq {w w1 w2:World} {bc:Nat} (hb:Below w.heap.size w w1) (hE:Exc (fun k=>k=bc) w1 w2) (hbc:w.heap.size≤bc):Below w.heap.size w w2 :=
 ⟨hE.os.trans hb.os,hE.tape.trans hb.tape,hE.output.trans hb.output,Nat.le_trans hb.size hE.size,fun k hk=>(hE.block k (Nat.lt_of_lt_of_le hk hb.size) (by omega)).trans (hb.block k hk)⟩
theorem txs_made (w:World) (xs:List ByteArray) (n:Nat) (hn:n=xs.length):TxsAt (w.alloc (.cells (xs.map Value.string).toArray 9)) (.slice (some ⟨w.heap.size,0,none⟩) n n) xs:=by
 subst hn
 refine ⟨some ⟨w.heap.size,0,none⟩,xs.length,rfl,Nat.le_refl _,fun i hi=>⟨_,0,rfl,hi,?_⟩⟩
 simp [go_sem,hi]
def tx17:List ByteArray:=[⟨#[]⟩,⟨#[99,111,112,121,32,59,32,41]⟩,⟨#[99,111,112,121,32,59,32,115,119,97,112,32,59,32,97,100,100,32,59,32,97,100,100]⟩,⟨#[105,100,32,49,51]⟩,⟨#[105,100,32,49,50,32,42,32,105,100,32,49]⟩,⟨#[115,99,97,108,101,32,57,55]⟩,⟨#[115,99,97,108,101]⟩,⟨#[105,100,32,99,111,112,121]⟩,⟨#[40,99,111,112,121]⟩,⟨#[99,111,112,121,41]⟩,⟨#[110,111,98,111,100,121]⟩,⟨#[99,111,112,121,32,99,111,112,121]⟩,⟨#[115,99,97,108,101,32,57,54,32,59,32,99,111,115,99,97,108,101,32,48]⟩,⟨#[105,100,32,48]⟩,⟨#[49]⟩,⟨#[99,111,112,121,32,59,32,59,32,97,100,100]⟩,⟨#[99,111,112,121,32,61,32,97,100,100]⟩]
theorem tx17_size:∀ x ∈ tx17,x.size≤100:=by decide
theorem dn_pos {k:Nat} {ns:List Nd} (h:Dn k ns):1≤ns.length:=by
 obtain ⟨t,ht,_⟩:=h.one
 cases ns with
 | nil=>simp [treesGo] at ht
 | cons x r=>simp
def DpP (w:World) (e:Ending) (w':World):Prop:=∃ v xs vb nb,e=.returned (.tuple #[v,.agg #[vb]])∧DfsRow w' w.heap.size v xs∧good (xs.map Prod.fst)=true∧(∀ d ∈ xs.map Prod.fst,DfOk d)∧xs.length≤4∧NdsAt w' vb nb∧NdsOk nb∧Below w.heap.size w w'
def DqP (w:World) (e:Ending) (w':World):Prop:=∃ v xs,∃ u:ByteArray,e=.returned (.tuple #[v,.string u])∧DfsRow w' w.heap.size v xs∧good (xs.map Prod.fst)=true∧(∀ d ∈ xs.map Prod.fst,DfOk d)∧xs.length≤4∧u.size≤10000∧Below w.heap.size w w'
theorem drawParse_any (va:Value) (code:List UInt8) (w:World) (h:BytesAt w va code) (hl:code.length≤1048576) (hlow:∀ k,va.ownBlock=some k → k<w.heap.size) :
  Calls Tryz.prog 14 #[va] w (DqP w):=by
 have hc1:=cur_start h hl hlow
 have hb1:=alloc_below w (.cells #[va,.int .i64 0,.int .u64 0] 67)
 have hbz:=hc1.lt
 obtain ⟨aa,ac,rfl⟩:=h.shape
 go_enter Tryz.func14,Tryz.ntmps14
 go_upto_if 22 with (first
  | (go_at_call 39;refine (one_any w.heap.size _ 10 _ hc7 (by omega) (by omega)).mono ?_;rintro e w8 ⟨b,rfl,hc8,hx8⟩)
  | (go_at_call 37;refine (named_any w.heap.size _ 5 i o _ xs _ hc4 (by omega) (by omega) (by omega) i0 (by omega) o0 (by omega) (hrow4.mono (by omega)) hgd (by omega)).mono ?_;rintro e w6 ⟨v6,ns6,rfl,hd6,ho6,hc6,hx6⟩;obtain ⟨a6,c6,rfl⟩:=ho6.slice;have hc7:=hc6.keep (alloc_below w6 (.cells #[.slice a6 ns6.length c6] 27)))
  | (go_at_call 38;refine (pick_any w.heap.size _ 3 _ hc3 (by omega) (by omega)).mono ?_;rintro e w4 ⟨o,rfl,o0,o1,o2,hc4,hx4⟩;have hrow4:=(hrow.cur hx3 (by omega)).cur hx4 (by omega))
  | (go_at_call 38;refine (pick_any w.heap.size _ 3 _ hc2 (by omega) (by omega)).mono ?_;rintro e w3 ⟨i,rfl,i0,i1,i2,hc3,hx3⟩)
  | (go_at_call 36;refine (library_any w.heap.size 0 5 _ hc1 (by omega) (by omega) (by omega)).mono ?_;rintro e w2 ⟨v2,xs,rfl,hrow,hgd,hxl,hok,hc2,hx2⟩;obtain ⟨la,lc,rfl⟩:=hrow.shape xs.length rfl))
 have hx6a:Exc (fun k=>k=w.heap.size) w2 w6:=(hx3.trans hx4).trans hx6
 have hx8a:Exc (fun k=>k=w.heap.size) w2 w8:=(hx6a.below (alloc_below w6 (.cells #[.slice a6 ns6.length c6] 27))).trans hx8
 have hB8:Below w.heap.size w w8:=below_exq (below_exq hb1 hx2 (Nat.le_refl _)) hx8a (Nat.le_refl _)
 have row8:=hrow.cur hx8a (by simp;omega)
 simp only [World.size_alloc] at row8
 have hz4:w.heap.size<w4.heap.size:=hc4.lt
 have hz6:w.heap.size<w6.heap.size:=hc6.lt
 have ho8:NdsOwn w8 (w.heap.size+1) (.slice a6 ns6.length c6) ns6:=NdsOwn.mono (by omega) (owns_cur (NdsOwn.keep (alloc_below w6 (.cells #[.slice a6 ns6.length c6] 27)) ho6) hx8 (by omega))
 have t0:w8.cell? ⟨w6.heap.size,0,none⟩=some (.slice a6 ns6.length c6):=(hx8.cell.1 _ _ (by simp) (by omega)).trans (by simp [go_sem])
 have hfin:∀ w9,Exc (fun k=>k=w.heap.size) w8 w9 → DfsRow w9 w.heap.size (.slice la xs.length lc) xs∧Below w.heap.size w w9:=fun w9 h9=>⟨(row8.cur h9 (by omega)).mono (by omega),below_exq hB8 h9 (Nat.le_refl _)⟩
 obtain ⟨tb,htb⟩:∃ tb,tb=w6.heap.size:=⟨_,rfl⟩
 have htw:¬ tb=w.heap.size:=by omega
 rw [← htb] at t0
 rw [← htb]
 clear htb hx8a hx6a hx6 hx4 hx3 hx2 hx8 hc7 hc6 hc4 hc3 hc2 hc1 ho6 hrow hrow4 i1 o1 hb1
 have z0:=cell_lt t0
 have hz8:=hc8.lt
 cases b
 ·go_upto_if 28 with (go_at_call 39;refine (one_any w.heap.size _ 24 _ hc8 (by omega) (by omega)).mono ?_;rintro e w9 ⟨b,rfl,hc9,hx9⟩)
  have ho9:=owns_cur ho8 hx9 (by omega)
  have t9:=(hx9.cell.1 _ 0 z0 htw).trans t0
  have z9:=cell_lt t9
  cases b
  ·go_wp2_with (go_at_call 50;refine (wordy_any w.heap.size _ _ _ ns6 _ hc9 (by omega) ho9 (by omega) hd6).mono ?_;rintro e w10 ⟨u,rfl,hu,hc10,hx10⟩)
   go_ret2
   obtain ⟨q1,q2⟩:=hfin w10 (hx9.trans hx10)
   exact ⟨_,xs,u,rfl,q1,hgd,hok,hxl,by omega,q2⟩
  ·go_wp2_with (go_at_call 38;refine (pick_any w.heap.size _ 3 _ hc9 (by omega) (by omega)).mono ?_;rintro e w10 ⟨y,rfl,y0,y1,y2,hc10,hx10⟩)
   have e1:IntKind.i64.wrap (199+y)=199+y:=IntWalk.i64_in _ (by omega)
   have hx10':=hx9.trans hx10
   go_loopw [7,8] (fun sv kv wr=>∃ (s:ByteArray) (k:Int) (j:Nat),sv=.string s∧kv=.int .i64 k∧0≤k∧k+j≤201∧s.size≤4+7 * j∧wr=w10) (fun _ kv _=>(intOf kv).toNat)
   case atStart=>exact ⟨_,199+y,0,rfl,by simp [e1],by omega,by omega,(by decide:ByteArray.size _≤4),by first|rfl|trivial⟩
   case round =>
    obtain ⟨s,k,j,rfl,rfl,k0,kj,hs,rfl⟩:=hrel
    clear e1
    by_cases hk:1<k
    ·have n1:¬ 9223372036854775807<s.size+7:=by omega
     go_wp2_with fail
     go_roundw
     case rel=>exact ⟨_,k - 1,j+1,rfl,by go_num,by omega,by omega,by (have u1:(⟨#[32,59,32,105,100,32,49]⟩:ByteArray).size=7:=rfl);simp only [bsize,u1];omega,by first|rfl|trivial⟩
     case measure=>simp [intOf];omega
    ·go_wp2_with fail
     go_ret2
     obtain ⟨q1,q2⟩:=hfin _ hx10'
     exact ⟨_,xs,s,rfl,q1,hgd,hok,hxl,by omega,q2⟩
 ·have htx:=txs_made w8 tx17 17 rfl
  have hal:=alloc_below w8 (.cells (tx17.map Value.string).toArray 9)
  have hc9:=hc8.keep hal
  go_wp2_with (go_at_call 49;refine (of_any w.heap.size _ _ tx17 _ hc9 (by omega) htx (by decide) (by decide) (fun q hq=>by simp [Value.ownBlock] at hq;omega)).mono ?_;rintro e w10 ⟨u,hu,rfl,hc10,hx10⟩)
  go_ret2
  obtain ⟨q1,q2⟩:=hfin w10 (((Exc.refl _ _).below hal).trans hx10)
  have:=tx17_size u hu
  exact ⟨_,xs,u,rfl,q1,hgd,hok,hxl,by omega,q2⟩
theorem drawPrint_any (va:Value) (code:List UInt8) (w:World) (h:BytesAt w va code) (hl:code.length≤1048576) (hlow:∀ k,va.ownBlock=some k → k<w.heap.size) :
  Calls Tryz.prog 7 #[va] w (DpP w):=by
 have hal:=alloc_below w (.cells #[.slice none 0 0] 27)
 have hc1:=cur_start (h.low hlow hal) hl (fun k hk=>by have:=hlow k hk;simp;omega)
 have hb1:Below w.heap.size w ((w.alloc (.cells #[.slice none 0 0] 27)).alloc (.cells #[va,.int .i64 0,.int .u64 0] 67)):=hal.alloc (by simp) _
 simp only [World.size_alloc] at hc1
 have hbz:=hc1.lt
 have r1:((w.alloc (.cells #[.slice none 0 0] 27)).alloc (.cells #[va,.int .i64 0,.int .u64 0] 67)).cell? ⟨w.heap.size,0,none⟩=some (.slice none 0 0):=by simp [go_sem]
 have rf1:((w.alloc (.cells #[.slice none 0 0] 27)).alloc (.cells #[va,.int .i64 0,.int .u64 0] 67)).frozen? ⟨w.heap.size,0,none⟩=false:=by simp [go_sem]
 obtain ⟨aa,ac,rfl⟩:=h.shape
 go_enter Tryz.func7,Tryz.ntmps7
 go_upto_if 20 with (first
  | (go_at_call 39;refine (one_any (w.heap.size+1) _ 16 _ hc7 (by omega) (by omega)).mono ?_;rintro e w8 ⟨b,rfl,hc8,hx8⟩)
  | (go_at_call 37;refine (named_any (w.heap.size+1) _ 5 i o _ xs _ hc4 (by omega) (by omega) (by omega) i0 (by omega) o0 (by omega) (hrow4.mono (by simp only [World.size_alloc];omega)) hgd (by omega)).mono ?_;rintro e w6 ⟨v6,ns6,rfl,hd6,ho6,hc6,hx6⟩;obtain ⟨a6,c6,rfl⟩:=ho6.slice;have hc7:=hc6.keep (alloc_below w6 (.cells #[.slice a6 ns6.length c6] 27)))
  | (go_at_call 38;refine (pick_any (w.heap.size+1) _ 3 _ hc3 (by omega) (by omega)).mono ?_;rintro e w4 ⟨o,rfl,o0,o1,o2,hc4,hx4⟩;have hrow4:=(hrow.cur hx3 (by simp only [World.size_alloc];omega)).cur hx4 (by simp only [World.size_alloc];omega))
  | (go_at_call 38;refine (pick_any (w.heap.size+1) _ 3 _ hc2 (by omega) (by omega)).mono ?_;rintro e w3 ⟨i,rfl,i0,i1,i2,hc3,hx3⟩)
  | (go_at_call 36;refine (library_any (w.heap.size+1) 0 5 _ hc1 (by omega) (by omega) (by omega)).mono ?_;rintro e w2 ⟨v2,xs,rfl,hrow,hgd,hxl,hok,hc2,hx2⟩;obtain ⟨la,lc,rfl⟩:=hrow.shape xs.length rfl))
 simp only [World.size_alloc] at hrow hrow4 hbz
 have hx6a:Exc (fun k=>k=w.heap.size+1) w2 w6:=(hx3.trans hx4).trans hx6
 have hx8a:Exc (fun k=>k=w.heap.size+1) w2 w8:=(hx6a.below (alloc_below w6 (.cells #[.slice a6 ns6.length c6] 27))).trans hx8
 have hz2:w.heap.size+1<w2.heap.size:=hc2.lt
 have hB2:Below w.heap.size w w2:=below_exq hb1 hx2 (by omega)
 have r2:w2.cell? ⟨w.heap.size,0,none⟩=some (.slice none 0 0):=(hx2.cell.1 _ _ (by simp only [World.size_alloc];omega) (by omega)).trans r1
 have rf2:w2.frozen? ⟨w.heap.size,0,none⟩=false:=(hx2.cell.2 _ _ (by simp only [World.size_alloc];omega) (by omega)).trans rf1
 have hz4:w.heap.size+1<w4.heap.size:=hc4.lt
 have hz6:w.heap.size+1<w6.heap.size:=hc6.lt
 have ho8:NdsOwn w8 (w.heap.size+2) (.slice a6 ns6.length c6) ns6:=NdsOwn.mono (by omega) (owns_cur (NdsOwn.keep (alloc_below w6 (.cells #[.slice a6 ns6.length c6] 27)) ho6) hx8 (by omega))
 have t0:w8.cell? ⟨w6.heap.size,0,none⟩=some (.slice a6 ns6.length c6):=(hx8.cell.1 _ _ (by simp) (by omega)).trans (by simp [go_sem])
 have tf:w8.frozen? ⟨w6.heap.size,0,none⟩=false:=(hx8.cell.2 _ _ (by simp) (by omega)).trans (by simp [go_sem])
 have hne8:∀ k,(Value.slice a6 ns6.length c6).ownBlock=some k → k ≠ w6.heap.size:=fun k hk=>by have:=(World.ownsRow.lt ho6 k hk).2;omega
 obtain ⟨tb,htb⟩:∃ tb,tb=w6.heap.size:=⟨_,rfl⟩
 have htw:w.heap.size+1<tb:=by omega
 rw [← htb] at t0 tf hne8
 rw [← htb]
 obtain ⟨_,_,_,hn6,_⟩:=hd6.one
 have hn1:1≤ns6.length:=dn_pos hd6
 have hok6:=hd6.ok (by omega)
 have htb2:w2.heap.size≤tb:=by have:=hx6a.size;omega
 clear htb hx6a hx6 hx4 hx3 hx2 hx8 hc7 hc6 hc4 hc3 hc2 hc1 ho6 hrow4 i1 o1 hb1 r1 rf1
 have z0:=cell_lt t0
 have hz8:=hc8.lt
 go_cut [20] (fun s20 wx=>∃ vb nb,wx.cell? ⟨tb,0,none⟩=some vb∧NdsOwn wx (w.heap.size+2) vb nb∧NdsOk nb∧Exc (fun k=>k=w.heap.size+1) w2 wx)
 case first =>
  cases b
  ·go_wp2_with fail
   go_meet
   case rel=>exact ⟨_,ns6,t0,ho8,hok6,hx8a⟩
  ·go_wp2_with (go_at_call 40;refine (bentTerm_any (w.heap.size+1) _ 5 _ ns6 _ hc8 (by omega) (by omega) (by omega) ho8.at hn1 (by omega) hok6).mono ?_;rintro e w9 ⟨v9,ns9,rfl,ho9,hok9,hc9,hx9⟩;obtain ⟨a9,c9,rfl⟩:=ho9.slice;have t9:=(hx9.cell.1 _ 0 z0 (by omega)).trans t0;have tf9:=(hx9.cell.2 _ 0 z0 (by omega)).trans tf;have z9:=cell_lt t9)
   go_meet
   case rel =>
    have hS:Exc (fun k=>k=tb) w9 (w9.setCell ⟨tb,0,none⟩ (.slice a9 ns9.length c9)):=exc_set (a:=⟨tb,0,none⟩) (Exc.refl (fun k=>k=tb) _) (.inr rfl) _
    exact ⟨_,ns9,by go_simp,owns_exc hS (NdsOwn.mono (by omega) ho9) (fun k hk e=>by have:=(World.ownsRow.lt ho9 k hk).1;omega),hok9,exc_set (hx8a.trans hx9) (.inl htb2) _⟩
 case rest =>
  obtain ⟨vb,nb,tx,hox,hokx,hEx⟩:=hcut
  obtain ⟨ab,cb,rfl⟩:=hox.slice
  have zx:=cell_lt tx
  have rx:=(hEx.cell.1 _ 0 (by omega) (by omega)).trans r2
  have rfx:=(hEx.cell.2 _ 0 (by omega) (by omega)).trans rf2
  have zr:=cell_lt rx
  have htw2:¬ tb=w.heap.size:=by omega
  have hrowx:=hrow.cur hEx (by omega)
  have hBx:=below_exq hB2 hEx (by omega)
  clear t0 tf z0 hx8a hc8 ho8
  go_wp2_with fail
  refine region_acts (C:=Exc (fun k=>k=w.heap.size) _) 6 [0,1,2,3] (by kernel_rfl) (by kernel_rfl) (Exc.grows _ _) (Exc.refl _ _) ?_
  iterate 3 (apply x_sT rfl rfl rfl;(focus intro u hc' hf';(try simp only [World.size_drew] at hc' hf');go_simp <;> rfl);intro K hK;go_simp;apply hK;clear hK K)
  refine x_do rfl rfl rfl (Exc.grows _ _) (Exc.refl _ _) (fun K hK=>?_)
  intro w10 hw10 hb10
  have B10:Below wc.heap.size wc w10:=((Below.refl _ _).drew).trans (hb10.mono (by simp))
  have r10:=cell_keep B10 rx
  have rf10:=(B10.frozen (p:=⟨w.heap.size,0,none⟩) zr).trans rfx
  have z10:=cell_lt r10
  refine ⟨w10.setCell ⟨w.heap.size,0,none⟩ (.slice ab nb.length cb),?_,⟨exc_set hw10 (.inr rfl) _,by simp,fun q hq _ _=>Below.heap_setCell _ _ _ _ (fun hh=>by have:q=w.heap.size:=hh;simp at hq;omega)⟩,?_⟩
  ·go_simp
  go_simp
  refine hK _ _ _ ?_
  clear hK K
  refine x_nil ?_
  have hW:(w10.setCell ⟨w.heap.size,0,none⟩ (.slice ab nb.length cb)).cell? ⟨w.heap.size,0,none⟩=some (.slice ab nb.length cb):=by go_simp
  have hS:Exc (fun k=>k=w.heap.size) w10 (w10.setCell ⟨w.heap.size,0,none⟩ (.slice ab nb.length cb)):=exc_set (a:=⟨w.heap.size,0,none⟩) (Exc.refl (fun k=>k=w.heap.size) _) (.inr rfl) _
  go_wp2
  refine bodyPost_ret (v:=.tuple #[.slice la xs.length lc,.agg #[.slice ab nb.length cb]]) (by simp [results,Tryz.results7,go_sem,hW]) rfl ⟨_,xs,_,nb,rfl,((hrowx.keep B10).cur hS (by omega)).mono (by omega),hgd,hok,hxl,(NdsOwn.setLow (NdsOwn.keep B10 hox) (by show w.heap.size<_;omega) _).at,hokx,below_exq (hBx.trans (B10.mono hBx.size)) hS (Nat.le_refl _)⟩
end Go.Proofs.YtikgblkfmpecfaaGreatDoor
/-
  The law's helpers: pSameTerm at equal terms, big. Own work.
-/
namespace Go.Proofs.YtikgblkfmpecfaaGreatDoor
open Go.RowKit
theorem sameTerm_any (va vb:Value) (ns:List Nd) (w:World) (ha:NdsAt w va ns) (hb:NdsAt w vb ns) (hn:ns.length≤1048576) :
  Calls Tryz.prog 13 #[.agg #[va],.agg #[vb]] w fun e w'=>e=.returned (.bool true)∧Below w.heap.size w w':=by
 obtain ⟨a,ca,rfl,hca,hata⟩:=ha
 obtain ⟨b,cb,rfl,hcb,hatb⟩:=hb
 go_enter Tryz.func13,Tryz.ntmps13
 go_wp2_with fail
 go_loopw [5,16] (fun _ kv wr=>∃ k:Nat,kv=.int .i64 k∧k≤ns.length∧Below (w.heap.size+2) ((w.alloc (.cells #[.slice a ns.length ca] 27)).alloc (.cells #[.slice b ns.length cb] 27)) wr) (fun _ kv _=>ns.length - (intOf kv).toNat)
 case atStart=>exact ⟨0,rfl,by omega,Below.refl _ _⟩
 case round =>
  obtain ⟨k,rfl,hk,hbel⟩:=hrel
  have hB:Below w.heap.size w wr:=(((Below.refl _ _).alloc (Nat.le_refl _) _).alloc (by simp) _).trans (hbel.mono (by omega))
  by_cases hlt:k<ns.length
  ·obtain ⟨ba,oa,rfl,_,hna⟩:=hata k hlt
   obtain ⟨bb,ob,rfl,_,hnb⟩:=hatb k hlt
   obtain ⟨c0,c1,c2⟩:=hna
   obtain ⟨d0,d1,d2⟩:=hnb
   have c0:=cell_keep hB c0
   have c1:=cell_keep hB c1
   have c2:=cell_keep hB c2
   have d0:=cell_keep hB d0
   have d1:=cell_keep hB d1
   have d2:=cell_keep hB d2
   have t0:wr.cell? ⟨w.heap.size,0,none⟩=some (.slice (some ⟨ba,oa,none⟩) ns.length ca):=(hbel.cell (p:=⟨w.heap.size,0,none⟩) (by simp)).trans (by simp [go_sem])
   have t1:wr.cell? ⟨w.heap.size+1,0,none⟩=some (.slice (some ⟨bb,ob,none⟩) ns.length cb):=(hbel.cell (p:=⟨w.heap.size+1,0,none⟩) (by simp)).trans (by simp [go_sem])
   have z0:=cell_lt t0
   have z1:=cell_lt t1
   have y0:=cell_lt c0
   have y1:=cell_lt d0
   clear hata hatb
   go_wp2_with fail
   refine region_acts (C:=Exc (NoT) _) 6 [0,1,2,3,4,5,6,7,8,9,10] (by kernel_rfl) (by kernel_rfl) (Exc.grows _ _) (Exc.refl _ _) ?_
   iterate 11 (apply x_st rfl rfl rfl;(focus intro u hc' hf';go_simp <;> rfl);intro K hK;go_simp;apply hK;clear hK K)
   refine x_nil ?_
   go_wp2_with fail
   exact ⟨⟨k+1,by simp,by omega,hbel.drew⟩,by simp [intOf];omega⟩
  ·go_wp2_with fail
   go_ret
   exact ⟨rfl,hB⟩
def BgP (xs ys:List UInt8) (w:World) (e:Ending) (w':World):Prop:=∃ b,e=.returned (.bool b)∧(b=false → xs.length≤1048576∧ys.length≤1048576)∧w'=w
theorem big_any (va vb:Value) (xs ys:List UInt8) (w:World) (ha:BytesAt w va xs) (hb:BytesAt w vb ys) (hx:xs.length≤1099511627776) (hy:ys.length≤1099511627776) :
  Calls Tryz.prog 6 #[va,vb] w (BgP xs ys w):=by
 obtain ⟨a,ca,rfl⟩:=ha.shape
 obtain ⟨b,cb,rfl⟩:=hb.shape
 have e1:IntKind.i64.wrap (1048576 - (xs.length:Int))=1048576 - (xs.length:Int):=IntWalk.i64_in _ (by omega)
 by_cases h1:(1048576:Int)<xs.length
 ·go_enter Tryz.func6,Tryz.ntmps6
  go_wp2_with fail
  go_ret
  exact ⟨true,rfl,by simp,rfl⟩
 ·go_enter Tryz.func6,Tryz.ntmps6
  go_wp2_with fail
  go_ret
  exact ⟨_,rfl,by simp;omega,rfl⟩
end Go.Proofs.YtikgblkfmpecfaaGreatDoor
