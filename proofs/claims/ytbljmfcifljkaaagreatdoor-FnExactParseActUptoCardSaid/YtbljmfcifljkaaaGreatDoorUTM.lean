/-
  The reference's small terms: one leaf, joins, chains, rules. Own work; printed by wip/parTmC.py.
-/
import Derived.Test.YtbljmfcifljkaaaGreatDoorUG
import Derived.Test.YtbljmfcifljkaaaGreatDoorUE
import Derived.Test.YtbljmfcifljkaaaGreatDoorURU
import Derived.Laws.OwnMore
import Derived.Test.YtbljmfcifljkaaaGreatDoorUFL
import Derived.Test.YtbljmfcifljkaaaGreatDoorUAX
set_option linter.all false
set_option maxRecDepth 100000
set_option maxHeartbeats 8000000
namespace Go.Proofs.YtbljmfcifljkaaaGreatDoor
open Go.RowKit
def TmcP (ns:List Nd) (w:World) (e:Ending) (w':World):Prop:=∃ v',e=.returned (.agg #[v'])∧NdsOwn w' w.heap.size v' ns∧Below w.heap.size w w'
theorem tmOneC_any (k x:Int) (w:World):Calls Tryz.prog 88 #[.int .i64 k,.int .i64 x] w (TmcP [⟨k,x,ByteArray.empty⟩] w):=by
 go_enter Tryz.func88,Tryz.ntmps88
 go_wp2
 refine bodyPost_ret (v:=.agg #[.slice (some ⟨w.heap.size+1,0,none⟩) 1 1]) (by simp [results,Tryz.results88,go_sem]) rfl ⟨_,rfl,?_,((Below.refl _ _).alloc (Nat.le_refl _) _).alloc (by simp) _⟩
 have:=World.ownsRow_lit (base:=w.heap.size) (size:=3) (e:=144) (w.alloc (.cells #[.slice (some ⟨w.heap.size+1,0,none⟩) 1 1] 30)) #[.int .i64 k,.int .i64 x,.string ByteArray.empty] 1 (by simp) (by unfold maxLen;omega) rfl
 simp only [World.size_alloc] at this
 exact this
theorem tmJoinC_any (va vb:Value) (xs ys:List Nd) (k:Int) (w:World) (ha:NdsAt w va xs) (hb:NdsAt w vb ys) (hn:xs.length≤100000) (hm:ys.length≤100000) :
  Calls Tryz.prog 223 #[.agg #[va],.agg #[vb],.int .i64 k] w (TmcP (xs ++ ys ++ [⟨k,0,ByteArray.empty⟩]) w):=by
 obtain ⟨aa,ca,rfl⟩:=ha.slice
 obtain ⟨ab,cb,rfl⟩:=hb.slice
 go_enter Tryz.func223,Tryz.ntmps223
 have hB3:Below w.heap.size w (((w.alloc (.cells #[.slice aa xs.length ca] 30)).alloc (.cells #[.slice ab ys.length cb] 30)).alloc (.cells #[.slice none 0 0] 30)):=(((Below.refl _ _).alloc (Nat.le_refl _) _).alloc (by simp) _).alloc (by simp;omega) _
 obtain ⟨W3,hW3⟩:∃ W3,W3=(((w.alloc (.cells #[.slice aa xs.length ca] 30)).alloc (.cells #[.slice ab ys.length cb] 30)).alloc (.cells #[.slice none 0 0] 30)):=⟨_,rfl⟩
 go_wp2_with (first
  | (at_builtin;refine hd_src (ha.keep (hB3.alloc (by simp;omega) _)) (by omega) rfl (.tmp 8) (.tmp 10) rfl (w.heap.size+3) (.slice (some ⟨w.heap.size+3,0,none⟩) 0 0) [] rfl rfl (nds_empty _ _ _ (by simp) (by simp)) (by simp) (by simp) ?_;intro v1 w1 h1 h2 h3;have h1:NdsOwn w1 (w.heap.size+3) v1 xs:=h1;obtain ⟨a1,c1,rfl⟩:=h1.slice;have hg1:Below (w.heap.size+3) (((w.alloc (.cells #[.slice aa xs.length ca] 30)).alloc (.cells #[.slice ab ys.length cb] 30)).alloc (.cells #[.slice none 0 0] 30)) w1:=((Below.refl _ _).alloc (by simp) _).grown h2 (by simp) (fun k hk=>by simp [Value.ownBlock] at hk;omega);have hs1:=hg1.size;simp only [World.size_alloc] at hs1;have q1:=hg1.cell (p:=⟨w.heap.size+1,0,none⟩) (by simp);have q2:=hg1.cell (p:=⟨w.heap.size+2,0,none⟩) (by simp);have q3:=hg1.frozen (p:=⟨w.heap.size+2,0,none⟩) (by simp);simp [go_sem] at q1 q2 q3)
  | (at_builtin;refine hd_src ((hb.keep hB3).keep (hg1.mono (by simp))) (by omega) rfl (.tmp 12) (.tmp 14) rfl (w.heap.size+3) _ _ rfl rfl h1 (by omega) (by omega) ?_;intro v4 w4 h4 h5 h6;obtain ⟨zs,hzs,hzl⟩:∃ zs,zs=xs ++ ys∧zs.length≤200000:=⟨_,rfl,by rw [List.length_append];omega⟩;replace h4:NdsOwn w4 (w.heap.size+3) v4 zs:=hzs ▸ h4;have HZ:=Lib.hid hzs;clear hzs;obtain ⟨a4,c4,rfl⟩:=h4.slice;have hg4:Below (w.heap.size+3) w1 w4:=(Below.refl _ _).grown h5 (by omega) (fun j hj=>(World.ownsRow.lt h1 j hj).1);have hs4:=hg4.size;have p2:=hg4.cell (p:=⟨w.heap.size+2,0,none⟩) (by simp);have p3:=hg4.frozen (p:=⟨w.heap.size+2,0,none⟩) (by simp);rw [q2] at p2;rw [q3] at p3)
  | (at_builtin;refine hd_src (v:=.slice (some ⟨w4.heap.size,0,none⟩) 1 1) (ns:=[⟨k,0,ByteArray.empty⟩]) (NdsOwn.at (World.ownsRow_lit (base:=w4.heap.size) (size:=3) (e:=144) w4 #[.int .i64 k,.int .i64 0,.string ByteArray.empty] 1 (Nat.le_refl _) (by unfold maxLen;omega) rfl)) (by simp) rfl (.tmp 16) (.tmp 19) rfl (w.heap.size+3) _ _ rfl rfl (NdsOwn.keep ((Below.refl _ _).alloc (Nat.le_refl _) _) h4) (by simp;omega) (by omega) ?_;intro v7 w7 h7 h8 h9;obtain ⟨a7,c7,rfl⟩:=h7.slice;have hg7:Below (w.heap.size+3) w4 w7:=((Below.refl _ _).alloc (by omega) _).grown h8 (by simp;omega) (fun j hj=>(World.ownsRow.lt h4 j hj).1);have hs7:=hg7.size;have r2:=hg7.cell (p:=⟨w.heap.size+2,0,none⟩) (by simp);have r3:=hg7.frozen (p:=⟨w.heap.size+2,0,none⟩) (by simp);rw [p2] at r2;rw [p3] at r3))
 rw [List.length_append] at h7
 have hz7:(w7.setCell { block:=w.heap.size+1+1,off:=0 } (.slice a7 (zs.length+1) c7)).cell? ⟨w.heap.size+1+1,0,none⟩=some (.slice a7 (zs.length+1) c7):=by
  have r2':w7.cell? ⟨w.heap.size+1+1,0,none⟩=some (.slice none 0 0):=r2
  go_simp
 refine bodyPost_ret (v:=.agg #[.slice a7 (zs.length+1) c7]) (by simp [results,Tryz.results223,go_sem,hz7]) rfl ⟨_,rfl,?_,?_⟩
 ·rw [← HZ.out]
  exact NdsOwn.mono (B:=w.heap.size+3) (by omega) (NdsOwn.setLow h7 (by show _<_;simp) _)
 ·exact (((((hB3.trans (hg1.mono (by omega))).trans (hg4.mono (by omega))).trans (hg7.mono (by omega)))).setCell (by simp;omega) _)
theorem tmSeqC_any (va vb:Value) (xs ys:List Nd) (w:World) (ha:NdsAt w va xs) (hb:NdsAt w vb ys) (hn:xs.length≤100000) (hm:ys.length≤100000) :
  Calls Tryz.prog 161 #[.agg #[va],.agg #[vb]] w (TmcP (xs ++ ys ++ [⟨15,0,ByteArray.empty⟩]) w):=by
 obtain ⟨aa,ca,rfl⟩:=ha.slice
 obtain ⟨ab,cb,rfl⟩:=hb.slice
 have hB3:Below w.heap.size w (((w.alloc (.cells #[.slice aa xs.length ca] 30)).alloc (.cells #[.slice ab ys.length cb] 30)).alloc (.cells #[.slice none 0 0] 30)):=(((Below.refl _ _).alloc (Nat.le_refl _) _).alloc (by simp) _).alloc (by simp;omega) _
 obtain ⟨zs,hzs⟩:∃ zs,zs=xs ++ ys ++ [(⟨15,0,ByteArray.empty⟩:Nd)]:=⟨_,rfl⟩
 rw [← hzs]
 have HZ:=Lib.hid hzs
 clear hzs
 go_enter Tryz.func161,Tryz.ntmps161
 go_wp2_with (go_at_call 223;refine (tmJoinC_any _ _ xs ys 15 _ (ha.keep hB3) (hb.keep hB3) hn hm).mono ?_;rintro e w2 ⟨v2,rfl,ho2,hb2⟩;rw [← HZ.out] at ho2;obtain ⟨a2,c2,rfl⟩:=ho2.slice;have q2:=hb2.cell (p:=⟨w.heap.size+2,0,none⟩) (by simp);have q3:=hb2.frozen (p:=⟨w.heap.size+2,0,none⟩) (by simp);simp [go_sem] at q2 q3)
 have q2':w2.cell? ⟨w.heap.size+1+1,0,none⟩=some (.slice none 0 0):=q2
 have hz7:(w2.setCell { block:=w.heap.size+1+1,off:=0 } (.slice a2 zs.length c2)).cell? ⟨w.heap.size+1+1,0,none⟩=some (.slice a2 zs.length c2):=by go_simp
 refine bodyPost_ret (v:=.agg #[.slice a2 zs.length c2]) (by simp [results,Tryz.results161,go_sem,hz7]) rfl ⟨_,rfl,?_,?_⟩
 ·exact NdsOwn.mono (B:=w.heap.size+3) (by omega) (NdsOwn.setLow (by simpa using ho2) (by show _<_;simp) _)
 ·exact (hB3.trans (hb2.mono (by simp;omega))).setCell (by simp;omega) _
theorem tmParC_any (va vb:Value) (xs ys:List Nd) (w:World) (ha:NdsAt w va xs) (hb:NdsAt w vb ys) (hn:xs.length≤100000) (hm:ys.length≤100000) :
  Calls Tryz.prog 162 #[.agg #[va],.agg #[vb]] w (TmcP (xs ++ ys ++ [⟨16,0,ByteArray.empty⟩]) w):=by
 obtain ⟨aa,ca,rfl⟩:=ha.slice
 obtain ⟨ab,cb,rfl⟩:=hb.slice
 have hB3:Below w.heap.size w (((w.alloc (.cells #[.slice aa xs.length ca] 30)).alloc (.cells #[.slice ab ys.length cb] 30)).alloc (.cells #[.slice none 0 0] 30)):=(((Below.refl _ _).alloc (Nat.le_refl _) _).alloc (by simp) _).alloc (by simp;omega) _
 obtain ⟨zs,hzs⟩:∃ zs,zs=xs ++ ys ++ [(⟨16,0,ByteArray.empty⟩:Nd)]:=⟨_,rfl⟩
 rw [← hzs]
 have HZ:=Lib.hid hzs
 clear hzs
 go_enter Tryz.func162,Tryz.ntmps162
 go_wp2_with (go_at_call 223;refine (tmJoinC_any _ _ xs ys 16 _ (ha.keep hB3) (hb.keep hB3) hn hm).mono ?_;rintro e w2 ⟨v2,rfl,ho2,hb2⟩;rw [← HZ.out] at ho2;obtain ⟨a2,c2,rfl⟩:=ho2.slice;have q2:=hb2.cell (p:=⟨w.heap.size+2,0,none⟩) (by simp);have q3:=hb2.frozen (p:=⟨w.heap.size+2,0,none⟩) (by simp);simp [go_sem] at q2 q3)
 have q2':w2.cell? ⟨w.heap.size+1+1,0,none⟩=some (.slice none 0 0):=q2
 have hz7:(w2.setCell { block:=w.heap.size+1+1,off:=0 } (.slice a2 zs.length c2)).cell? ⟨w.heap.size+1+1,0,none⟩=some (.slice a2 zs.length c2):=by go_simp
 refine bodyPost_ret (v:=.agg #[.slice a2 zs.length c2]) (by simp [results,Tryz.results162,go_sem,hz7]) rfl ⟨_,rfl,?_,?_⟩
 ·exact NdsOwn.mono (B:=w.heap.size+3) (by omega) (NdsOwn.setLow (by simpa using ho2) (by show _<_;simp) _)
 ·exact (hB3.trans (hb2.mono (by simp;omega))).setCell (by simp;omega) _
theorem tmIdC_any (k:Int) (w:World):Calls Tryz.prog 84 #[.int .i64 k] w (TmcP [⟨1,k,ByteArray.empty⟩] w):=by
 have hB3:Below w.heap.size w (w.alloc (.cells #[.slice none 0 0] 30)):=(Below.refl _ _).alloc (Nat.le_refl _) _
 obtain ⟨zs,hzs⟩:∃ zs,zs=[(⟨1,k,ByteArray.empty⟩:Nd)]:=⟨_,rfl⟩
 rw [← hzs]
 have HZ:=Lib.hid hzs
 clear hzs
 go_enter Tryz.func84,Tryz.ntmps84
 go_wp2_with (go_at_call 88;refine (tmOneC_any _ _ _).mono ?_;rintro e w2 ⟨v2,rfl,ho2,hb2⟩;rw [← HZ.out] at ho2;obtain ⟨a2,c2,rfl⟩:=ho2.slice;have q2:=hb2.cell (p:=⟨w.heap.size,0,none⟩) (by simp);have q3:=hb2.frozen (p:=⟨w.heap.size,0,none⟩) (by simp);simp [go_sem] at q2 q3)
 have hz7:(w2.setCell { block:=w.heap.size,off:=0 } (.slice a2 zs.length c2)).cell? ⟨w.heap.size,0,none⟩=some (.slice a2 zs.length c2):=by go_simp
 refine bodyPost_ret (v:=.agg #[.slice a2 zs.length c2]) (by simp [results,Tryz.results84,go_sem,hz7]) rfl ⟨_,rfl,?_,?_⟩
 ·exact NdsOwn.mono (B:=w.heap.size+1) (by omega) (NdsOwn.setLow (by simpa using ho2) (by show _<_;simp) _)
 ·exact (hB3.trans (hb2.mono (by simp))).setCell (by simp) _
theorem axOne_any (k:Int) (w:World):Calls Tryz.prog 83 #[.int .i64 k] w (TmcP [⟨k,0,ByteArray.empty⟩] w):=by
 obtain ⟨zs,hzs⟩:∃ zs,zs=[(⟨k,0,ByteArray.empty⟩:Nd)]:=⟨_,rfl⟩
 rw [← hzs]
 have HZ:=Lib.hid hzs
 clear hzs
 go_enter Tryz.func83,Tryz.ntmps83
 go_wp2_with (go_at_call 88;refine (tmOneC_any _ _ _).mono ?_;rintro e w2 ⟨v2,rfl,ho2,hb2⟩;rw [← HZ.out] at ho2;obtain ⟨a2,c2,rfl⟩:=ho2.slice;have q2:=hb2.cell (p:=⟨w.heap.size,0,none⟩) (by simp);have q3:=hb2.frozen (p:=⟨w.heap.size,0,none⟩) (by simp);simp [go_sem] at q2 q3)
 have hz7:(w2.setCell { block:=w.heap.size,off:=0 } (.slice a2 zs.length c2)).cell? ⟨w.heap.size,0,none⟩=some (.slice a2 zs.length c2):=by go_simp
 refine bodyPost_ret (v:=.agg #[.slice a2 zs.length c2]) (by simp [results,Tryz.results83,go_sem,hz7]) rfl ⟨_,rfl,?_,?_⟩
 ·exact NdsOwn.mono (B:=w.heap.size+1) (by omega) (NdsOwn.setLow (by simpa using ho2) (by show _<_;simp) _)
 ·exact ((alloc_below _ _).trans (hb2.mono (by simp))).setCell (by simp) _
theorem axScale_any (k:Int) (w:World):Calls Tryz.prog 87 #[.int .i64 k] w (TmcP [⟨7,k,ByteArray.empty⟩] w):=by
 obtain ⟨zs,hzs⟩:∃ zs,zs=[(⟨7,k,ByteArray.empty⟩:Nd)]:=⟨_,rfl⟩
 rw [← hzs]
 have HZ:=Lib.hid hzs
 clear hzs
 go_enter Tryz.func87,Tryz.ntmps87
 go_wp2_with (go_at_call 88;refine (tmOneC_any _ _ _).mono ?_;rintro e w2 ⟨v2,rfl,ho2,hb2⟩;rw [← HZ.out] at ho2;obtain ⟨a2,c2,rfl⟩:=ho2.slice;have q2:=hb2.cell (p:=⟨w.heap.size,0,none⟩) (by simp);have q3:=hb2.frozen (p:=⟨w.heap.size,0,none⟩) (by simp);simp [go_sem] at q2 q3)
 have hz7:(w2.setCell { block:=w.heap.size,off:=0 } (.slice a2 zs.length c2)).cell? ⟨w.heap.size,0,none⟩=some (.slice a2 zs.length c2):=by go_simp
 refine bodyPost_ret (v:=.agg #[.slice a2 zs.length c2]) (by simp [results,Tryz.results87,go_sem,hz7]) rfl ⟨_,rfl,?_,?_⟩
 ·exact NdsOwn.mono (B:=w.heap.size+1) (by omega) (NdsOwn.setLow (by simpa using ho2) (by show _<_;simp) _)
 ·exact ((alloc_below _ _).trans (hb2.mono (by simp))).setCell (by simp) _
def chainN (k:Int):List Nd → List (List Nd) → List Nd
 | a,[]=>a
 | a,b :: r=>chainN k (a ++ b ++ [⟨k,0,ByteArray.empty⟩]) r
theorem chainN_snoc (k:Int) (b:List Nd):∀ (r:List (List Nd)) (a:List Nd),chainN k a (r ++ [b])=chainN k a r ++ b ++ [⟨k,0,ByteArray.empty⟩]
 | [],a=>rfl
 | c :: r,a=>by rw [List.cons_append,chainN,chainN,chainN_snoc k b r]
def TmsAt (w:World) (g:Nat) (L:List (Value × List Nd)):Prop:=∀ j,∀ h:j<L.length,w.cell? ⟨g,j,none⟩=some (L[j]'h).1∧NdsAt w (L[j]'h).1 (L[j]'h).2
theorem TmsAt.keep {w w':World} {g:Nat} {L:List (Value × List Nd)} (h:TmsAt w g L) (hb:Below w.heap.size w w'):TmsAt w' g L:=fun j hj=>⟨cell_keep hb (h j hj).1,(h j hj).2.keep hb⟩
theorem chainN_len (k:Int):∀ (r:List (List Nd)) (a:List Nd),(∀ b ∈ r,b.length≤1000) → (chainN k a r).length≤a.length+1001 * r.length
 | [],a,_=>by simp [chainN]
 | b :: r,a,h=>by
  have h1:=chainN_len k r (a ++ b ++ [⟨k,0,ByteArray.empty⟩]) (fun x hx=>h x (List.mem_cons_of_mem _ hx))
  have h2:=h b (by simp)
  rw [chainN]
  simp only [List.length_append,List.length_cons,List.length_nil] at h1 ⊢
  omega
structure ChSt (k:Int) (v0:Value) (n0:List Nd) (L:List (Value × List Nd)) (w wr:World) (i:Nat) (v:Value):Prop where
 bel:Below w.heap.size w wr
 sz:w.heap.size+1<wr.heap.size
 c0:wr.cell? ⟨w.heap.size,0,none⟩=some (.slice none 0 0)
 c1:wr.cell? ⟨w.heap.size+1,0,none⟩=some v
 f0:wr.frozen? ⟨w.heap.size,0,none⟩=false
 f1:wr.frozen? ⟨w.heap.size+1,0,none⟩=false
 at':NdsAt wr v (chainN k n0 ((L.take i).map Prod.snd))
 own:i=0∨NdsOwn wr (w.heap.size+2) v (chainN k n0 ((L.take i).map Prod.snd))
theorem tmChain_any (k:Int) (g m:Nat) (v0:Value) (n0:List Nd) (L:List (Value × List Nd)) (w:World) (hL:TmsAt w g ((v0,n0) :: L)) (hm:L.length+1=m) (h1:¬ L=[]) (hm9:L.length≤9) (hz:n0.length≤1000) (hzs:∀ x ∈ L,x.2.length≤1000) :
  Calls Tryz.prog 163 #[.slice (some ⟨g,0,none⟩) m m,.int .i64 k] w (TmcP (chainN k n0 (L.map Prod.snd)) w):=by
 subst hm
 have h0:=hL 0 (by simp)
 simp only [List.getElem_cons_zero] at h0
 obtain ⟨c0,hn0⟩:=h0
 obtain ⟨a0,q0,rfl⟩:=hn0.slice
 have gz:=cell_lt c0
 have i1:(1:Int)≤(L.length:Int)+1:=by omega
 have hzt:∀ i,(chainN k n0 ((L.take i).map Prod.snd)).length≤20000:=fun i=>by
  have h2:=chainN_len k ((L.take i).map Prod.snd) n0 (fun b hb=>by
   obtain ⟨x,hx,rfl⟩:=List.mem_map.1 hb
   exact hzs x (List.mem_of_mem_take hx))
  have h3:((L.take i).map Prod.snd).length≤9:=by simp;omega
  omega
 have hst:ChSt k (.slice a0 n0.length q0) n0 L w ((w.alloc (.cells #[.slice none 0 0] 30)).alloc (.cells #[.slice a0 n0.length q0] 30)) 0 (.slice a0 n0.length q0):=by
  have hb:Below w.heap.size w ((w.alloc (.cells #[.slice none 0 0] 30)).alloc (.cells #[.slice a0 n0.length q0] 30)):=((Below.refl _ _).alloc (Nat.le_refl _) _).alloc (by simp) _
  exact ⟨hb,by simp,by simp [go_sem],by simp [go_sem],by simp [go_sem],by simp [go_sem],hn0.keep hb,.inl rfl⟩
 have HL:=Lib.hid hL
 have HZT:=Lib.hid hzt
 have HZS:=Lib.hid hzs
 have H1:=Lib.hid h1
 clear hL hzt hzs
 go_enter Tryz.func163,Tryz.ntmps163
 go_wp2_with fail
 clear h1
 go_loopw [14] (fun iv wr=>∃ (i:Nat) (v:Value),i≤L.length∧iv=.int .i64 (i:Int)∧ChSt k (.slice a0 n0.length q0) n0 L w wr i v) (fun iv _=>L.length - (intOf iv).toNat)
 case atStart=>exact ⟨0,_,by omega,rfl,hst⟩
 case round =>
  clear hst
  obtain ⟨i,v,hi,rfl,hst⟩:=hrel
  by_cases hlt:i<L.length
  ·have j1:(i:Int)<(L.length:Int):=by omega
   have j2:IntKind.i64.wrap ((i:Int)+1)=(i:Int)+1:=IntWalk.i64_in _ (by omega)
   have hel:=HL.out (i+1) (by simp;omega)
   simp only [List.getElem_cons_succ] at hel
   have hts:L.take (i+1)=L.take i ++ [L[i]]:=by rw [List.take_add_one,List.getElem?_eq_getElem hlt];rfl
   have hzx:=HZS.out _ (List.getElem_mem hlt)
   obtain ⟨x,hx⟩:∃ x,L[i]=x:=⟨_,rfl⟩
   rw [hx] at hel hts hzx
   obtain ⟨x1,x2⟩:=x
   obtain ⟨d0,d1⟩:=hel
   simp only at d0 d1 hzx
   obtain ⟨ax,cx,rfl⟩:=d1.slice
   rw [Nat.add_comm i 1] at d0
   have e0:=cell_keep hst.bel d0
   have ez:=cell_lt e0
   have hat:=hst.at'
   have hzi:=HZT.out i
   have hch:chainN k n0 ((L.take (i+1)).map Prod.snd)=chainN k n0 ((L.take i).map Prod.snd) ++ x2 ++ [⟨k,0,ByteArray.empty⟩]:=by
    rw [hts,List.map_append,List.map_singleton,chainN_snoc]
   obtain ⟨N,hN⟩:∃ N,chainN k n0 ((L.take i).map Prod.snd)=N:=⟨_,rfl⟩
   rw [hN] at hat hzi hch
   obtain ⟨av,cv,rfl⟩:=hat.slice
   have b0:=hst.c0
   have b1:=hst.c1
   have bf0:=hst.f0
   have bf1:=hst.f1
   have bz:=hst.sz
   have hB4:=alloc_below wr (.cells #[.slice ax x2.length cx] 30)
   have hjn:=tmJoinC_any (.slice av N.length cv) (.slice ax x2.length cx) N x2 k _ (hat.keep hB4) ((d1.keep hst.bel).keep hB4) (by omega) (by omega)
   rw [← hch] at hjn
   obtain ⟨zs,hzs⟩:∃ zs,chainN k n0 ((L.take (i+1)).map Prod.snd)=zs:=⟨_,rfl⟩
   rw [hzs] at hjn
   have HJ:=Lib.hid hjn
   have HZZ:=Lib.hid hzs
   have HST:=Lib.hid hst
   clear hjn hch hts hx hN hzs hat hst d0 d1
   go_wp2_with fail
   refine HJ.out.mono ?_
   rintro e w3 ⟨v3,rfl,ho3,hb3⟩
   obtain ⟨a3,c3,rfl⟩:=ho3.slice
   have k1:=cell_keep hb3 (alloc_keep b1 _)
   have k0:=cell_keep hb3 (alloc_keep b0 _)
   have kf0:=(hb3.frozen (p:=⟨w.heap.size,0,none⟩) (by simp;omega)).trans ((hB4.frozen (p:=⟨w.heap.size,0,none⟩) (by simp;omega)).trans bf0)
   have kf1:=(hb3.frozen (p:=⟨w.heap.size+1,0,none⟩) (by simp;omega)).trans ((hB4.frozen (p:=⟨w.heap.size+1,0,none⟩) (by simp;omega)).trans bf1)
   have kz:=cell_lt k1
   have hb03:=(HST.out.bel.trans (hB4.mono HST.out.bel.size)).trans (hb3.mono (by simp;omega))
   simp only [World.size_alloc] at ho3
   have hst3:ChSt k (.slice a0 n0.length q0) n0 L w (w3.setCell ⟨w.heap.size+1,0,none⟩ (.slice a3 zs.length c3)) (i+1) (.slice a3 zs.length c3):=by
    have ho4:NdsOwn (w3.setCell ⟨w.heap.size+1,0,none⟩ (.slice a3 zs.length c3)) (w.heap.size+2) (.slice a3 zs.length c3) zs:=NdsOwn.mono (by omega) (NdsOwn.setLow ho3 (by show w.heap.size+1<wr.heap.size+1;omega) _)
    refine ⟨hb03.setCell (by simp) _,by simp [setCell_size];omega,?_,World.cell?_setCell_same _ _ _ k1,by simp [kf0],by simp [kf1],by rw [HZZ.out];exact ho4.at,.inr (by rw [HZZ.out];exact ho4)⟩
    rw [World.cell?_setCell_other _ ⟨w.heap.size+1,0,none⟩ ⟨w.heap.size,0,none⟩ _ (by simp)]
    exact k0
   go_wp2
   go_roundw
   case rel=>exact ⟨i+1,_,by omega,by go_num,hst3⟩
   case measure=>simp [intOf];omega
  ·obtain rfl:i=L.length:=by omega
   have j1:¬ (L.length:Int)<(L.length:Int):=by omega
   have hne:=H1.out
   have hlen:0<L.length:=List.length_pos_iff.2 hne
   have hown:=hst.own.resolve_left (by omega)
   rw [List.take_length] at hown
   obtain ⟨b0,b1,bf0,bz⟩:=And.intro hst.c0 (And.intro hst.c1 (And.intro hst.f0 hst.sz))
   have hbel:=hst.bel
   obtain ⟨N,hN⟩:∃ N,chainN k n0 (L.map Prod.snd)=N:=⟨_,rfl⟩
   rw [hN] at hown
   have HN:=Lib.hid hN
   obtain ⟨av,cv,rfl⟩:=hown.slice
   clear hN hne hlen hst
   go_wp2
   have r0:(wr.setCell ⟨w.heap.size,0,none⟩ (.slice av N.length cv)).cell? ⟨w.heap.size,0,none⟩=some (.slice av N.length cv):=World.cell?_setCell_same _ _ _ b0
   refine bodyPost_ret (v:=.agg #[.slice av N.length cv]) (by simp [results,Tryz.results163,go_sem,r0]) rfl ⟨_,rfl,?_,hbel.setCell (by simp) _⟩
   rw [HN.out]
   exact NdsOwn.mono (by omega) (NdsOwn.setLow hown (by show w.heap.size<w.heap.size+2;omega) _)
theorem axSeq_any (g m:Nat) (v0:Value) (n0:List Nd) (L:List (Value × List Nd)) (w:World) (hL:TmsAt w g ((v0,n0) :: L)) (hm:L.length+1=m) (h1:¬ L=[]) (hm9:L.length≤9) (hz:n0.length≤1000) (hzs:∀ x ∈ L,x.2.length≤1000) :
  Calls Tryz.prog 85 #[.slice (some ⟨g,0,none⟩) m m] w (TmcP (chainN 15 n0 (L.map Prod.snd)) w):=by
 have hch:=fun w' h=>tmChain_any 15 g m v0 n0 L w' h hm h1 hm9 hz hzs
 obtain ⟨N,hN⟩:∃ N,chainN 15 n0 (L.map Prod.snd)=N:=⟨_,rfl⟩
 rw [hN] at hch ⊢
 have HC:=Lib.hid hch
 clear hch hN hm h1 hm9 hz hzs
 go_enter Tryz.func85,Tryz.ntmps85
 go_wp2_with fail
 refine (HC.out _ (hL.keep (alloc_below _ _))).mono ?_
 rintro e w2 ⟨v2,rfl,ho2,hb2⟩
 obtain ⟨a2,c2,rfl⟩:=ho2.slice
 have q2:=hb2.cell (p:=⟨w.heap.size,0,none⟩) (by simp)
 have q3:=hb2.frozen (p:=⟨w.heap.size,0,none⟩) (by simp)
 simp [go_sem] at q2 q3
 have qz:=cell_lt q2
 go_wp2
 have hz7:(w2.setCell { block:=w.heap.size,off:=0 } (.slice a2 N.length c2)).cell? ⟨w.heap.size,0,none⟩=some (.slice a2 N.length c2):=by go_simp
 refine bodyPost_ret (v:=.agg #[.slice a2 N.length c2]) (by simp [results,Tryz.results85,go_sem,hz7]) rfl ⟨_,rfl,?_,?_⟩
 ·exact NdsOwn.mono (B:=w.heap.size+1) (by omega) (NdsOwn.setLow (by simpa using ho2) (by show _<_;simp) _)
 ·exact ((alloc_below _ _).trans (hb2.mono (by simp))).setCell (by simp) _
theorem axPar_any (g m:Nat) (v0:Value) (n0:List Nd) (L:List (Value × List Nd)) (w:World) (hL:TmsAt w g ((v0,n0) :: L)) (hm:L.length+1=m) (h1:¬ L=[]) (hm9:L.length≤9) (hz:n0.length≤1000) (hzs:∀ x ∈ L,x.2.length≤1000) :
  Calls Tryz.prog 86 #[.slice (some ⟨g,0,none⟩) m m] w (TmcP (chainN 16 n0 (L.map Prod.snd)) w):=by
 have hch:=fun w' h=>tmChain_any 16 g m v0 n0 L w' h hm h1 hm9 hz hzs
 obtain ⟨N,hN⟩:∃ N,chainN 16 n0 (L.map Prod.snd)=N:=⟨_,rfl⟩
 rw [hN] at hch ⊢
 have HC:=Lib.hid hch
 clear hch hN hm h1 hm9 hz hzs
 go_enter Tryz.func86,Tryz.ntmps86
 go_wp2_with fail
 refine (HC.out _ (hL.keep (alloc_below _ _))).mono ?_
 rintro e w2 ⟨v2,rfl,ho2,hb2⟩
 obtain ⟨a2,c2,rfl⟩:=ho2.slice
 have q2:=hb2.cell (p:=⟨w.heap.size,0,none⟩) (by simp)
 have q3:=hb2.frozen (p:=⟨w.heap.size,0,none⟩) (by simp)
 simp [go_sem] at q2 q3
 have qz:=cell_lt q2
 go_wp2
 have hz7:(w2.setCell { block:=w.heap.size,off:=0 } (.slice a2 N.length c2)).cell? ⟨w.heap.size,0,none⟩=some (.slice a2 N.length c2):=by go_simp
 refine bodyPost_ret (v:=.agg #[.slice a2 N.length c2]) (by simp [results,Tryz.results86,go_sem,hz7]) rfl ⟨_,rfl,?_,?_⟩
 ·exact NdsOwn.mono (B:=w.heap.size+1) (by omega) (NdsOwn.setLow (by simpa using ho2) (by show _<_;simp) _)
 ·exact ((alloc_below _ _).trans (hb2.mono (by simp))).setCell (by simp) _
theorem axRule_any (nm:ByteArray) (a1:Option Addr) (n1 c1:Nat) (a2:Option Addr) (n2 c2:Nat) (w:World) :
  Calls Tryz.prog 38 #[.string nm,.agg #[.slice a1 n1 c1],.agg #[.slice a2 n2 c2]] w fun e w'=>e=.returned (.agg #[.string nm,.slice a1 n1 c1,.slice a2 n2 c2])∧Below w.heap.size w w':=by
 go_enter Tryz.func38,Tryz.ntmps38
 go_wp2
 refine bodyPost_ret (v:=.agg #[.string nm,.slice a1 n1 c1,.slice a2 n2 c2]) (by simp [results,Tryz.results38,go_sem]) rfl ⟨rfl,?_⟩
 exact (((Below.refl _ _).alloc (Nat.le_refl _) _).alloc (by simp) _).alloc (by simp;omega) _
end Go.Proofs.YtbljmfcifljkaaaGreatDoor
/-
  The reference's small functions: fdMul fdAdd fdTwo tmTop tmMirrorKind. Own work.
-/
namespace Go.Proofs.YtbljmfcifljkaaaGreatDoor
open Go.RowKit
set_option maxRecDepth 100000
set_option maxHeartbeats 4000000
theorem fdMul_any (p a b:Int) (w:World) (hp:2≤p) (hp2:p≤97) (h0:0≤a * b) (h1:a * b≤1000000):Calls Tryz.prog 156 #[.int .i64 p,.int .i64 a,.int .i64 b] w fun e w'=>e=.returned (.int .i64 ((a * b) % p))∧w=w':=by
 have e0:IntKind.i64.wrap (a * b)=a * b:=IntWalk.i64_in _ (by omega)
 have e1:(a * b).tmod p=(a * b) % p:=Int.tmod_eq_emod_of_nonneg h0
 have e2:0≤(a * b) % p:=Int.emod_nonneg _ (by omega)
 have e3:(a * b) % p<p:=Int.emod_lt_of_pos _ (by omega)
 have e4:IntKind.i64.wrap ((a * b) % p)=(a * b) % p:=IntWalk.i64_in _ (by omega)
 have e6:¬ p=0:=by omega
 go_enter Tryz.func156,Tryz.ntmps156
 go_wp2
 go_ret
 exact ⟨rfl,rfl⟩
theorem fdAdd_any (p a b:Int) (w:World) (hp:2≤p) (hp2:p≤97) (h0:0≤a+b) (h1:a+b≤1000000):Calls Tryz.prog 157 #[.int .i64 p,.int .i64 a,.int .i64 b] w fun e w'=>e=.returned (.int .i64 ((a+b) % p))∧w=w':=by
 have e0:IntKind.i64.wrap (a+b)=a+b:=IntWalk.i64_in _ (by omega)
 have e1:(a+b).tmod p=(a+b) % p:=Int.tmod_eq_emod_of_nonneg h0
 have e2:0≤(a+b) % p:=Int.emod_nonneg _ (by omega)
 have e3:(a+b) % p<p:=Int.emod_lt_of_pos _ (by omega)
 have e4:IntKind.i64.wrap ((a+b) % p)=(a+b) % p:=IntWalk.i64_in _ (by omega)
 have e6:¬ p=0:=by omega
 go_enter Tryz.func157,Tryz.ntmps157
 go_wp2
 go_ret
 exact ⟨rfl,rfl⟩
def twoB (p k l:Int):Bool:=primeB p && (inB k 0 (p - 1) && inB l 0 (p - 1))
theorem fdTwo_any (p k l:Int) (w:World):Calls Tryz.prog 36 #[.int .i64 p,.int .i64 k,.int .i64 l] w fun e w'=>e=.returned (.bool (twoB p k l))∧Below w.heap.size w w':=by
 cases hpb:primeB p with
 | false =>
  have HR:=Lib.hid (show twoB p k l=false by unfold twoB;rw [hpb];rfl)
  have HP:=Lib.hid hpb
  clear hpb
  go_enter Tryz.func36,Tryz.ntmps36
  go_wp2_with (go_at_call 79;refine (fdGood_any p _).mono ?_;rintro e w1 ⟨rfl,hb1⟩;rw [HP.out])
  go_ret
  exact ⟨by rw [HR.out];rfl,hb1⟩
 | true =>
  have hp:=primeB_le hpb
  have e1:IntKind.i64.wrap (p - 1)=p - 1:=IntWalk.i64_in _ (by omega)
  have HP:=Lib.hid hpb
  cases hk:inB k 0 (p - 1) with
  | false =>
   have HR:=Lib.hid (show twoB p k l=false by unfold twoB;rw [hpb,hk];rfl)
   have HK:=Lib.hid hk
   clear hpb hk
   go_enter Tryz.func36,Tryz.ntmps36
   go_wp2_with (first
    | (go_at_call 79;refine (fdGood_any p _).mono ?_;rintro e w1 ⟨rfl,hb1⟩;rw [HP.out])
    | (go_at_call 80;refine (l1In_any _ _ _ _).mono ?_;rintro e w2 ⟨rfl,rfl⟩;rw [HK.out]))
   go_ret
   exact ⟨by rw [HR.out];rfl,hb1⟩
  | true =>
   have HR:=Lib.hid (show twoB p k l=inB l 0 (p - 1) by unfold twoB;rw [hpb,hk];rfl)
   have HK:=Lib.hid hk
   obtain ⟨b,hb⟩:∃ b,inB l 0 (p - 1)=b:=⟨_,rfl⟩
   have HB:=Lib.hid hb
   clear hpb hk hb
   go_enter Tryz.func36,Tryz.ntmps36
   go_wp2_with (first
    | (go_at_call 79;refine (fdGood_any p _).mono ?_;rintro e w1 ⟨rfl,hb1⟩;rw [HP.out])
    | (go_at_call 80;refine (l1In_any _ _ _ _).mono ?_;rintro e w2 ⟨rfl,rfl⟩;first|rw [HK.out]|rw [HB.out]))
   go_ret
   exact ⟨by rw [HR.out,HB.out];rfl,hb1⟩
theorem tmMirrorKind_any (k:Int) (w:World):Calls Tryz.prog 159 #[.int .i64 k] w fun e w'=>e=.returned (.int .i64 (mirK k))∧w=w':=by
 by_cases h1:3≤k∧k≤8
 ·have g1:inB k 3 8=true:=by simp [inB];omega
  have e1:IntKind.i64.wrap (k+6)=k+6:=IntWalk.i64_in _ (by omega)
  have HR:=Lib.hid (show mirK k=k+6 by unfold mirK;rw [if_pos h1])
  clear h1
  go_enter Tryz.func159,Tryz.ntmps159
  go_wp2_with (go_at_call 80;refine (l1In_any _ _ _ _).mono ?_;rintro e w1 ⟨rfl,rfl⟩)
  go_ret
  exact ⟨by rw [HR.out];rfl,rfl⟩
 ·by_cases h2:9≤k∧k≤14
  ·have g1:inB k 3 8=false:=by simp [inB];omega
   have g2:inB k 9 14=true:=by simp [inB];omega
   have e1:IntKind.i64.wrap (k - 6)=k - 6:=IntWalk.i64_in _ (by omega)
   have HR:=Lib.hid (show mirK k=k - 6 by unfold mirK;rw [if_neg h1,if_pos h2])
   clear h1 h2
   go_enter Tryz.func159,Tryz.ntmps159
   go_wp2_with (go_at_call 80;refine (l1In_any _ _ _ _).mono ?_;rintro e w1 ⟨rfl,rfl⟩)
   go_ret
   exact ⟨by rw [HR.out];rfl,rfl⟩
  ·have g1:inB k 3 8=false:=by simp [inB];omega
   have g2:inB k 9 14=false:=by simp [inB];omega
   have HR:=Lib.hid (show mirK k=k by unfold mirK;rw [if_neg h1,if_neg h2])
   clear h1 h2
   go_enter Tryz.func159,Tryz.ntmps159
   go_wp2_with (go_at_call 80;refine (l1In_any _ _ _ _).mono ?_;rintro e w1 ⟨rfl,rfl⟩)
   go_ret
   exact ⟨by rw [HR.out];rfl,rfl⟩
theorem tmTop_any (v:Value) (ns:List Nd) (n:Nd) (w:World) (hv:NdsAt w v (ns ++ [n])) (hl:ns.length≤100000):Calls Tryz.prog 158 #[.agg #[v]] w fun e w'=>e=.returned (.int .i64 n.kind)∧Below w.heap.size w w':=by
 obtain ⟨a,cap,rfl,hc,hat⟩:=hv
 have hln:(ns ++ [n]).length=ns.length+1:=by simp
 obtain ⟨b,o,rfl,hlt,n0,n1,n2⟩:=hat ns.length (by rw [hln];omega)
 have e9:(ns ++ [n])[ns.length]'hlt=n:=by simp
 rw [e9] at n0
 rw [hln]
 have e1:IntKind.i64.wrap ((ns.length:Int)+1 - 1)=(ns.length:Int):=by rw [show (ns.length:Int)+1 - 1=(ns.length:Int) by omega];exact IntWalk.i64_in _ (by omega)
 have hz:=cell_lt n0
 clear hat hln e9 hc n1 n2 hlt
 go_enter Tryz.func158,Tryz.ntmps158
 go_wp2
 go_ret
 exact ⟨rfl,alloc_below _ _⟩
end Go.Proofs.YtbljmfcifljkaaaGreatDoor
