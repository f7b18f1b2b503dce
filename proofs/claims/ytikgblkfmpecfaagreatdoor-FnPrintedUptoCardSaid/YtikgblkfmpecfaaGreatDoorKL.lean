/-
  lbType, lbGood and lbIf of the reference. Own work.
-/
import Derived.Test.YtikgblkfmpecfaaGreatDoorKS
import Derived.Test.YtikgblkfmpecfaaGreatDoorKG
set_option linter.all false
set_option maxRecDepth 100000
set_option maxHeartbeats 8000000
namespace Go.Proofs.YtikgblkfmpecfaaGreatDoor
open Go.RowKit
theorem lbType_any (v vb:Value) (L:List Df) (ns:List Nd) (w:World) (hv:DfsAt w v L) (hn:L.length≤1048576) (hsm:∀ d ∈ L,Sm (d.inn,d.out)) (hvb:NdsAt w vb ns) (hok:NdsOk ns) :
  Calls Tryz.prog 75 #[v,.agg #[vb]] w fun e w'=>e=.returned (.tuple #[.int .i64 ((typedL (leafIn L) ns).getD (0,0)).1,.int .i64 ((typedL (leafIn L) ns).getD (0,0)).2,.bool (typedL (leafIn L) ns).isSome])∧Below w.heap.size w w':=by
 obtain ⟨a,cap,rfl⟩:∃ a cap,v=.slice a L.length cap:=by obtain ⟨a,cap,rfl,_⟩:=hv;exact ⟨a,cap,rfl⟩
 obtain ⟨ab,cb,rfl⟩:=hvb.slice
 cases ht:typedL (leafIn L) ns with
 | none =>
  have HT:=Lib.hid ht
  clear ht
  go_enter Tryz.func75,Tryz.ntmps75
  go_wp2_with (go_at_call 87;refine (lbScan_any _ L _ ns _ (hv.keep (alloc_below _ _)) hn hsm (hvb.keep (alloc_below _ _)) hok).mono ?_;rintro r w2 ⟨a0,n0,c0,a1,n1,c1,a2,n2,c2,rfl,hb2,_⟩;rw [HT.out])
  go_ret3
  exact ⟨rfl,((alloc_below _ _).trans (hb2.mono (by simp))).alloc (by have:=hb2.size;simp at this;omega) _⟩
 | some t =>
  have HT:=Lib.hid ht
  have hlen:=typedL_len ht
  have hl1:1≤ns.length:=by unfold typedL at ht;split at ht;omega;cases ht
  clear ht
  go_enter Tryz.func75,Tryz.ntmps75
  go_wp2_with (go_at_call 87;refine (lbScan_any _ L _ ns _ (hv.keep (alloc_below _ _)) hn hsm (hvb.keep (alloc_below _ _)) hok).mono ?_;rintro r w2 ⟨a0,n0,c0,a1,n1,c1,a2,n2,c2,rfl,hb2,hX⟩;rw [HT.out];obtain ⟨X,hXl,hXt,r0,r1,r2⟩:=hX t HT.out;obtain ⟨g1,p1,he1,_⟩:=owns_some r1 (by simp;omega);obtain ⟨g2,p2,he2,_⟩:=owns_some r2 (by simp;omega);simp only [Value.slice.injEq,List.length_map] at he1 he2;obtain ⟨rfl,rfl,rfl⟩:=he1;obtain ⟨rfl,rfl,rfl⟩:=he2;rw [hXl];obtain ⟨hc2,hf2,hs2⟩:=bcell hb2;have x0:w2.cell? ⟨w.heap.size,0,none⟩=some (.slice ab ns.length cb):=(hc2 _ _ (by simp)).trans (by simp);have hz2:w.heap.size<w2.heap.size:=(by simp at hs2;omega);clear hc2 hf2 hs2)
  obtain ⟨q1,e1⟩:=getE hXt (fun p:Nat × W2=>p.2.1)
  obtain ⟨q2,e2⟩:=getE hXt (fun p:Nat × W2=>p.2.2)
  have f1:=r1.cell _ q1
  have f2:=r2.cell _ q2
  rw [e1] at f1
  rw [e2] at f2
  have z1:=cell_lt f1
  have z2:=cell_lt f2
  have gi1:(1:Int)≤ns.length:=by omega
  have gi2:(ns.length:Int) - 1<ns.length:=by omega
  have et1:((ns.length:Int) - 1).toNat=ns.length - 1:=by omega
  clear e1 e2 q1 q2 r0 r1 r2 hXt hX
  go_wp2_with fail
  refine region_acts (C:=Exc (NoT) _) 2 [0,1,2,3,4,5,6,7,8,9,10,11,12] (by kernel_rfl) (by kernel_rfl) (Exc.grows _ _) (Exc.refl _ _) ?_
  iterate 13 (apply x_st rfl rfl rfl;(focus intro u hc' hf';go_simp <;> rfl);intro K hK;go_simp;apply hK;clear hK K)
  refine x_nil ?_
  go_wp2
  go_ret3
  exact ⟨rfl,(((alloc_below _ _).trans (hb2.mono (by simp))).alloc (by omega) _).drew⟩
theorem lbType_none (v vb:Value) (L:List Df) (ns:List Nd) (w:World) (hv:DfsAt w v L) (hn:L.length≤1048576) (hsm:∀ d ∈ L,Sm (d.inn,d.out)) (hvb:NdsAt w vb ns) (hok:NdsOk ns) (h:typedL (leafIn L) ns=none) :
  Calls Tryz.prog 75 #[v,.agg #[vb]] w fun e w'=>e=.returned (.tuple #[.int .i64 0,.int .i64 0,.bool false])∧Below w.heap.size w w' :=
 (lbType_any v vb L ns w hv hn hsm hvb hok).mono fun e w' hh=>by rw [h] at hh;exact hh
theorem lbType_some (v vb:Value) (L:List Df) (ns:List Nd) (t:W2) (w:World) (hv:DfsAt w v L) (hn:L.length≤1048576) (hsm:∀ d ∈ L,Sm (d.inn,d.out)) (hvb:NdsAt w vb ns) (hok:NdsOk ns) (h:typedL (leafIn L) ns=some t) :
  Calls Tryz.prog 75 #[v,.agg #[vb]] w fun e w'=>e=.returned (.tuple #[.int .i64 t.1,.int .i64 t.2,.bool true])∧Below w.heap.size w w' :=
 (lbType_any v vb L ns w hv hn hsm hvb hok).mono fun e w' hh=>by rw [h] at hh;exact hh
end Go.Proofs.YtikgblkfmpecfaaGreatDoor
/-
  lbGood and lbIf of the reference. Own work.
-/
namespace Go.Proofs.YtikgblkfmpecfaaGreatDoor
open Go.RowKit
theorem lbGood_any (v:Value) (L:List Df) (w:World) (hv:DfsAt w v L) (hn:L.length≤1048576) (hs:∀ d ∈ L,DfOk d) :
  Calls Tryz.prog 51 #[v] w fun e w'=>e=.returned (.bool (good L))∧Below w.heap.size w w':=by
 have hv0:=hv
 obtain ⟨a,cap,rfl,hc,hat⟩:=hv
 by_cases hl:L.length≤12
 ·go_enter Tryz.func51,Tryz.ntmps51
  go_wp2
  go_loopw [13] (fun i wr=>∃ k:Nat,k≤L.length∧i=.int .i64 k∧Hid (goodGo [] (L.take k)=true)∧Hid (good L=goodGo (L.take k) (L.drop k))∧Below w.heap.size w wr) (fun i _=>L.length - (intOf i).toNat)
  case atStart=>exact ⟨0,by omega,rfl,(by simp [Hid,goodGo]:Hid (goodGo [] (L.take 0)=true)),(by simp [Hid,good,hl]:Hid (good L=goodGo (L.take 0) (L.drop 0))),Below.refl _ _⟩
  case round =>
   obtain ⟨k,hk,rfl,HG,HF,hbel⟩:=hrel
   by_cases hlt:k<L.length
   ·have hvk:=dfs_take (hv0.keep hbel) k hk
    obtain ⟨b,o,rfl,_,hnd⟩:=hat k hlt
    obtain ⟨c0,c1,c2,vb,c3,hvb⟩:=hnd.keep hbel
    obtain ⟨va,vc,rfl⟩:=hvb.slice
    have hsz:=hbel.size
    have hok:=hs L[k] (List.getElem_mem _)
    have hnmk:=hok.1
    have hsm:=good_sm HG.out
    have htl:(L.take k).length≤1048576:=by rw [List.length_take];omega
    have hkc:k≤cap:=by omega
    have hag:goodAt (L.take k) L[k]=(decide (typedL (leafIn (L.take k)) L[k].body=some (L[k].inn,L[k].out)) && nameB L[k].name && (findD (L.take k) L[k].name).isNone):=rfl
    have hgo:good L=(goodAt (L.take k) L[k] && goodGo (L.take (k+1)) (L.drop (k+1))):=by
     rw [HF.out,List.drop_eq_getElem_cons hlt,goodGo,List.take_succ_eq_append_getElem hlt]
    have hgg:goodGo [] (L.take (k+1))=goodAt (L.take k) L[k]:=by
     rw [List.take_succ_eq_append_getElem hlt,goodGo_append,HG.out];simp [goodGo]
    have hba:Below wr.heap.size wr (wr.alloc (.cells #[.string L[k].name,.int .i64 L[k].inn,.int .i64 L[k].out,.slice va L[k].body.length vc] 101)):=alloc_below _ _
    have up:∀ {w':World},Exc NoT ((wr.alloc (.cells #[.string L[k].name,.int .i64 L[k].inn,.int .i64 L[k].out,.slice va L[k].body.length vc] 101)).drew) w' → Below wr.heap.size wr w':=fun h=>hba.trans ((Below.refl wr.heap.size _).drew.trans (h.toBelow.mono (by simp)))
    clear hat hnd hs
    cases hnb:nameB L[k].name
    ·have HT:Hid (good L=false):=(show good L=false by rw [hgo,hag,hnb];simp)
     have HN:=Lib.hid hnb
     clear hag hgo hgg hnb
     go_wp2_with fail
     refine region_acts (C:=Exc (NoT) _) 2 [0,1,2,3,4,5,6,7,8,9,10,11,12] (by kernel_rfl) (by kernel_rfl) (Exc.grows _ _) (Exc.refl _ _) ?_
     iterate 2 (apply x_st rfl rfl rfl;(focus intro u hc' hf';go_simp <;> rfl);intro K hK;go_simp;apply hK;clear hK K)
     refine x_call rfl rfl rfl (Exc.grows _ _) (Exc.refl _ _) 95 (fun K hK=>?_);apply Exists.intro;refine ⟨fun w' hw'=>?_,fun wa hwa hbwa=>?_⟩;(focus go_simp;rfl);refine (lbName_any L[k].name _ hnmk).mono ?_;rintro e w8 ⟨rfl,hb8⟩;refine ⟨_,rfl,hb8,fun hx=>?_⟩;go_simp;apply hK;clear hK K
     rw [HN.out]
     iterate 2 (apply x_st rfl rfl rfl;(focus intro u hc' hf';go_simp <;> rfl);intro K hK;go_simp;apply hK;clear hK K)
     iterate 7 (refine x_skip rfl fun K hK=>⟨by first|rfl|(simp [Region.wanted,yielded,go_sem]),?_⟩;go_simp;apply hK;clear hK K)
     iterate 1 (apply x_st rfl rfl rfl;(focus intro u hc' hf';go_simp <;> rfl);intro K hK;go_simp;apply hK;clear hK K)
     refine x_nil ?_
     go_wp2
     go_ret
     exact ⟨ret_bool HT.out.symm,hbel.trans ((up hx).mono hsz)⟩
    ·rw [hnb] at hag
     have HN:=Lib.hid hnb
     clear hnb
     rcases findFrom_cases L[k].name (L.take k) 0 with ⟨f1,f2⟩|⟨i,hi,f1,f2⟩
     ·rw [f2] at hag
      have HFF:=Lib.hid f1
      clear f1 f2
      cases hR:typedL (leafIn (L.take k)) L[k].body with
      | none =>
       have HT:Hid (good L=false):=(show good L=false by rw [hgo,hag,hR];simp)
       have HR:=Lib.hid hR
       clear hag hgo hgg hR
       go_wp2_with fail
       refine region_acts (C:=Exc (NoT) _) 2 [0,1,2,3,4,5,6,7,8,9,10,11,12] (by kernel_rfl) (by kernel_rfl) (Exc.grows _ _) (Exc.refl _ _) ?_
       iterate 2 (apply x_st rfl rfl rfl;(focus intro u hc' hf';go_simp <;> rfl);intro K hK;go_simp;apply hK;clear hK K)
       refine x_call rfl rfl rfl (Exc.grows _ _) (Exc.refl _ _) 95 (fun K hK=>?_);apply Exists.intro;refine ⟨fun w' hw'=>?_,fun wa hwa hbwa=>?_⟩;(focus go_simp;rfl);refine (lbName_any L[k].name _ hnmk).mono ?_;rintro e w8 ⟨rfl,hb8⟩;refine ⟨_,rfl,hb8,fun hx=>?_⟩;go_simp;apply hK;clear hK K
       rw [HN.out]
       iterate 2 (apply x_st rfl rfl rfl;(focus intro u hc' hf';go_simp <;> rfl);intro K hK;go_simp;apply hK;clear hK K)
       iterate 5 (apply x_sg rfl rfl (by first|rfl|(simp [Region.wanted,yielded,go_sem]));(focus intro u hc' hf';go_simp <;> rfl);intro K hK;go_simp;apply hK;clear hK K)
       refine x_callg rfl rfl (Exc.grows _ _) (hx) 96 (fun K hK=>?_);refine ⟨by first|rfl|(simp [Region.wanted,yielded,go_sem]),?_⟩;apply Exists.intro;refine ⟨fun w' hw'=>?_,fun w' hw' hbw=>?_⟩;(focus go_simp;rfl);refine (lbFind_any _ (L.take k) _ _ (hvk.keep (up hw')) htl).mono ?_;rintro e w9 ⟨rfl,hb9⟩;refine ⟨_,rfl,hb9,fun hx=>?_⟩;go_simp;apply hK;clear hK K
       rw [HFF.out]
       iterate 1 (apply x_sg rfl rfl (by first|rfl|(simp [Region.wanted,yielded,go_sem]));(focus intro u hc' hf';go_simp <;> rfl);intro K hK;go_simp;apply hK;clear hK K)
       iterate 1 (apply x_st rfl rfl rfl;(focus intro u hc' hf';go_simp <;> rfl);intro K hK;go_simp;apply hK;clear hK K)
       refine x_nil ?_
       have hW:=up hx
       have hW1:Below (wr.heap.size+1) (wr.alloc (.cells #[.string L[k].name,.int .i64 L[k].inn,.int .i64 L[k].out,.slice va L[k].body.length vc] 101)) w9:=(Below.refl (wr.heap.size+1) _).drew.trans (hx.toBelow.mono (by simp))
       have e1:w9.cell? ⟨wr.heap.size,1,none⟩=some (.int .i64 L[k].inn):=by rw [hW1.cell (p:=⟨wr.heap.size,1,none⟩) (by simp)];go_simp
       have e2:w9.cell? ⟨wr.heap.size,2,none⟩=some (.int .i64 L[k].out):=by rw [hW1.cell (p:=⟨wr.heap.size,2,none⟩) (by simp)];go_simp
       have e3:w9.cell? ⟨wr.heap.size,3,none⟩=some (.slice va L[k].body.length vc):=by rw [hW1.cell (p:=⟨wr.heap.size,3,none⟩) (by simp)];go_simp
       have hz9:wr.heap.size<w9.heap.size:=by have:=hW1.size;simp at this;omega
       clear hW1 hx hb8 hb9 hwa hbwa hw' hbw
       go_wp2_with fail
       refine region_acts (C:=Exc (NoT) _) 2 [0,1,2,3,4,5,6,7,8,9,10,11,12] (by kernel_rfl) (by kernel_rfl) (Exc.grows _ _) (Exc.refl _ _) ?_
       iterate 5 (apply x_st rfl rfl rfl;(focus intro u hc' hf';go_simp <;> rfl);intro K hK;go_simp;apply hK;clear hK K)
       have up9:∀ {w':World},Exc NoT w9.drew w' → Below wr.heap.size wr w':=fun h=>hW.trans (((Below.refl w9.heap.size w9).drew.trans (h.toBelow.mono (by simp))).mono hW.size)
       refine x_call rfl rfl rfl (Exc.grows _ _) (Exc.refl _ _) 75 (fun K hK=>?_);apply Exists.intro;refine ⟨fun w' hw'=>?_,fun wb hwb hbwb=>?_⟩;(focus go_simp;rfl);refine (lbType_none _ _ (L.take k) L[k].body _ (hvk.keep (up9 hwb)) htl hsm (hvb.keep (up9 hwb)) hok.2 HR.out).mono ?_;rintro e w10 ⟨rfl,hb10⟩;refine ⟨_,rfl,hb10,fun hx=>?_⟩;go_simp;apply hK;clear hK K
       iterate 7 (apply x_st rfl rfl rfl;(focus intro u hc' hf';go_simp <;> rfl);intro K hK;go_simp;apply hK;clear hK K)
       refine x_nil ?_
       go_wp2
       go_ret
       exact ⟨ret_bool HT.out.symm,hbel.trans ((up9 hx).mono hsz)⟩
      | some t =>
       have HR:=Lib.hid hR
       by_cases p1:t.1=L[k].inn∧t.2=L[k].out
       ·have hdt:decide (typedL (leafIn (L.take k)) L[k].body=some (L[k].inn,L[k].out))=true:=by rw [hR];simp [← p1.1,← p1.2]
        rw [hdt] at hag
        have HG':Hid (goodGo [] (L.take (k+1))=true):=(show _ by rw [hgg,hag];rfl)
        have HF':Hid (good L=goodGo (L.take (k+1)) (L.drop (k+1))):=(show good L=_ by rw [hgo,hag];rfl)
        have b1:(t.1 != L[k].inn)=false:=by simp [p1.1]
        have b2:(t.2 != L[k].out)=false:=by simp [p1.2]
        clear hag hgo hgg hR hdt p1 HF HG
        go_wp2_with fail
        refine region_acts (C:=Exc (NoT) _) 2 [0,1,2,3,4,5,6,7,8,9,10,11,12] (by kernel_rfl) (by kernel_rfl) (Exc.grows _ _) (Exc.refl _ _) ?_
        iterate 2 (apply x_st rfl rfl rfl;(focus intro u hc' hf';go_simp <;> rfl);intro K hK;go_simp;apply hK;clear hK K)
        refine x_call rfl rfl rfl (Exc.grows _ _) (Exc.refl _ _) 95 (fun K hK=>?_);apply Exists.intro;refine ⟨fun w' hw'=>?_,fun wa hwa hbwa=>?_⟩;(focus go_simp;rfl);refine (lbName_any L[k].name _ hnmk).mono ?_;rintro e w8 ⟨rfl,hb8⟩;refine ⟨_,rfl,hb8,fun hx=>?_⟩;go_simp;apply hK;clear hK K
        rw [HN.out]
        iterate 2 (apply x_st rfl rfl rfl;(focus intro u hc' hf';go_simp <;> rfl);intro K hK;go_simp;apply hK;clear hK K)
        iterate 5 (apply x_sg rfl rfl (by first|rfl|(simp [Region.wanted,yielded,go_sem]));(focus intro u hc' hf';go_simp <;> rfl);intro K hK;go_simp;apply hK;clear hK K)
        refine x_callg rfl rfl (Exc.grows _ _) (hx) 96 (fun K hK=>?_);refine ⟨by first|rfl|(simp [Region.wanted,yielded,go_sem]),?_⟩;apply Exists.intro;refine ⟨fun w' hw'=>?_,fun w' hw' hbw=>?_⟩;(focus go_simp;rfl);refine (lbFind_any _ (L.take k) _ _ (hvk.keep (up hw')) htl).mono ?_;rintro e w9 ⟨rfl,hb9⟩;refine ⟨_,rfl,hb9,fun hx=>?_⟩;go_simp;apply hK;clear hK K
        rw [HFF.out]
        iterate 1 (apply x_sg rfl rfl (by first|rfl|(simp [Region.wanted,yielded,go_sem]));(focus intro u hc' hf';go_simp <;> rfl);intro K hK;go_simp;apply hK;clear hK K)
        iterate 1 (apply x_st rfl rfl rfl;(focus intro u hc' hf';go_simp <;> rfl);intro K hK;go_simp;apply hK;clear hK K)
        refine x_nil ?_
        have hW:=up hx
        have hW1:Below (wr.heap.size+1) (wr.alloc (.cells #[.string L[k].name,.int .i64 L[k].inn,.int .i64 L[k].out,.slice va L[k].body.length vc] 101)) w9:=(Below.refl (wr.heap.size+1) _).drew.trans (hx.toBelow.mono (by simp))
        have e1:w9.cell? ⟨wr.heap.size,1,none⟩=some (.int .i64 L[k].inn):=by rw [hW1.cell (p:=⟨wr.heap.size,1,none⟩) (by simp)];go_simp
        have e2:w9.cell? ⟨wr.heap.size,2,none⟩=some (.int .i64 L[k].out):=by rw [hW1.cell (p:=⟨wr.heap.size,2,none⟩) (by simp)];go_simp
        have e3:w9.cell? ⟨wr.heap.size,3,none⟩=some (.slice va L[k].body.length vc):=by rw [hW1.cell (p:=⟨wr.heap.size,3,none⟩) (by simp)];go_simp
        have hz9:wr.heap.size<w9.heap.size:=by have:=hW1.size;simp at this;omega
        clear hW1 hx hb8 hb9 hwa hbwa hw' hbw
        go_wp2_with fail
        refine region_acts (C:=Exc (NoT) _) 2 [0,1,2,3,4,5,6,7,8,9,10,11,12] (by kernel_rfl) (by kernel_rfl) (Exc.grows _ _) (Exc.refl _ _) ?_
        iterate 5 (apply x_st rfl rfl rfl;(focus intro u hc' hf';go_simp <;> rfl);intro K hK;go_simp;apply hK;clear hK K)
        have up9:∀ {w':World},Exc NoT w9.drew w' → Below wr.heap.size wr w':=fun h=>hW.trans (((Below.refl w9.heap.size w9).drew.trans (h.toBelow.mono (by simp))).mono hW.size)
        refine x_call rfl rfl rfl (Exc.grows _ _) (Exc.refl _ _) 75 (fun K hK=>?_);apply Exists.intro;refine ⟨fun w' hw'=>?_,fun wb hwb hbwb=>?_⟩;(focus go_simp;rfl);refine (lbType_some _ _ (L.take k) L[k].body t _ (hvk.keep (up9 hwb)) htl hsm (hvb.keep (up9 hwb)) hok.2 HR.out).mono ?_;rintro e w10 ⟨rfl,hb10⟩;refine ⟨_,rfl,hb10,fun hx=>?_⟩;go_simp;apply hK;clear hK K
        iterate 7 (apply x_st rfl rfl rfl;(focus intro u hc' hf';go_simp <;> rfl);intro K hK;go_simp;apply hK;clear hK K)
        refine x_nil ?_
        have hv10:Below w9.heap.size w9 w10:=(Below.refl w9.heap.size w9).drew.trans (hx.toBelow.mono (by simp))
        have g1:=cell_keep hv10 e1
        have g2:=cell_keep hv10 e2
        clear hb10 hwb hbwb
        go_wp2
        go_roundw
        case rel=>exact ⟨k+1,by omega,by go_num,HG',HF',hbel.trans ((up9 hx).mono hsz)⟩
        case measure=>simp [intOf];omega
       ·have HT:Hid (good L=false):=(show good L=false by
         rw [hgo,hag,hR]
         have:¬ (some t=some (L[k].inn,L[k].out)):=fun e=>p1 (by have:=Option.some.inj e;rw [this];simp)
         simp [this])
        have p3:(t.1 != L[k].inn)=true∨((t.1 != L[k].inn)=false∧(t.2 != L[k].out)=true):=by
         by_cases h:t.1=L[k].inn
         ·exact .inr ⟨by simp [h],by simpa using fun h'=>p1 ⟨h,h'⟩⟩
         ·exact .inl (by simpa using h)
        clear hag hgo hgg hR p1
        rcases p3 with b1|⟨b1,b2⟩
        all_goals
         go_wp2_with fail
         refine region_acts (C:=Exc (NoT) _) 2 [0,1,2,3,4,5,6,7,8,9,10,11,12] (by kernel_rfl) (by kernel_rfl) (Exc.grows _ _) (Exc.refl _ _) ?_
         iterate 2 (apply x_st rfl rfl rfl;(focus intro u hc' hf';go_simp <;> rfl);intro K hK;go_simp;apply hK;clear hK K)
         refine x_call rfl rfl rfl (Exc.grows _ _) (Exc.refl _ _) 95 (fun K hK=>?_);apply Exists.intro;refine ⟨fun w' hw'=>?_,fun wa hwa hbwa=>?_⟩;(focus go_simp;rfl);refine (lbName_any L[k].name _ hnmk).mono ?_;rintro e w8 ⟨rfl,hb8⟩;refine ⟨_,rfl,hb8,fun hx=>?_⟩;go_simp;apply hK;clear hK K
         rw [HN.out]
         iterate 2 (apply x_st rfl rfl rfl;(focus intro u hc' hf';go_simp <;> rfl);intro K hK;go_simp;apply hK;clear hK K)
         iterate 5 (apply x_sg rfl rfl (by first|rfl|(simp [Region.wanted,yielded,go_sem]));(focus intro u hc' hf';go_simp <;> rfl);intro K hK;go_simp;apply hK;clear hK K)
         refine x_callg rfl rfl (Exc.grows _ _) (hx) 96 (fun K hK=>?_);refine ⟨by first|rfl|(simp [Region.wanted,yielded,go_sem]),?_⟩;apply Exists.intro;refine ⟨fun w' hw'=>?_,fun w' hw' hbw=>?_⟩;(focus go_simp;rfl);refine (lbFind_any _ (L.take k) _ _ (hvk.keep (up hw')) htl).mono ?_;rintro e w9 ⟨rfl,hb9⟩;refine ⟨_,rfl,hb9,fun hx=>?_⟩;go_simp;apply hK;clear hK K
         rw [HFF.out]
         iterate 1 (apply x_sg rfl rfl (by first|rfl|(simp [Region.wanted,yielded,go_sem]));(focus intro u hc' hf';go_simp <;> rfl);intro K hK;go_simp;apply hK;clear hK K)
         iterate 1 (apply x_st rfl rfl rfl;(focus intro u hc' hf';go_simp <;> rfl);intro K hK;go_simp;apply hK;clear hK K)
         refine x_nil ?_
         have hW:=up hx
         have hW1:Below (wr.heap.size+1) (wr.alloc (.cells #[.string L[k].name,.int .i64 L[k].inn,.int .i64 L[k].out,.slice va L[k].body.length vc] 101)) w9:=(Below.refl (wr.heap.size+1) _).drew.trans (hx.toBelow.mono (by simp))
         have e1:w9.cell? ⟨wr.heap.size,1,none⟩=some (.int .i64 L[k].inn):=by rw [hW1.cell (p:=⟨wr.heap.size,1,none⟩) (by simp)];go_simp
         have e2:w9.cell? ⟨wr.heap.size,2,none⟩=some (.int .i64 L[k].out):=by rw [hW1.cell (p:=⟨wr.heap.size,2,none⟩) (by simp)];go_simp
         have e3:w9.cell? ⟨wr.heap.size,3,none⟩=some (.slice va L[k].body.length vc):=by rw [hW1.cell (p:=⟨wr.heap.size,3,none⟩) (by simp)];go_simp
         have hz9:wr.heap.size<w9.heap.size:=by have:=hW1.size;simp at this;omega
         clear hW1 hx hb8 hb9 hwa hbwa hw' hbw
         go_wp2_with fail
         refine region_acts (C:=Exc (NoT) _) 2 [0,1,2,3,4,5,6,7,8,9,10,11,12] (by kernel_rfl) (by kernel_rfl) (Exc.grows _ _) (Exc.refl _ _) ?_
         iterate 5 (apply x_st rfl rfl rfl;(focus intro u hc' hf';go_simp <;> rfl);intro K hK;go_simp;apply hK;clear hK K)
         have up9:∀ {w':World},Exc NoT w9.drew w' → Below wr.heap.size wr w':=fun h=>hW.trans (((Below.refl w9.heap.size w9).drew.trans (h.toBelow.mono (by simp))).mono hW.size)
         refine x_call rfl rfl rfl (Exc.grows _ _) (Exc.refl _ _) 75 (fun K hK=>?_);apply Exists.intro;refine ⟨fun w' hw'=>?_,fun wb hwb hbwb=>?_⟩;(focus go_simp;rfl);refine (lbType_some _ _ (L.take k) L[k].body t _ (hvk.keep (up9 hwb)) htl hsm (hvb.keep (up9 hwb)) hok.2 HR.out).mono ?_;rintro e w10 ⟨rfl,hb10⟩;refine ⟨_,rfl,hb10,fun hx=>?_⟩;go_simp;apply hK;clear hK K
         iterate 7 (apply x_st rfl rfl rfl;(focus intro u hc' hf';go_simp <;> rfl);intro K hK;go_simp;apply hK;clear hK K)
         refine x_nil ?_
         have hv10:Below w9.heap.size w9 w10:=(Below.refl w9.heap.size w9).drew.trans (hx.toBelow.mono (by simp))
         have g1:=cell_keep hv10 e1
         have g2:=cell_keep hv10 e2
         clear hb10 hwb hbwb
         go_wp2
         go_ret
         exact ⟨ret_bool HT.out.symm,hbel.trans ((up9 hx).mono hsz)⟩
     ·rw [f2] at hag
      have HT:Hid (good L=false):=(show good L=false by rw [hgo,hag];simp)
      rw [Nat.zero_add] at f1
      have HFF:=Lib.hid f1
      have gi:(0:Int)≤i:=by omega
      clear hag hgo hgg f1 f2
      go_wp2_with fail
      refine region_acts (C:=Exc (NoT) _) 2 [0,1,2,3,4,5,6,7,8,9,10,11,12] (by kernel_rfl) (by kernel_rfl) (Exc.grows _ _) (Exc.refl _ _) ?_
      iterate 2 (apply x_st rfl rfl rfl;(focus intro u hc' hf';go_simp <;> rfl);intro K hK;go_simp;apply hK;clear hK K)
      refine x_call rfl rfl rfl (Exc.grows _ _) (Exc.refl _ _) 95 (fun K hK=>?_);apply Exists.intro;refine ⟨fun w' hw'=>?_,fun wa hwa hbwa=>?_⟩;(focus go_simp;rfl);refine (lbName_any L[k].name _ hnmk).mono ?_;rintro e w8 ⟨rfl,hb8⟩;refine ⟨_,rfl,hb8,fun hx=>?_⟩;go_simp;apply hK;clear hK K
      rw [HN.out]
      iterate 2 (apply x_st rfl rfl rfl;(focus intro u hc' hf';go_simp <;> rfl);intro K hK;go_simp;apply hK;clear hK K)
      iterate 5 (apply x_sg rfl rfl (by first|rfl|(simp [Region.wanted,yielded,go_sem]));(focus intro u hc' hf';go_simp <;> rfl);intro K hK;go_simp;apply hK;clear hK K)
      refine x_callg rfl rfl (Exc.grows _ _) (hx) 96 (fun K hK=>?_);refine ⟨by first|rfl|(simp [Region.wanted,yielded,go_sem]),?_⟩;apply Exists.intro;refine ⟨fun w' hw'=>?_,fun w' hw' hbw=>?_⟩;(focus go_simp;rfl);refine (lbFind_any _ (L.take k) _ _ (hvk.keep (up hw')) htl).mono ?_;rintro e w9 ⟨rfl,hb9⟩;refine ⟨_,rfl,hb9,fun hx=>?_⟩;go_simp;apply hK;clear hK K
      rw [HFF.out]
      iterate 1 (apply x_sg rfl rfl (by first|rfl|(simp [Region.wanted,yielded,go_sem]));(focus intro u hc' hf';go_simp <;> rfl);intro K hK;go_simp;apply hK;clear hK K)
      iterate 1 (apply x_st rfl rfl rfl;(focus intro u hc' hf';go_simp <;> rfl);intro K hK;go_simp;apply hK;clear hK K)
      refine x_nil ?_
      go_wp2
      go_ret
      exact ⟨ret_bool HT.out.symm,hbel.trans ((up hx).mono hsz)⟩
   ·go_wp2
    go_ret
    exact ⟨ret_bool (by rw [HF.out,List.drop_eq_nil_of_le (by omega)];rfl),hbel⟩
 ·have HR:=Lib.hid (show good L=false by simp [good,hl])
  go_enter Tryz.func51,Tryz.ntmps51
  go_wp2
  go_ret
  exact ⟨ret_bool HR.out.symm,Below.refl _ _⟩
end Go.Proofs.YtikgblkfmpecfaaGreatDoor
/-
  lbOwn: a library that shares nothing. Own work.
-/
namespace Go.Proofs.YtikgblkfmpecfaaGreatDoor
open Go.RowKit
theorem CpSt.step2 {w wr w7 w':World} {B k:Nat} {v v' vb:Value} {L:List Df} {xs:List (Df × Value)} (e:xs.map Prod.fst=L.take k) (hbel:Below w.heap.size w wr) (hwB:w.heap.size≤B) (hB:B≤wr.heap.size) (hk:k<L.length)
  (hb7:Below wr.heap.size wr w7) (hr:DfsRow w' B v' (xs ++ [(L[k],vb)])) (hv:∀ j,v.ownBlock=some j → w.heap.size≤j) (hg:w7.grownBy w' v.ownBlock):CpSt w w' B v' L (k+1):=by
 have h2:=hb7.size
 have h3:=hg.size
 have h1:=hbel.size
 refine ⟨_,?_,hr,?_,hwB,by omega⟩
 ·rw [List.map_append,e,List.take_succ_eq_append_getElem hk];rfl
 ·exact (hbel.trans (hb7.mono h1)).grown hg (by omega) hv
theorem lbOwn_any (v:Value) (L:List Df) (w:World) (hv:DfsAt w v L) (hn:L.length≤1048576) (hs:∀ d ∈ L,d.body.length≤1048576) :
  Calls Tryz.prog 74 #[v] w fun e w'=>∃ v',e=.returned v'∧DfsOwn w' w.heap.size v' L∧Below w.heap.size w w':=by
 obtain ⟨a,cap,rfl,hc,hat⟩:=hv
 go_enter Tryz.func74,Tryz.ntmps74
 go_wp2
 go_loopw [3,8] (fun v i wr=>∃ k:Nat,k≤L.length∧i=.int .i64 k∧CpSt w wr w.heap.size v L k) (fun _ i _=>L.length - (intOf i).toNat)
 case atStart=>exact ⟨0,by omega,rfl,[],by simp,⟨⟨by simp,.inl ⟨rfl,rfl⟩⟩,by simp,List.Pairwise.nil⟩,Below.refl _ _,Nat.le_refl _,Nat.le_refl _⟩
 case round =>
  obtain ⟨k,hk,rfl,xs,hxs,hrow,hbel,hwB,hB⟩:=hrel
  have HX:=Lib.hid hxs
  have hxl:xs.length=k:=by have:=congrArg List.length hxs;simp at this;omega
  obtain ⟨ao,cp,rfl⟩:=hrow.shape k hxl
  clear hxs
  by_cases hlt:k<L.length
  ·obtain ⟨b,o,rfl,_,hnd⟩:=hat k hlt
   obtain ⟨c0,c1,c2,vb,c3,hvb⟩:=hnd.keep hbel
   obtain ⟨va,vc,rfl⟩:=hvb.slice
   have hbl:=hs L[k] (List.getElem_mem _)
   have hxl':xs.length≤1048576:=by omega
   have hlow:=fun j hj=>(World.ownsRow.lt hrow.1 j hj)
   have HL:=Lib.hid hxl
   clear hat hnd hs hxl
   go_wp2_with fail
   have hba:Below wr.heap.size wr (wr.alloc (.cells #[.string L[k].name,.int .i64 L[k].inn,.int .i64 L[k].out,.slice va L[k].body.length vc] 101)):=alloc_below _ _
   have up:∀ {w':World},Exc (fun j=>(Value.slice ao k cp).ownBlock=some j) ((wr.alloc (.cells #[.string L[k].name,.int .i64 L[k].inn,.int .i64 L[k].out,.slice va L[k].body.length vc] 101)).drew) w' → wr.heap.size+1≤w'.heap.size:=fun h=>by have:=h.size;simpa using this
   refine region_acts (C:=Exc ((fun j=>(Value.slice ao k cp).ownBlock=some j)) _) 2 [0,1,2,3,4,5,6,7,8,9,10,11,12,13,14] (by kernel_rfl) (by kernel_rfl) (Exc.grows _ _) (Exc.refl _ _) ?_
   have nT:¬ (Value.slice ao k cp).ownBlock=some wr.heap.size:=fun h=>by have:=(hlow _ h).2;omega
   iterate 10 (apply x_sT rfl rfl rfl;(focus intro u hc' hf';(try simp only [World.size_drew] at hc' hf');go_simp <;> rfl);intro K hK;go_simp;apply hK;clear hK K)
   have hba2:Below wr.heap.size wr ((wr.alloc (.cells #[.string L[k].name,.int .i64 L[k].inn,.int .i64 L[k].out,.slice va L[k].body.length vc] 101)).drew):=hba.drew
   refine x_call rfl rfl rfl (Exc.grows _ _) (Exc.refl _ _) 79 (fun K hK=>?_);apply Exists.intro;refine ⟨fun w' hw'=>?_,fun wa hwa hbwa=>?_⟩;(focus go_simp;rfl);refine (tmOwn_any _ L[k].body _ (hvb.keep (hba2.trans (hbwa.mono (by simp)))) hbl).mono ?_;rintro e w3 ⟨vb3,rfl,hvb3,hb3⟩;refine ⟨_,rfl,hb3,fun hx=>?_⟩;go_simp;apply hK;clear hK K
   have hb3':Below wr.heap.size wr w3:=hba2.trans ((hbwa.trans (hb3.mono hbwa.size)).mono (by simp))
   obtain ⟨va3,vc3,rfl⟩:=hvb3.slice
   have hap3:=dfs_apart hrow hvb3 (by have:=up hwa;omega)
   have hrow3:=hrow.keep hb3'
   have hza:=up hwa
   iterate 1 (apply x_sT rfl rfl rfl;(focus intro u hc' hf';(try simp only [World.size_drew] at hc' hf');go_simp <;> rfl);intro K hK;go_simp;apply hK;clear hK K)
   refine x_make rfl rfl rfl (Exc.grows _ _) (hx) (fun b=>.slice (some ⟨b,0,none⟩) 1 1) (fun K hK=>?_)
   apply Exists.intro
   refine ⟨fun w' hw'=>?_,fun bb w5 hw5 hb5 hbo hNb hnb=>?_⟩
   ·obtain ⟨hc',hf'⟩:=hw'.cell
    try simp only [World.size_drew] at hc' hf'
    go_simp
    rfl
   go_simp
   refine hK _ _ _ ?_
   clear hK K
   have hz5:=hb5.size
   have hb35:Below wr.heap.size wr w5:=hb3'.trans (hb5.mono hb3'.size)
   refine x_defapp rfl rfl rfl hw5 (.tmp 12) (.tmp 24) rfl w.heap.size (.slice ao k cp) xs L[k] (.slice va3 L[k].body.length vc3) bb rfl rfl (fun j hj=>.inl ⟨by have:=(hlow j hj).2;simp;omega,hj⟩) (by have:=hb35.size;omega) hxl' (hrow3.keep hb5) ((hvb3.keep hb5).mono (by omega)) hap3 hbo ?_
   intro K hK w7 w8 v8 hw7 hb7 hrow8 hg8 hw8 hl8
   have hst:=CpSt.step2 HX.out hbel hwB hB hlt (hb35.trans (hb7.mono hb35.size)) hrow8 (fun j hj=>(hlow j hj).1) hg8
   go_simp
   refine hK _ _ _ ?_
   clear hK K
   obtain ⟨ao',cp',rfl⟩:=hrow8.shape (k+1) (by simp [HL.out])
   clear hrow8 hg8 hl8
   refine x_still rfl rfl rfl (fun K hK=>?_)
   apply Exists.intro
   refine ⟨fun w' hw'=>?_,?_⟩
   ·go_simp
    rfl
   go_simp
   refine hK _ _ _ ?_
   clear hK K
   refine x_nil ?_
   go_wp2
   go_roundw
   case rel=>exact ⟨k+1,by omega,by go_num,hst⟩
   case measure=>simp [intOf];omega
  ·go_wp2
   go_ret
   have hkk:k=L.length:=by omega
   subst hkk
   refine ⟨_,rfl,⟨xs,?_,hrow⟩,hbel⟩
   rw [HX.out,List.take_length]
end Go.Proofs.YtikgblkfmpecfaaGreatDoor
/-
  The reference's AddDef and RemoveDef. Own work.
-/
namespace Go.Proofs.YtikgblkfmpecfaaGreatDoor
open Go.RowKit
def DfsLo (w:World) (B:Nat) (v:Value) (xs:List (Df × Value)):Prop:=w.ownsRow B 101 4 v xs.length (xs.flatMap dfCells)∧∀ x ∈ xs,NdsAt w x.2 x.1.body
theorem DfsLo.at {w:World} {B:Nat} {v:Value} {xs:List (Df × Value)} (h:DfsLo w B v xs):DfsAt w v (xs.map Prod.fst):=by
 have ho':w.ownsRow B 101 4 v (xs.map Prod.fst).length (xs.flatMap dfCells):=by rw [List.length_map];exact h.1
 refine owns_slat ho' _ fun i b o hi' hc=>⟨hi',?_⟩
 have hi:i<xs.length:=by simpa using hi'
 have g:∀ j,j<4 → w.cell? ⟨b,o+j,none⟩=(dfCells xs[i])[j]?:=fun j hj=>(hc j hj).trans (flat_get dfCells_len xs i j hi hj)
 rw [List.getElem_map]
 exact ⟨g 0 (by omega),g 1 (by omega),g 2 (by omega),xs[i].2,g 3 (by omega),h.2 _ (List.getElem_mem _)⟩
theorem DfsLo.keep {w w':World} {B:Nat} {v:Value} {xs:List (Df × Value)} (hb:Below w.heap.size w w') (h:DfsLo w B v xs):DfsLo w' B v xs :=
 ⟨owns_keep hb h.1,fun x hx=>(h.2 x hx).keep hb⟩
theorem DfsVals.keep {w w':World} {v:Value} {xs:List (Df × Value)} (hb:Below w.heap.size w w') (h:DfsVals w v xs):DfsVals w' v xs:=by
 refine ⟨SlAt.mono h.1 fun i b o ⟨hi,r⟩=>⟨hi,fun j hj=>?_⟩,fun x hx=>(h.2 x hx).keep hb⟩
 have h1:=r j hj
 have h2:(dfCells xs[i])[j]?=some ((dfCells xs[i])[j]'(by simpa [dfCells] using hj)):=List.getElem?_eq_getElem _
 rw [h2] at h1 ⊢
 exact cell_keep hb h1
end Go.Proofs.YtikgblkfmpecfaaGreatDoor
/-
  The reference's AddDef. Own work.
-/
namespace Go.Proofs.YtikgblkfmpecfaaGreatDoor
open Go.RowKit
end Go.Proofs.YtikgblkfmpecfaaGreatDoor
/-
  The reference's RemoveDef. Own work.
-/
namespace Go.Proofs.YtikgblkfmpecfaaGreatDoor
open Go.RowKit
end Go.Proofs.YtikgblkfmpecfaaGreatDoor
/-
  The reference's RenameDef. Own work.
-/
namespace Go.Proofs.YtikgblkfmpecfaaGreatDoor
open Go.RowKit
end Go.Proofs.YtikgblkfmpecfaaGreatDoor
/-
  The reference's ApplyEntry. Own work.
-/
namespace Go.Proofs.YtikgblkfmpecfaaGreatDoor
open Go.RowKit
end Go.Proofs.YtikgblkfmpecfaaGreatDoor
