/-
  lbType, lbGood and lbIf of the reference. Own work.
-/
import Derived.Test.YtldhpaflmnlcaaaGreatDoorQS
import Derived.Test.YtldhpaflmnlcaaaGreatDoorQG
set_option linter.all false
set_option maxRecDepth 100000
set_option maxHeartbeats 8000000
namespace Go.Proofs.YtldhpaflmnlcaaaGreatDoor
open Go.RowKit
theorem lbType_any (v vb:Value) (L:List Df) (ns:List Nd) (w:World) (hv:DfsAt w v L) (hn:L.length≤1048576) (hsm:∀ d ∈ L,Sm (d.inn,d.out)) (hvb:NdsAt w vb ns) (hok:NdsOk ns) :
  Calls Tryz.prog 102 #[v,.agg #[vb]] w fun e w'=>e=.returned (.tuple #[.int .i64 ((typedL (leafIn L) ns).getD (0,0)).1,.int .i64 ((typedL (leafIn L) ns).getD (0,0)).2,.bool (typedL (leafIn L) ns).isSome])∧Below w.heap.size w w':=by
 obtain ⟨a,cap,rfl⟩:∃ a cap,v=.slice a L.length cap:=by obtain ⟨a,cap,rfl,_⟩:=hv;exact ⟨a,cap,rfl⟩
 obtain ⟨ab,cb,rfl⟩:=hvb.slice
 cases ht:typedL (leafIn L) ns with
 | none =>
  have HT:=Lib.hid ht
  clear ht
  go_enter Tryz.func102,Tryz.ntmps102
  go_wp2_with (go_at_call 154;refine (lbScan_any _ L _ ns _ (hv.keep (alloc_below _ _)) hn hsm (hvb.keep (alloc_below _ _)) hok).mono ?_;rintro r w2 ⟨a0,n0,c0,a1,n1,c1,a2,n2,c2,rfl,hb2,_⟩;rw [HT.out])
  go_ret3
  exact ⟨rfl,((alloc_below _ _).trans (hb2.mono (by simp))).alloc (by have:=hb2.size;simp at this;omega) _⟩
 | some t =>
  have HT:=Lib.hid ht
  have hlen:=typedL_len ht
  have hl1:1≤ns.length:=by unfold typedL at ht;split at ht;omega;cases ht
  clear ht
  go_enter Tryz.func102,Tryz.ntmps102
  go_wp2_with (go_at_call 154;refine (lbScan_any _ L _ ns _ (hv.keep (alloc_below _ _)) hn hsm (hvb.keep (alloc_below _ _)) hok).mono ?_;rintro r w2 ⟨a0,n0,c0,a1,n1,c1,a2,n2,c2,rfl,hb2,hX⟩;rw [HT.out];obtain ⟨X,hXl,hXt,r0,r1,r2⟩:=hX t HT.out;obtain ⟨g1,p1,he1,_⟩:=owns_some r1 (by simp;omega);obtain ⟨g2,p2,he2,_⟩:=owns_some r2 (by simp;omega);simp only [Value.slice.injEq,List.length_map] at he1 he2;obtain ⟨rfl,rfl,rfl⟩:=he1;obtain ⟨rfl,rfl,rfl⟩:=he2;rw [hXl];obtain ⟨hc2,hf2,hs2⟩:=bcell hb2;have x0:w2.cell? ⟨w.heap.size,0,none⟩=some (.slice ab ns.length cb):=(hc2 _ _ (by simp)).trans (by simp);have hz2:w.heap.size<w2.heap.size:=(by simp at hs2;omega);clear hc2 hf2 hs2)
  obtain ⟨q1,e1⟩:=getE hXt (fun p:Nat × W2=>p.2.1)
  obtain ⟨q2,e2⟩:=getE hXt (fun p:Nat × W2=>p.2.2)
  have f1:=r1.cell _ q1
  have f2:=r2.cell _ q2
  rw [e1] at f1
  rw [e2] at f2
  have z1:=cell_lt f1
  have z2:=cell_lt f2
  have gi1:(1:Int)≤ns.length:=by omega
  have gi2:(ns.length:Int) - 1<ns.length:=by omega
  have et1:((ns.length:Int) - 1).toNat=ns.length - 1:=by omega
  clear e1 e2 q1 q2 r0 r1 r2 hXt hX
  go_wp2_with fail
  refine region_acts (C:=Exc (NoT) _) 2 [0,1,2,3,4,5,6,7,8,9,10,11,12] (by kernel_rfl) (by kernel_rfl) (Exc.grows _ _) (Exc.refl _ _) ?_
  iterate 13 (apply x_st rfl rfl rfl;(focus intro u hc' hf';go_simp <;> rfl);intro K hK;go_simp;apply hK;clear hK K)
  refine x_nil ?_
  go_wp2
  go_ret3
  exact ⟨rfl,(((alloc_below _ _).trans (hb2.mono (by simp))).alloc (by omega) _).drew⟩
theorem lbType_none (v vb:Value) (L:List Df) (ns:List Nd) (w:World) (hv:DfsAt w v L) (hn:L.length≤1048576) (hsm:∀ d ∈ L,Sm (d.inn,d.out)) (hvb:NdsAt w vb ns) (hok:NdsOk ns) (h:typedL (leafIn L) ns=none) :
  Calls Tryz.prog 102 #[v,.agg #[vb]] w fun e w'=>e=.returned (.tuple #[.int .i64 0,.int .i64 0,.bool false])∧Below w.heap.size w w' :=
 (lbType_any v vb L ns w hv hn hsm hvb hok).mono fun e w' hh=>by rw [h] at hh;exact hh
theorem lbType_some (v vb:Value) (L:List Df) (ns:List Nd) (t:W2) (w:World) (hv:DfsAt w v L) (hn:L.length≤1048576) (hsm:∀ d ∈ L,Sm (d.inn,d.out)) (hvb:NdsAt w vb ns) (hok:NdsOk ns) (h:typedL (leafIn L) ns=some t) :
  Calls Tryz.prog 102 #[v,.agg #[vb]] w fun e w'=>e=.returned (.tuple #[.int .i64 t.1,.int .i64 t.2,.bool true])∧Below w.heap.size w w' :=
 (lbType_any v vb L ns w hv hn hsm hvb hok).mono fun e w' hh=>by rw [h] at hh;exact hh
end Go.Proofs.YtldhpaflmnlcaaaGreatDoor
/-
  lbGood and lbIf of the reference. Own work.
-/
namespace Go.Proofs.YtldhpaflmnlcaaaGreatDoor
open Go.RowKit
theorem lbGood_any (v:Value) (L:List Df) (w:World) (hv:DfsAt w v L) (hn:L.length≤1048576) (hs:∀ d ∈ L,DfOk d) :
  Calls Tryz.prog 65 #[v] w fun e w'=>e=.returned (.bool (good L))∧Below w.heap.size w w':=by
 have hv0:=hv
 obtain ⟨a,cap,rfl,hc,hat⟩:=hv
 by_cases hl:L.length≤12
 ·go_enter Tryz.func65,Tryz.ntmps65
  go_wp2
  go_loopw [13] (fun i wr=>∃ k:Nat,k≤L.length∧i=.int .i64 k∧Hid (goodGo [] (L.take k)=true)∧Hid (good L=goodGo (L.take k) (L.drop k))∧Below w.heap.size w wr) (fun i _=>L.length - (intOf i).toNat)
  case atStart=>exact ⟨0,by omega,rfl,(by simp [Hid,goodGo]:Hid (goodGo [] (L.take 0)=true)),(by simp [Hid,good,hl]:Hid (good L=goodGo (L.take 0) (L.drop 0))),Below.refl _ _⟩
  case round =>
   obtain ⟨k,hk,rfl,HG,HF,hbel⟩:=hrel
   by_cases hlt:k<L.length
   ·have hvk:=dfs_take (hv0.keep hbel) k hk
    obtain ⟨b,o,rfl,_,hnd⟩:=hat k hlt
    obtain ⟨c0,c1,c2,vb,c3,hvb⟩:=hnd.keep hbel
    obtain ⟨va,vc,rfl⟩:=hvb.slice
    have hsz:=hbel.size
    have hok:=hs L[k] (List.getElem_mem _)
    have hnmk:=hok.1
    have hsm:=good_sm HG.out
    have htl:(L.take k).length≤1048576:=by rw [List.length_take];omega
    have hkc:k≤cap:=by omega
    have hag:goodAt (L.take k) L[k]=(decide (typedL (leafIn (L.take k)) L[k].body=some (L[k].inn,L[k].out)) && nameB L[k].name && (findD (L.take k) L[k].name).isNone):=rfl
    have hgo:good L=(goodAt (L.take k) L[k] && goodGo (L.take (k+1)) (L.drop (k+1))):=by
     rw [HF.out,List.drop_eq_getElem_cons hlt,goodGo,List.take_succ_eq_append_getElem hlt]
    have hgg:goodGo [] (L.take (k+1))=goodAt (L.take k) L[k]:=by
     rw [List.take_succ_eq_append_getElem hlt,goodGo_append,HG.out];simp [goodGo]
    have hba:Below wr.heap.size wr (wr.alloc (.cells #[.string L[k].name,.int .i64 L[k].inn,.int .i64 L[k].out,.slice va L[k].body.length vc] 28)):=alloc_below _ _
    have up:∀ {w':World},Exc NoT ((wr.alloc (.cells #[.string L[k].name,.int .i64 L[k].inn,.int .i64 L[k].out,.slice va L[k].body.length vc] 28)).drew) w' → Below wr.heap.size wr w':=fun h=>hba.trans ((Below.refl wr.heap.size _).drew.trans (h.toBelow.mono (by simp)))
    clear hat hnd hs
    cases hnb:nameB L[k].name
    ·have HT:Hid (good L=false):=(show good L=false by rw [hgo,hag,hnb];simp)
     have HN:=Lib.hid hnb
     clear hag hgo hgg hnb
     go_wp2_with fail
     refine region_acts (C:=Exc (NoT) _) 2 [0,1,2,3,4,5,6,7,8,9,10,11,12] (by kernel_rfl) (by kernel_rfl) (Exc.grows _ _) (Exc.refl _ _) ?_
     iterate 2 (apply x_st rfl rfl rfl;(focus intro u hc' hf';go_simp <;> rfl);intro K hK;go_simp;apply hK;clear hK K)
     refine x_call rfl rfl rfl (Exc.grows _ _) (Exc.refl _ _) 100 (fun K hK=>?_);apply Exists.intro;refine ⟨fun w' hw'=>?_,fun wa hwa hbwa=>?_⟩;(focus go_simp;rfl);refine (lbName_any L[k].name _ hnmk).mono ?_;rintro e w8 ⟨rfl,hb8⟩;refine ⟨_,rfl,hb8,fun hx=>?_⟩;go_simp;apply hK;clear hK K
     rw [HN.out]
     iterate 2 (apply x_st rfl rfl rfl;(focus intro u hc' hf';go_simp <;> rfl);intro K hK;go_simp;apply hK;clear hK K)
     iterate 7 (refine x_skip rfl fun K hK=>⟨by first|rfl|(simp [Region.wanted,yielded,go_sem]),?_⟩;go_simp;apply hK;clear hK K)
     iterate 1 (apply x_st rfl rfl rfl;(focus intro u hc' hf';go_simp <;> rfl);intro K hK;go_simp;apply hK;clear hK K)
     refine x_nil ?_
     go_wp2
     go_ret
     exact ⟨ret_bool HT.out.symm,hbel.trans ((up hx).mono hsz)⟩
    ·rw [hnb] at hag
     have HN:=Lib.hid hnb
     clear hnb
     rcases findFrom_cases L[k].name (L.take k) 0 with ⟨f1,f2⟩|⟨i,hi,f1,f2⟩
     ·rw [f2] at hag
      have HFF:=Lib.hid f1
      clear f1 f2
      cases hR:typedL (leafIn (L.take k)) L[k].body with
      | none =>
       have HT:Hid (good L=false):=(show good L=false by rw [hgo,hag,hR];simp)
       have HR:=Lib.hid hR
       clear hag hgo hgg hR
       go_wp2_with fail
       refine region_acts (C:=Exc (NoT) _) 2 [0,1,2,3,4,5,6,7,8,9,10,11,12] (by kernel_rfl) (by kernel_rfl) (Exc.grows _ _) (Exc.refl _ _) ?_
       iterate 2 (apply x_st rfl rfl rfl;(focus intro u hc' hf';go_simp <;> rfl);intro K hK;go_simp;apply hK;clear hK K)
       refine x_call rfl rfl rfl (Exc.grows _ _) (Exc.refl _ _) 100 (fun K hK=>?_);apply Exists.intro;refine ⟨fun w' hw'=>?_,fun wa hwa hbwa=>?_⟩;(focus go_simp;rfl);refine (lbName_any L[k].name _ hnmk).mono ?_;rintro e w8 ⟨rfl,hb8⟩;refine ⟨_,rfl,hb8,fun hx=>?_⟩;go_simp;apply hK;clear hK K
       rw [HN.out]
       iterate 2 (apply x_st rfl rfl rfl;(focus intro u hc' hf';go_simp <;> rfl);intro K hK;go_simp;apply hK;clear hK K)
       iterate 5 (apply x_sg rfl rfl (by first|rfl|(simp [Region.wanted,yielded,go_sem]));(focus intro u hc' hf';go_simp <;> rfl);intro K hK;go_simp;apply hK;clear hK K)
       refine x_callg rfl rfl (Exc.grows _ _) (hx) 101 (fun K hK=>?_);refine ⟨by first|rfl|(simp [Region.wanted,yielded,go_sem]),?_⟩;apply Exists.intro;refine ⟨fun w' hw'=>?_,fun w' hw' hbw=>?_⟩;(focus go_simp;rfl);refine (lbFind_any _ (L.take k) _ _ (hvk.keep (up hw')) htl).mono ?_;rintro e w9 ⟨rfl,hb9⟩;refine ⟨_,rfl,hb9,fun hx=>?_⟩;go_simp;apply hK;clear hK K
       rw [HFF.out]
       iterate 1 (apply x_sg rfl rfl (by first|rfl|(simp [Region.wanted,yielded,go_sem]));(focus intro u hc' hf';go_simp <;> rfl);intro K hK;go_simp;apply hK;clear hK K)
       iterate 1 (apply x_st rfl rfl rfl;(focus intro u hc' hf';go_simp <;> rfl);intro K hK;go_simp;apply hK;clear hK K)
       refine x_nil ?_
       have hW:=up hx
       have hW1:Below (wr.heap.size+1) (wr.alloc (.cells #[.string L[k].name,.int .i64 L[k].inn,.int .i64 L[k].out,.slice va L[k].body.length vc] 28)) w9:=(Below.refl (wr.heap.size+1) _).drew.trans (hx.toBelow.mono (by simp))
       have e1:w9.cell? ⟨wr.heap.size,1,none⟩=some (.int .i64 L[k].inn):=by rw [hW1.cell (p:=⟨wr.heap.size,1,none⟩) (by simp)];go_simp
       have e2:w9.cell? ⟨wr.heap.size,2,none⟩=some (.int .i64 L[k].out):=by rw [hW1.cell (p:=⟨wr.heap.size,2,none⟩) (by simp)];go_simp
       have e3:w9.cell? ⟨wr.heap.size,3,none⟩=some (.slice va L[k].body.length vc):=by rw [hW1.cell (p:=⟨wr.heap.size,3,none⟩) (by simp)];go_simp
       have hz9:wr.heap.size<w9.heap.size:=by have:=hW1.size;simp at this;omega
       clear hW1 hx hb8 hb9 hwa hbwa hw' hbw
       go_wp2_with fail
       refine region_acts (C:=Exc (NoT) _) 2 [0,1,2,3,4,5,6,7,8,9,10,11,12] (by kernel_rfl) (by kernel_rfl) (Exc.grows _ _) (Exc.refl _ _) ?_
       iterate 5 (apply x_st rfl rfl rfl;(focus intro u hc' hf';go_simp <;> rfl);intro K hK;go_simp;apply hK;clear hK K)
       have up9:∀ {w':World},Exc NoT w9.drew w' → Below wr.heap.size wr w':=fun h=>hW.trans (((Below.refl w9.heap.size w9).drew.trans (h.toBelow.mono (by simp))).mono hW.size)
       refine x_call rfl rfl rfl (Exc.grows _ _) (Exc.refl _ _) 102 (fun K hK=>?_);apply Exists.intro;refine ⟨fun w' hw'=>?_,fun wb hwb hbwb=>?_⟩;(focus go_simp;rfl);refine (lbType_none _ _ (L.take k) L[k].body _ (hvk.keep (up9 hwb)) htl hsm (hvb.keep (up9 hwb)) hok.2 HR.out).mono ?_;rintro e w10 ⟨rfl,hb10⟩;refine ⟨_,rfl,hb10,fun hx=>?_⟩;go_simp;apply hK;clear hK K
       iterate 7 (apply x_st rfl rfl rfl;(focus intro u hc' hf';go_simp <;> rfl);intro K hK;go_simp;apply hK;clear hK K)
       refine x_nil ?_
       go_wp2
       go_ret
       exact ⟨ret_bool HT.out.symm,hbel.trans ((up9 hx).mono hsz)⟩
      | some t =>
       have HR:=Lib.hid hR
       by_cases p1:t.1=L[k].inn∧t.2=L[k].out
       ·have hdt:decide (typedL (leafIn (L.take k)) L[k].body=some (L[k].inn,L[k].out))=true:=by rw [hR];simp [← p1.1,← p1.2]
        rw [hdt] at hag
        have HG':Hid (goodGo [] (L.take (k+1))=true):=(show _ by rw [hgg,hag];rfl)
        have HF':Hid (good L=goodGo (L.take (k+1)) (L.drop (k+1))):=(show good L=_ by rw [hgo,hag];rfl)
        have b1:(t.1 != L[k].inn)=false:=by simp [p1.1]
        have b2:(t.2 != L[k].out)=false:=by simp [p1.2]
        clear hag hgo hgg hR hdt p1 HF HG
        go_wp2_with fail
        refine region_acts (C:=Exc (NoT) _) 2 [0,1,2,3,4,5,6,7,8,9,10,11,12] (by kernel_rfl) (by kernel_rfl) (Exc.grows _ _) (Exc.refl _ _) ?_
        iterate 2 (apply x_st rfl rfl rfl;(focus intro u hc' hf';go_simp <;> rfl);intro K hK;go_simp;apply hK;clear hK K)
        refine x_call rfl rfl rfl (Exc.grows _ _) (Exc.refl _ _) 100 (fun K hK=>?_);apply Exists.intro;refine ⟨fun w' hw'=>?_,fun wa hwa hbwa=>?_⟩;(focus go_simp;rfl);refine (lbName_any L[k].name _ hnmk).mono ?_;rintro e w8 ⟨rfl,hb8⟩;refine ⟨_,rfl,hb8,fun hx=>?_⟩;go_simp;apply hK;clear hK K
        rw [HN.out]
        iterate 2 (apply x_st rfl rfl rfl;(focus intro u hc' hf';go_simp <;> rfl);intro K hK;go_simp;apply hK;clear hK K)
        iterate 5 (apply x_sg rfl rfl (by first|rfl|(simp [Region.wanted,yielded,go_sem]));(focus intro u hc' hf';go_simp <;> rfl);intro K hK;go_simp;apply hK;clear hK K)
        refine x_callg rfl rfl (Exc.grows _ _) (hx) 101 (fun K hK=>?_);refine ⟨by first|rfl|(simp [Region.wanted,yielded,go_sem]),?_⟩;apply Exists.intro;refine ⟨fun w' hw'=>?_,fun w' hw' hbw=>?_⟩;(focus go_simp;rfl);refine (lbFind_any _ (L.take k) _ _ (hvk.keep (up hw')) htl).mono ?_;rintro e w9 ⟨rfl,hb9⟩;refine ⟨_,rfl,hb9,fun hx=>?_⟩;go_simp;apply hK;clear hK K
        rw [HFF.out]
        iterate 1 (apply x_sg rfl rfl (by first|rfl|(simp [Region.wanted,yielded,go_sem]));(focus intro u hc' hf';go_simp <;> rfl);intro K hK;go_simp;apply hK;clear hK K)
        iterate 1 (apply x_st rfl rfl rfl;(focus intro u hc' hf';go_simp <;> rfl);intro K hK;go_simp;apply hK;clear hK K)
        refine x_nil ?_
        have hW:=up hx
        have hW1:Below (wr.heap.size+1) (wr.alloc (.cells #[.string L[k].name,.int .i64 L[k].inn,.int .i64 L[k].out,.slice va L[k].body.length vc] 28)) w9:=(Below.refl (wr.heap.size+1) _).drew.trans (hx.toBelow.mono (by simp))
        have e1:w9.cell? ⟨wr.heap.size,1,none⟩=some (.int .i64 L[k].inn):=by rw [hW1.cell (p:=⟨wr.heap.size,1,none⟩) (by simp)];go_simp
        have e2:w9.cell? ⟨wr.heap.size,2,none⟩=some (.int .i64 L[k].out):=by rw [hW1.cell (p:=⟨wr.heap.size,2,none⟩) (by simp)];go_simp
        have e3:w9.cell? ⟨wr.heap.size,3,none⟩=some (.slice va L[k].body.length vc):=by rw [hW1.cell (p:=⟨wr.heap.size,3,none⟩) (by simp)];go_simp
        have hz9:wr.heap.size<w9.heap.size:=by have:=hW1.size;simp at this;omega
        clear hW1 hx hb8 hb9 hwa hbwa hw' hbw
        go_wp2_with fail
        refine region_acts (C:=Exc (NoT) _) 2 [0,1,2,3,4,5,6,7,8,9,10,11,12] (by kernel_rfl) (by kernel_rfl) (Exc.grows _ _) (Exc.refl _ _) ?_
        iterate 5 (apply x_st rfl rfl rfl;(focus intro u hc' hf';go_simp <;> rfl);intro K hK;go_simp;apply hK;clear hK K)
        have up9:∀ {w':World},Exc NoT w9.drew w' → Below wr.heap.size wr w':=fun h=>hW.trans (((Below.refl w9.heap.size w9).drew.trans (h.toBelow.mono (by simp))).mono hW.size)
        refine x_call rfl rfl rfl (Exc.grows _ _) (Exc.refl _ _) 102 (fun K hK=>?_);apply Exists.intro;refine ⟨fun w' hw'=>?_,fun wb hwb hbwb=>?_⟩;(focus go_simp;rfl);refine (lbType_some _ _ (L.take k) L[k].body t _ (hvk.keep (up9 hwb)) htl hsm (hvb.keep (up9 hwb)) hok.2 HR.out).mono ?_;rintro e w10 ⟨rfl,hb10⟩;refine ⟨_,rfl,hb10,fun hx=>?_⟩;go_simp;apply hK;clear hK K
        iterate 7 (apply x_st rfl rfl rfl;(focus intro u hc' hf';go_simp <;> rfl);intro K hK;go_simp;apply hK;clear hK K)
        refine x_nil ?_
        have hv10:Below w9.heap.size w9 w10:=(Below.refl w9.heap.size w9).drew.trans (hx.toBelow.mono (by simp))
        have g1:=cell_keep hv10 e1
        have g2:=cell_keep hv10 e2
        clear hb10 hwb hbwb
        go_wp2
        go_roundw
        case rel=>exact ⟨k+1,by omega,by go_num,HG',HF',hbel.trans ((up9 hx).mono hsz)⟩
        case measure=>simp [intOf];omega
       ·have HT:Hid (good L=false):=(show good L=false by
         rw [hgo,hag,hR]
         have:¬ (some t=some (L[k].inn,L[k].out)):=fun e=>p1 (by have:=Option.some.inj e;rw [this];simp)
         simp [this])
        have p3:(t.1 != L[k].inn)=true∨((t.1 != L[k].inn)=false∧(t.2 != L[k].out)=true):=by
         by_cases h:t.1=L[k].inn
         ·exact .inr ⟨by simp [h],by simpa using fun h'=>p1 ⟨h,h'⟩⟩
         ·exact .inl (by simpa using h)
        clear hag hgo hgg hR p1
        rcases p3 with b1|⟨b1,b2⟩
        all_goals
         go_wp2_with fail
         refine region_acts (C:=Exc (NoT) _) 2 [0,1,2,3,4,5,6,7,8,9,10,11,12] (by kernel_rfl) (by kernel_rfl) (Exc.grows _ _) (Exc.refl _ _) ?_
         iterate 2 (apply x_st rfl rfl rfl;(focus intro u hc' hf';go_simp <;> rfl);intro K hK;go_simp;apply hK;clear hK K)
         refine x_call rfl rfl rfl (Exc.grows _ _) (Exc.refl _ _) 100 (fun K hK=>?_);apply Exists.intro;refine ⟨fun w' hw'=>?_,fun wa hwa hbwa=>?_⟩;(focus go_simp;rfl);refine (lbName_any L[k].name _ hnmk).mono ?_;rintro e w8 ⟨rfl,hb8⟩;refine ⟨_,rfl,hb8,fun hx=>?_⟩;go_simp;apply hK;clear hK K
         rw [HN.out]
         iterate 2 (apply x_st rfl rfl rfl;(focus intro u hc' hf';go_simp <;> rfl);intro K hK;go_simp;apply hK;clear hK K)
         iterate 5 (apply x_sg rfl rfl (by first|rfl|(simp [Region.wanted,yielded,go_sem]));(focus intro u hc' hf';go_simp <;> rfl);intro K hK;go_simp;apply hK;clear hK K)
         refine x_callg rfl rfl (Exc.grows _ _) (hx) 101 (fun K hK=>?_);refine ⟨by first|rfl|(simp [Region.wanted,yielded,go_sem]),?_⟩;apply Exists.intro;refine ⟨fun w' hw'=>?_,fun w' hw' hbw=>?_⟩;(focus go_simp;rfl);refine (lbFind_any _ (L.take k) _ _ (hvk.keep (up hw')) htl).mono ?_;rintro e w9 ⟨rfl,hb9⟩;refine ⟨_,rfl,hb9,fun hx=>?_⟩;go_simp;apply hK;clear hK K
         rw [HFF.out]
         iterate 1 (apply x_sg rfl rfl (by first|rfl|(simp [Region.wanted,yielded,go_sem]));(focus intro u hc' hf';go_simp <;> rfl);intro K hK;go_simp;apply hK;clear hK K)
         iterate 1 (apply x_st rfl rfl rfl;(focus intro u hc' hf';go_simp <;> rfl);intro K hK;go_simp;apply hK;clear hK K)
         refine x_nil ?_
         have hW:=up hx
         have hW1:Below (wr.heap.size+1) (wr.alloc (.cells #[.string L[k].name,.int .i64 L[k].inn,.int .i64 L[k].out,.slice va L[k].body.length vc] 28)) w9:=(Below.refl (wr.heap.size+1) _).drew.trans (hx.toBelow.mono (by simp))
         have e1:w9.cell? ⟨wr.heap.size,1,none⟩=some (.int .i64 L[k].inn):=by rw [hW1.cell (p:=⟨wr.heap.size,1,none⟩) (by simp)];go_simp
         have e2:w9.cell? ⟨wr.heap.size,2,none⟩=some (.int .i64 L[k].out):=by rw [hW1.cell (p:=⟨wr.heap.size,2,none⟩) (by simp)];go_simp
         have e3:w9.cell? ⟨wr.heap.size,3,none⟩=some (.slice va L[k].body.length vc):=by rw [hW1.cell (p:=⟨wr.heap.size,3,none⟩) (by simp)];go_simp
         have hz9:wr.heap.size<w9.heap.size:=by have:=hW1.size;simp at this;omega
         clear hW1 hx hb8 hb9 hwa hbwa hw' hbw
         go_wp2_with fail
         refine region_acts (C:=Exc (NoT) _) 2 [0,1,2,3,4,5,6,7,8,9,10,11,12] (by kernel_rfl) (by kernel_rfl) (Exc.grows _ _) (Exc.refl _ _) ?_
         iterate 5 (apply x_st rfl rfl rfl;(focus intro u hc' hf';go_simp <;> rfl);intro K hK;go_simp;apply hK;clear hK K)
         have up9:∀ {w':World},Exc NoT w9.drew w' → Below wr.heap.size wr w':=fun h=>hW.trans (((Below.refl w9.heap.size w9).drew.trans (h.toBelow.mono (by simp))).mono hW.size)
         refine x_call rfl rfl rfl (Exc.grows _ _) (Exc.refl _ _) 102 (fun K hK=>?_);apply Exists.intro;refine ⟨fun w' hw'=>?_,fun wb hwb hbwb=>?_⟩;(focus go_simp;rfl);refine (lbType_some _ _ (L.take k) L[k].body t _ (hvk.keep (up9 hwb)) htl hsm (hvb.keep (up9 hwb)) hok.2 HR.out).mono ?_;rintro e w10 ⟨rfl,hb10⟩;refine ⟨_,rfl,hb10,fun hx=>?_⟩;go_simp;apply hK;clear hK K
         iterate 7 (apply x_st rfl rfl rfl;(focus intro u hc' hf';go_simp <;> rfl);intro K hK;go_simp;apply hK;clear hK K)
         refine x_nil ?_
         have hv10:Below w9.heap.size w9 w10:=(Below.refl w9.heap.size w9).drew.trans (hx.toBelow.mono (by simp))
         have g1:=cell_keep hv10 e1
         have g2:=cell_keep hv10 e2
         clear hb10 hwb hbwb
         go_wp2
         go_ret
         exact ⟨ret_bool HT.out.symm,hbel.trans ((up9 hx).mono hsz)⟩
     ·rw [f2] at hag
      have HT:Hid (good L=false):=(show good L=false by rw [hgo,hag];simp)
      rw [Nat.zero_add] at f1
      have HFF:=Lib.hid f1
      have gi:(0:Int)≤i:=by omega
      clear hag hgo hgg f1 f2
      go_wp2_with fail
      refine region_acts (C:=Exc (NoT) _) 2 [0,1,2,3,4,5,6,7,8,9,10,11,12] (by kernel_rfl) (by kernel_rfl) (Exc.grows _ _) (Exc.refl _ _) ?_
      iterate 2 (apply x_st rfl rfl rfl;(focus intro u hc' hf';go_simp <;> rfl);intro K hK;go_simp;apply hK;clear hK K)
      refine x_call rfl rfl rfl (Exc.grows _ _) (Exc.refl _ _) 100 (fun K hK=>?_);apply Exists.intro;refine ⟨fun w' hw'=>?_,fun wa hwa hbwa=>?_⟩;(focus go_simp;rfl);refine (lbName_any L[k].name _ hnmk).mono ?_;rintro e w8 ⟨rfl,hb8⟩;refine ⟨_,rfl,hb8,fun hx=>?_⟩;go_simp;apply hK;clear hK K
      rw [HN.out]
      iterate 2 (apply x_st rfl rfl rfl;(focus intro u hc' hf';go_simp <;> rfl);intro K hK;go_simp;apply hK;clear hK K)
      iterate 5 (apply x_sg rfl rfl (by first|rfl|(simp [Region.wanted,yielded,go_sem]));(focus intro u hc' hf';go_simp <;> rfl);intro K hK;go_simp;apply hK;clear hK K)
      refine x_callg rfl rfl (Exc.grows _ _) (hx) 101 (fun K hK=>?_);refine ⟨by first|rfl|(simp [Region.wanted,yielded,go_sem]),?_⟩;apply Exists.intro;refine ⟨fun w' hw'=>?_,fun w' hw' hbw=>?_⟩;(focus go_simp;rfl);refine (lbFind_any _ (L.take k) _ _ (hvk.keep (up hw')) htl).mono ?_;rintro e w9 ⟨rfl,hb9⟩;refine ⟨_,rfl,hb9,fun hx=>?_⟩;go_simp;apply hK;clear hK K
      rw [HFF.out]
      iterate 1 (apply x_sg rfl rfl (by first|rfl|(simp [Region.wanted,yielded,go_sem]));(focus intro u hc' hf';go_simp <;> rfl);intro K hK;go_simp;apply hK;clear hK K)
      iterate 1 (apply x_st rfl rfl rfl;(focus intro u hc' hf';go_simp <;> rfl);intro K hK;go_simp;apply hK;clear hK K)
      refine x_nil ?_
      go_wp2
      go_ret
      exact ⟨ret_bool HT.out.symm,hbel.trans ((up hx).mono hsz)⟩
   ·go_wp2
    go_ret
    exact ⟨ret_bool (by rw [HF.out,List.drop_eq_nil_of_le (by omega)];rfl),hbel⟩
 ·have HR:=Lib.hid (show good L=false by simp [good,hl])
  go_enter Tryz.func65,Tryz.ntmps65
  go_wp2
  go_ret
  exact ⟨ret_bool HR.out.symm,Below.refl _ _⟩
end Go.Proofs.YtldhpaflmnlcaaaGreatDoor
/-
  lbOwn: a library that shares nothing. Own work.
-/
namespace Go.Proofs.YtldhpaflmnlcaaaGreatDoor
open Go.RowKit
theorem CpSt.step2 {w wr w7 w':World} {B k:Nat} {v v' vb:Value} {L:List Df} {xs:List (Df × Value)} (e:xs.map Prod.fst=L.take k) (hbel:Below w.heap.size w wr) (hwB:w.heap.size≤B) (hB:B≤wr.heap.size) (hk:k<L.length)
  (hb7:Below wr.heap.size wr w7) (hr:DfsRow w' B v' (xs ++ [(L[k],vb)])) (hv:∀ j,v.ownBlock=some j → w.heap.size≤j) (hg:w7.grownBy w' v.ownBlock):CpSt w w' B v' L (k+1):=by
 have h2:=hb7.size
 have h3:=hg.size
 have h1:=hbel.size
 refine ⟨_,?_,hr,?_,hwB,by omega⟩
 ·rw [List.map_append,e,List.take_succ_eq_append_getElem hk];rfl
 ·exact (hbel.trans (hb7.mono h1)).grown hg (by omega) hv
theorem lbOwn_any (v:Value) (L:List Df) (w:World) (hv:DfsAt w v L) (hn:L.length≤1048576) (hs:∀ d ∈ L,d.body.length≤1048576) :
  Calls Tryz.prog 127 #[v] w fun e w'=>∃ v',e=.returned v'∧DfsOwn w' w.heap.size v' L∧Below w.heap.size w w':=by
 obtain ⟨a,cap,rfl,hc,hat⟩:=hv
 go_enter Tryz.func127,Tryz.ntmps127
 go_wp2
 go_loopw [3,8] (fun v i wr=>∃ k:Nat,k≤L.length∧i=.int .i64 k∧CpSt w wr w.heap.size v L k) (fun _ i _=>L.length - (intOf i).toNat)
 case atStart=>exact ⟨0,by omega,rfl,[],by simp,⟨⟨by simp,.inl ⟨rfl,rfl⟩⟩,by simp,List.Pairwise.nil⟩,Below.refl _ _,Nat.le_refl _,Nat.le_refl _⟩
 case round =>
  obtain ⟨k,hk,rfl,xs,hxs,hrow,hbel,hwB,hB⟩:=hrel
  have HX:=Lib.hid hxs
  have hxl:xs.length=k:=by have:=congrArg List.length hxs;simp at this;omega
  obtain ⟨ao,cp,rfl⟩:=hrow.shape k hxl
  clear hxs
  by_cases hlt:k<L.length
  ·obtain ⟨b,o,rfl,_,hnd⟩:=hat k hlt
   obtain ⟨c0,c1,c2,vb,c3,hvb⟩:=hnd.keep hbel
   obtain ⟨va,vc,rfl⟩:=hvb.slice
   have hbl:=hs L[k] (List.getElem_mem _)
   have hxl':xs.length≤1048576:=by omega
   have hlow:=fun j hj=>(World.ownsRow.lt hrow.1 j hj)
   have HL:=Lib.hid hxl
   clear hat hnd hs hxl
   go_wp2_with fail
   have hba:Below wr.heap.size wr (wr.alloc (.cells #[.string L[k].name,.int .i64 L[k].inn,.int .i64 L[k].out,.slice va L[k].body.length vc] 28)):=alloc_below _ _
   have up:∀ {w':World},Exc (fun j=>(Value.slice ao k cp).ownBlock=some j) ((wr.alloc (.cells #[.string L[k].name,.int .i64 L[k].inn,.int .i64 L[k].out,.slice va L[k].body.length vc] 28)).drew) w' → wr.heap.size+1≤w'.heap.size:=fun h=>by have:=h.size;simpa using this
   refine region_acts (C:=Exc ((fun j=>(Value.slice ao k cp).ownBlock=some j)) _) 2 [0,1,2,3,4,5,6,7,8,9,10,11,12,13,14] (by kernel_rfl) (by kernel_rfl) (Exc.grows _ _) (Exc.refl _ _) ?_
   have nT:¬ (Value.slice ao k cp).ownBlock=some wr.heap.size:=fun h=>by have:=(hlow _ h).2;omega
   iterate 10 (apply x_sT rfl rfl rfl;(focus intro u hc' hf';(try simp only [World.size_drew] at hc' hf');go_simp <;> rfl);intro K hK;go_simp;apply hK;clear hK K)
   have hba2:Below wr.heap.size wr ((wr.alloc (.cells #[.string L[k].name,.int .i64 L[k].inn,.int .i64 L[k].out,.slice va L[k].body.length vc] 28)).drew):=hba.drew
   refine x_call rfl rfl rfl (Exc.grows _ _) (Exc.refl _ _) 183 (fun K hK=>?_);apply Exists.intro;refine ⟨fun w' hw'=>?_,fun wa hwa hbwa=>?_⟩;(focus go_simp;rfl);refine (tmOwn_any _ L[k].body _ (hvb.keep (hba2.trans (hbwa.mono (by simp)))) hbl).mono ?_;rintro e w3 ⟨vb3,rfl,hvb3,hb3⟩;refine ⟨_,rfl,hb3,fun hx=>?_⟩;go_simp;apply hK;clear hK K
   have hb3':Below wr.heap.size wr w3:=hba2.trans ((hbwa.trans (hb3.mono hbwa.size)).mono (by simp))
   obtain ⟨va3,vc3,rfl⟩:=hvb3.slice
   have hap3:=dfs_apart hrow hvb3 (by have:=up hwa;omega)
   have hrow3:=hrow.keep hb3'
   have hza:=up hwa
   iterate 1 (apply x_sT rfl rfl rfl;(focus intro u hc' hf';(try simp only [World.size_drew] at hc' hf');go_simp <;> rfl);intro K hK;go_simp;apply hK;clear hK K)
   refine x_make rfl rfl rfl (Exc.grows _ _) (hx) (fun b=>.slice (some ⟨b,0,none⟩) 1 1) (fun K hK=>?_)
   apply Exists.intro
   refine ⟨fun w' hw'=>?_,fun bb w5 hw5 hb5 hbo hNb hnb=>?_⟩
   ·obtain ⟨hc',hf'⟩:=hw'.cell
    try simp only [World.size_drew] at hc' hf'
    go_simp
    rfl
   go_simp
   refine hK _ _ _ ?_
   clear hK K
   have hz5:=hb5.size
   have hb35:Below wr.heap.size wr w5:=hb3'.trans (hb5.mono hb3'.size)
   refine x_defapp rfl rfl rfl hw5 (.tmp 12) (.tmp 24) rfl w.heap.size (.slice ao k cp) xs L[k] (.slice va3 L[k].body.length vc3) bb rfl rfl (fun j hj=>.inl ⟨by have:=(hlow j hj).2;simp;omega,hj⟩) (by have:=hb35.size;omega) hxl' (hrow3.keep hb5) ((hvb3.keep hb5).mono (by omega)) hap3 hbo ?_
   intro K hK w7 w8 v8 hw7 hb7 hrow8 hg8 hw8 hl8
   have hst:=CpSt.step2 HX.out hbel hwB hB hlt (hb35.trans (hb7.mono hb35.size)) hrow8 (fun j hj=>(hlow j hj).1) hg8
   go_simp
   refine hK _ _ _ ?_
   clear hK K
   obtain ⟨ao',cp',rfl⟩:=hrow8.shape (k+1) (by simp [HL.out])
   clear hrow8 hg8 hl8
   refine x_still rfl rfl rfl (fun K hK=>?_)
   apply Exists.intro
   refine ⟨fun w' hw'=>?_,?_⟩
   ·go_simp
    rfl
   go_simp
   refine hK _ _ _ ?_
   clear hK K
   refine x_nil ?_
   go_wp2
   go_roundw
   case rel=>exact ⟨k+1,by omega,by go_num,hst⟩
   case measure=>simp [intOf];omega
  ·go_wp2
   go_ret
   have hkk:k=L.length:=by omega
   subst hkk
   refine ⟨_,rfl,⟨xs,?_,hrow⟩,hbel⟩
   rw [HX.out,List.take_length]
end Go.Proofs.YtldhpaflmnlcaaaGreatDoor
/-
  The reference's AddDef and RemoveDef. Own work.
-/
namespace Go.Proofs.YtldhpaflmnlcaaaGreatDoor
open Go.RowKit
theorem lbIf_any (v:Value) (L:List Df) (w:World) (hv:DfsAt w v L) (hn:L.length≤1048576) (hs:∀ d ∈ L,DfOk d) :
  Calls Tryz.prog 126 #[v] w fun e w'=>e=.returned (.tuple #[(if good L then v else .slice none 0 0),.bool (good L)])∧Below w.heap.size w w':=by
 obtain ⟨a,cap,rfl⟩:∃ a cap,v=.slice a L.length cap:=by obtain ⟨a,cap,rfl,_⟩:=hv;exact ⟨a,cap,rfl⟩
 cases hg:good L
 all_goals
  have HG:=Lib.hid hg
  clear hg
  go_enter Tryz.func126,Tryz.ntmps126
  go_wp2_with (go_at_call 65;refine (lbGood_any _ L _ hv hn hs).mono ?_;rintro e w2 ⟨rfl,hb2⟩;rw [HG.out])
  go_ret2
  exact ⟨rfl,hb2⟩
theorem lbIf_yes (v:Value) (L:List Df) (w:World) (hv:DfsAt w v L) (hn:L.length≤1048576) (hs:∀ d ∈ L,DfOk d) (hg:good L=true) :
  Calls Tryz.prog 126 #[v] w fun e w'=>e=.returned (.tuple #[v,.bool true])∧Below w.heap.size w w' :=
 (lbIf_any v L w hv hn hs).mono fun e w' h=>by rw [if_pos hg,hg] at h;exact h
theorem lbIf_no (v:Value) (L:List Df) (w:World) (hv:DfsAt w v L) (hn:L.length≤1048576) (hs:∀ d ∈ L,DfOk d) (hg:good L=false) :
  Calls Tryz.prog 126 #[v] w fun e w'=>e=.returned (.tuple #[.slice none 0 0,.bool false])∧Below w.heap.size w w' :=
 (lbIf_any v L w hv hn hs).mono fun e w' h=>by rw [if_neg (by rw [hg];simp),hg] at h;exact h
def DfsLo (w:World) (B:Nat) (v:Value) (xs:List (Df × Value)):Prop:=w.ownsRow B 28 4 v xs.length (xs.flatMap dfCells)∧∀ x ∈ xs,NdsAt w x.2 x.1.body
theorem DfsLo.at {w:World} {B:Nat} {v:Value} {xs:List (Df × Value)} (h:DfsLo w B v xs):DfsAt w v (xs.map Prod.fst):=by
 have ho':w.ownsRow B 28 4 v (xs.map Prod.fst).length (xs.flatMap dfCells):=by rw [List.length_map];exact h.1
 refine owns_slat ho' _ fun i b o hi' hc=>⟨hi',?_⟩
 have hi:i<xs.length:=by simpa using hi'
 have g:∀ j,j<4 → w.cell? ⟨b,o+j,none⟩=(dfCells xs[i])[j]?:=fun j hj=>(hc j hj).trans (flat_get dfCells_len xs i j hi hj)
 rw [List.getElem_map]
 exact ⟨g 0 (by omega),g 1 (by omega),g 2 (by omega),xs[i].2,g 3 (by omega),h.2 _ (List.getElem_mem _)⟩
theorem DfsLo.keep {w w':World} {B:Nat} {v:Value} {xs:List (Df × Value)} (hb:Below w.heap.size w w') (h:DfsLo w B v xs):DfsLo w' B v xs :=
 ⟨owns_keep hb h.1,fun x hx=>(h.2 x hx).keep hb⟩
theorem DfsVals.keep {w w':World} {v:Value} {xs:List (Df × Value)} (hb:Below w.heap.size w w') (h:DfsVals w v xs):DfsVals w' v xs:=by
 refine ⟨SlAt.mono h.1 fun i b o ⟨hi,r⟩=>⟨hi,fun j hj=>?_⟩,fun x hx=>(h.2 x hx).keep hb⟩
 have h1:=r j hj
 have h2:(dfCells xs[i])[j]?=some ((dfCells xs[i])[j]'(by simpa [dfCells] using hj)):=List.getElem?_eq_getElem _
 rw [h2] at h1 ⊢
 exact cell_keep hb h1
end Go.Proofs.YtldhpaflmnlcaaaGreatDoor
/-
  The reference's AddDef. Own work.
-/
namespace Go.Proofs.YtldhpaflmnlcaaaGreatDoor
open Go.RowKit
theorem empty_row {w:World} {b B:Nat} (h:w.heap[b]?=some (.cells #[] 28)) (hB:B≤b):w.ownsRow B 28 4 (.slice (some ⟨b,0,none⟩) 0 0) 0 [] :=
 ⟨rfl,.inr ⟨b,0,#[],rfl,hB,h,Nat.le_refl _,by unfold maxLen;omega,rfl,rfl⟩⟩
theorem specAddDef_any (v vb:Value) (L:List Df) (d:Df) (w:World) (hv:DfsAt w v L) (hn:L.length≤1048576) (hs:∀ x ∈ L,DfOk x) (hvb:NdsAt w vb d.body) (hd:DfOk d) :
  Calls Tryz.prog 85 #[v,.agg #[.string d.name,.int .i64 d.inn,.int .i64 d.out,vb]] w (LibPost (addL L d) w):=by
 obtain ⟨a,cap,rfl⟩:∃ a cap,v=.slice a L.length cap:=by obtain ⟨a,cap,rfl,_⟩:=hv;exact ⟨a,cap,rfl⟩
 obtain ⟨ab,capb,rfl⟩:=hvb.slice
 cases hg:good L
 ·have HA:Hid (addL L d=none):=(show addL L d=none by simp [addL,hg])
  have HG:=Lib.hid hg
  clear hg
  go_enter Tryz.func85,Tryz.ntmps85
  go_wp2_with (go_at_call 65;refine (lbGood_any _ L _ (hv.keep (alloc_below _ _)) hn hs).mono ?_;rintro e w2 ⟨rfl,hb2⟩;rw [HG.out])
  go_ret2
  exact ⟨_,by rw [HA.out];rfl,by rw [HA.out];exact dfsOwn_nil _ _,(alloc_below _ _).trans (hb2.mono (by simp))⟩
 ·have hA:addL L d=okL (L ++ [d]):=by simp [addL,hg]
  have HA:=Lib.hid hA
  have HG:=Lib.hid hg
  have hlen12:=good_len hg
  clear hg hA
  go_enter Tryz.func85,Tryz.ntmps85
  go_wp2_with (go_at_call 65;refine (lbGood_any _ L _ (hv.keep (alloc_below _ _)) hn hs).mono ?_;rintro e w2 ⟨rfl,hb2⟩;rw [HG.out];obtain ⟨hc2,hf2,hs2⟩:=bcell hb2)
  have hbw:Below w.heap.size w w2:=(alloc_below _ _).trans (hb2.mono (by simp))
  have hz2:w.heap.size<w2.heap.size:=by have:=hb2.size;simp at this;omega
  have hvw:=hv.keep hbw
  have hvbw:=hvb.keep hbw
  obtain ⟨xs,hxs,hvals⟩:=hvw.vals
  have hxl:xs.length=L.length:=by have:=congrArg List.length hxs;simpa using this
  obtain ⟨i0,hi,hz0,hz1,hzb⟩:=info_parts info28
  have d0:w2.cell? ⟨w.heap.size,0,none⟩=some (.string d.name):=by rw [hc2 _ _ (by simp)];simp
  have d1:w2.cell? ⟨w.heap.size,1,none⟩=some (.int .i64 d.inn):=by rw [hc2 _ _ (by simp)];simp
  have d2:w2.cell? ⟨w.heap.size,2,none⟩=some (.int .i64 d.out):=by rw [hc2 _ _ (by simp)];simp
  have d3:w2.cell? ⟨w.heap.size,3,none⟩=some (.slice ab d.body.length capb):=by rw [hc2 _ _ (by simp)];simp
  clear hc2 hf2 hs2 hb2
  have up:∀ {w':World},Exc NoT w2.drew w' → Below w2.heap.size w2 w':=fun h=>(Below.refl w2.heap.size w2).drew.trans (h.toBelow.mono (by simp))
  have hokd:∀ x ∈ L ++ [d],DfOk x:=by
   intro x hx;rcases List.mem_append.1 hx with hx|hx
   ·exact hs x hx
   ·simp at hx;subst hx;exact hd
  have hokb:∀ x ∈ L ++ [d],x.body.length≤1048576:=fun x hx=>(hokd x hx).2.2
  have hlen:(L ++ [d]).length≤1048576:=by simp;omega
  have h1c:=dfCells_one' hvals.2
  have HXL:=Lib.hid hxl
  clear hxl
  refine region_acts (C:=Exc (NoT) _) 6 [0,1,2,3,4,5,6,7,8,9,10,11] (by kernel_rfl) (by kernel_rfl) (Exc.grows _ _) (Exc.refl _ _) ?_
  refine x_make rfl rfl rfl (Exc.grows _ _) (Exc.refl _ _) (fun b=>.slice (some ⟨b,0,none⟩) 0 0) (fun K hK=>?_)
  apply Exists.intro
  refine ⟨fun w' hw'=>?_,fun b0 w3 hw3 hb3 hbo3 hN3 hn3=>?_⟩
  ·obtain ⟨hc',hf'⟩:=hw'.cell
   try simp only [World.size_drew] at hc' hf'
   go_simp
   rfl
  go_simp
  refine hK _ _ _ ?_
  clear hK K
  iterate 1 (apply x_st rfl rfl rfl;(focus intro u hc' hf';go_simp <;> rfl);intro K hK;go_simp;apply hK;clear hK K)
  refine x_src rfl rfl rfl hw3 (.tmp 9) (.tmp 10) 31 rfl w.heap.size 28 i0 _ 4 56 Tryz.underlying31 hi hz0 hz1 hzb rfl (by decide) (.slice (some ⟨b0,0,none⟩) 0 0) 0 [] rfl (fun k hk=>.inr ⟨by simp [Value.ownBlock] at hk;subst hk;exact hN3,by simp [Value.ownBlock] at hk;subst hk;simp⟩) (.slice a L.length cap) L.length (xs.flatMap dfCells) rfl h1c (by unfold maxLen;omega) (by omega) (by have:=(up hw3).size;omega) ?_ ?_
  ·intro w4 hw4 hb4
   refine ⟨empty_row ((hb4.block b0 (made_cell hbo3).2.2).trans hbo3) (by simp at hN3;omega),?_⟩
   have:=(hvals.keep (up hw4)).src
   rw [HXL.out] at this
   exact this
  intro K hK w4 w5 v5 hw4 hb4 hown5 hg5 hw5 hl5
  go_simp
  refine hK _ _ _ ?_
  clear hK K
  iterate 1 (apply x_st rfl rfl rfl;(focus intro u hc' hf';go_simp <;> rfl);intro K hK;go_simp;apply hK;clear hK K)
  have ho5:w5.ownsRow w.heap.size 28 4 v5 L.length (xs.flatMap dfCells):=by simpa using hown5
  refine x_make rfl rfl rfl (Exc.grows _ _) (hw5) (fun b=>.slice (some ⟨b,0,none⟩) 1 1) (fun K hK=>?_)
  apply Exists.intro
  refine ⟨fun w' hw'=>?_,fun b1 w6 hw6 hb6 hbo6 hN6 hn6=>?_⟩
  ·obtain ⟨hc',hf'⟩:=hw'.cell
   try simp only [World.size_drew] at hc' hf'
   go_simp
   rfl
  go_simp
  refine hK _ _ _ ?_
  clear hK K
  have hz45:=hg5.size
  have hz34:=hb4.size
  have hz23:=hb3.size
  have hN5:∀ k,v5.ownBlock=some k → w2.drew.heap.size≤k:=fun k hk=>by
   rcases hl5 with h|h
   ·rw [h] at hk;simp [Value.ownBlock] at hk;subst hk;exact hN3
   ·rw [h] at hk;obtain rfl:=Option.some.inj hk;omega
  have hM5:∀ k,v5.ownBlock=some k → k=b0∨(w4.heap.size≤k∧k<w5.heap.size):=fun k hk=>by
   rcases hl5 with h|h
   ·rw [h] at hk;simp [Value.ownBlock] at hk;exact .inl hk.symm
   ·have hlt:=(World.ownsRow.lt ho5 k hk).2
    rw [h] at hk;obtain rfl:=Option.some.inj hk;exact .inr ⟨Nat.le_refl _,hlt⟩
  have hdc:∀ u ∈ dfCells (d,.slice ab d.body.length capb),u.oneCell'=true:=by
   intro u hu;simp [dfCells] at hu;rcases hu with rfl|rfl|rfl|rfl <;> rfl
  refine x_src rfl rfl rfl hw6 (.tmp 11) (.tmp 13) 31 rfl w.heap.size 28 i0 _ 4 56 Tryz.underlying31 hi hz0 hz1 hzb rfl (by decide) v5 L.length (xs.flatMap dfCells) rfl (fun k hk=>.inr ⟨hN5 k hk,by have:=hM5 k hk;simp [more];omega⟩) (.slice (some ⟨b1,0,none⟩) 1 1) 1 (dfCells (d,.slice ab d.body.length capb)) rfl hdc (by unfold maxLen;omega) (by omega) (by have:=(up hw6).size;omega) ?_ ?_
  ·intro w7 hw7 hb7
   refine ⟨owns_keep ((hb6.trans (hb7.mono hb6.size))) ho5,rfl,.inr ⟨_,1,rfl,?_⟩⟩
   obtain ⟨m0,_,_⟩:=made_cell ((hb7.block b1 (made_cell hbo6).2.2).trans hbo6)
   intro j u hj
   match j,hj with
   | 0,hj=>simp [dfCells] at hj;subst hj;simp [Addr.add,m0]
   | 1,hj=>simp [dfCells] at hj;subst hj;simp [Addr.add,m0]
   | 2,hj=>simp [dfCells] at hj;subst hj;simp [Addr.add,m0]
   | 3,hj=>simp [dfCells] at hj;subst hj;simp [Addr.add,m0]
  intro K hK w7 w8 v8 hw7 hb7 hown8 hg8 hw8 hl8
  have hlo8:DfsLo w8 w.heap.size v8 (xs ++ [(d,.slice ab d.body.length capb)]):=by
   refine ⟨by rw [List.length_append,HXL.out,List.flatMap_append];simpa using hown8,fun x hx=>?_⟩
   rcases List.mem_append.1 hx with hx|hx
   ·exact (hvals.2 x hx).keep (up hw8)
   ·simp at hx;subst hx;exact hvbw.keep (up hw8)
  have hat8:DfsAt w8 v8 (L ++ [d]):=by have:=hlo8.at;rwa [List.map_append,hxs] at this
  obtain ⟨a8,c8,rfl⟩:=owns_shape' hown8
  go_simp
  refine hK _ _ _ ?_
  clear hK K
  refine x_call rfl rfl rfl (Exc.grows _ _) (hw8) 127 (fun K hK=>?_);apply Exists.intro;refine ⟨fun w' hw'=>?_,fun wc hwc hbwc=>?_⟩;(focus go_simp;rfl);refine (lbOwn_any _ (L ++ [d]) _ (hat8.keep hbwc) hlen hokb).mono ?_;rintro e w9 ⟨v9,rfl,ho9,hb9⟩;refine ⟨_,rfl,hb9,fun hx=>?_⟩;go_simp;apply hK;clear hK K
  have hzc:=(up hwc).size
  cases hg2:good (L ++ [d])
  ·have HO:Hid (okL (L ++ [d])=none):=(show okL _=none by unfold okL;rw [hg2];rfl)
   have HG2:=Lib.hid hg2
   clear hg2
   refine x_call rfl rfl rfl (Exc.grows _ _) (hx) 126 (fun K hK=>?_);apply Exists.intro;refine ⟨fun w' hw'=>?_,fun we hwe hbwe=>?_⟩;(focus go_simp;rfl);refine (lbIf_no _ (L ++ [d]) _ (ho9.at.keep hbwe) hlen hokd HG2.out).mono ?_;rintro e w10 ⟨rfl,hb10⟩;refine ⟨_,rfl,hb10,fun hx=>?_⟩;go_simp;apply hK;clear hK K
   iterate 4 (apply x_st rfl rfl rfl;(focus intro u hc' hf';go_simp <;> rfl);intro K hK;go_simp;apply hK;clear hK K)
   refine x_nil ?_
   go_wp2
   go_ret2
   refine ⟨_,by rw [HA.out,HO.out];rfl,by rw [HA.out,HO.out];exact dfsOwn_nil _ _,hbw.trans ((up hx).mono (by omega))⟩
  ·have HO:Hid (okL (L ++ [d])=some (L ++ [d])):=(show okL _=some _ by unfold okL;rw [hg2];rfl)
   have HG2:=Lib.hid hg2
   clear hg2
   refine x_call rfl rfl rfl (Exc.grows _ _) (hx) 126 (fun K hK=>?_);apply Exists.intro;refine ⟨fun w' hw'=>?_,fun we hwe hbwe=>?_⟩;(focus go_simp;rfl);refine (lbIf_yes _ (L ++ [d]) _ (ho9.at.keep hbwe) hlen hokd HG2.out).mono ?_;rintro e w10 ⟨rfl,hb10⟩;refine ⟨_,rfl,hb10,fun hx=>?_⟩;go_simp;apply hK;clear hK K
   iterate 4 (apply x_st rfl rfl rfl;(focus intro u hc' hf';go_simp <;> rfl);intro K hK;go_simp;apply hK;clear hK K)
   refine x_nil ?_
   go_wp2
   go_ret2
   refine ⟨_,by rw [HA.out,HO.out];rfl,?_,hbw.trans ((up hx).mono (by omega))⟩
   rw [HA.out,HO.out]
   exact ((ho9.mono (by omega)).keep (hbwe.trans (hb10.mono hbwe.size)))
end Go.Proofs.YtldhpaflmnlcaaaGreatDoor
/-
  The reference's RemoveDef. Own work.
-/
namespace Go.Proofs.YtldhpaflmnlcaaaGreatDoor
open Go.RowKit
theorem addr_add (b o j:Nat):(⟨b,o,none⟩:Addr).add j=⟨b,o+j,none⟩:=by
 unfold Addr.add
 split
 ·rename_i h0;subst h0;rfl
 ·rfl
theorem specRemoveDef_any (v:Value) (L:List Df) (s:ByteArray) (w:World) (hv:DfsAt w v L) (hn:L.length≤1048576) (hs:∀ x ∈ L,DfOk x) :
  Calls Tryz.prog 87 #[v,.string s] w (LibPost (remL L s) w):=by
 obtain ⟨a,cap,rfl⟩:∃ a cap,v=.slice a L.length cap:=by obtain ⟨a,cap,rfl,_⟩:=hv;exact ⟨a,cap,rfl⟩
 have hff:=findFrom_cases s L 0
 cases hg:good L
 ·have HA:Hid (remL L s=none):=(show remL L s=none by simp [remL,hg])
  have HG:=Lib.hid hg
  clear hg hff
  go_enter Tryz.func87,Tryz.ntmps87
  go_wp2_with (first|(go_at_call 101;refine (lbFind_any _ L _ _ hv hn).mono ?_;rintro e w2 ⟨rfl,hb2⟩)|(go_at_call 65;refine (lbGood_any _ L _ (hv.keep hb2) hn hs).mono ?_;rintro e w3 ⟨rfl,hb3⟩;rw [HG.out]))
  go_ret2
  exact ⟨_,by rw [HA.out];rfl,by rw [HA.out];exact dfsOwn_nil _ _,hb2.trans (hb3.mono hb2.size)⟩
 ·rcases hff with ⟨f1,f2⟩|⟨i,hi,f1,f2⟩
  ·have HA:Hid (remL L s=none):=(show remL L s=none by simp [remL,f1])
   have HG:=Lib.hid hg
   have HF:=Lib.hid f1
   clear hg f1 f2
   go_enter Tryz.func87,Tryz.ntmps87
   go_wp2_with (first|(go_at_call 101;refine (lbFind_any _ L _ _ hv hn).mono ?_;rintro e w2 ⟨rfl,hb2⟩;rw [HF.out])|(go_at_call 65;refine (lbGood_any _ L _ (hv.keep hb2) hn hs).mono ?_;rintro e w3 ⟨rfl,hb3⟩;rw [HG.out]))
   go_ret2
   exact ⟨_,by rw [HA.out];rfl,by rw [HA.out];exact dfsOwn_nil _ _,hb2.trans (hb3.mono hb2.size)⟩
  ·rw [Nat.zero_add] at f1
   have HA:Hid (remL L s=okL (L.eraseIdx i)):=(show remL L s=_ by simp [remL,f1,hg])
   have hoke:∀ x ∈ L.eraseIdx i,DfOk x:=fun x hx=>hs x (List.mem_of_mem_eraseIdx hx)
   have hokb:∀ x ∈ L.eraseIdx i,x.body.length≤1048576:=fun x hx=>(hoke x hx).2.2
   have hlen:(L.eraseIdx i).length≤1048576:=by have:=List.length_eraseIdx_le L i;omega
   have HG:=Lib.hid hg
   have HF:=Lib.hid f1
   have hlen12:=good_len hg
   have gi:¬ ((i:Int)<0):=by omega
   have hiB:(i:Int)≤1048576:=by omega
   clear hg f1 f2
   go_enter Tryz.func87,Tryz.ntmps87
   go_wp2_with (first|(go_at_call 101;refine (lbFind_any _ L _ _ hv hn).mono ?_;rintro e w2 ⟨rfl,hb2⟩;rw [HF.out])|(go_at_call 65;refine (lbGood_any _ L _ (hv.keep hb2) hn hs).mono ?_;rintro e w3 ⟨rfl,hb3⟩;rw [HG.out];have hb3':=hb2.trans (hb3.mono hb2.size)))
   obtain ⟨xs,hxs,hvals⟩:=(hv.keep hb3').vals
   have hxl:xs.length=L.length:=by have:=congrArg List.length hxs;simpa using this
   obtain ⟨i0,hi0,hz0,hz1,hzb⟩:=info_parts info28
   obtain ⟨ad,hcells⟩:∃ ad:Addr,a=some ad∧∃ b o,ad=⟨b,o,none⟩∧b<w3.heap.size∧∀ j u,(xs.flatMap dfCells)[j]?=some u → w3.cell? ⟨b,o+j,none⟩=some u:=by
    obtain ⟨hl,hh⟩:=hvals.src
    rcases hh with ⟨h0,_⟩|⟨ad,c,he,hc⟩
    ·omega
    ·simp only [Value.slice.injEq] at he
     obtain ⟨⟨a',c',he',hc',hat⟩,_⟩:=hvals
     simp only [Value.slice.injEq] at he'
     obtain ⟨b,o,h1,hi',h2⟩:=hat 0 (by omega)
     rw [he'.1,h1] at he
     have had:ad=⟨b,o,none⟩:=(Option.some.inj he.1).symm
     subst had
     refine ⟨_,by rw [he'.1,h1],b,o,rfl,?_,fun j u hj=>?_⟩
     ·have:=h2 0 (by omega)
      exact cell_lt (v:=.string xs[0].1.name) (by simpa [dfCells] using this)
     ·have:=hc j u hj
      have hadd:=addr_add b o j
      rwa [hadd] at this
   obtain ⟨rfl,b,o,rfl,hbz,hcells⟩:=hcells
   have hc:L.length≤cap:=by obtain ⟨a',c',he',hc',_⟩:=hv;simp only [Value.slice.injEq] at he';rw [he'.2.2];exact hc'
   have e1:IntKind.i64.wrap ((i:Int)+1)=(i:Int)+1:=IntWalk.i64_in _ (by omega)
   have e2:((i:Int)+1).toNat=i+1:=by omega
   have e3:(i:Int)≤cap:=by omega
   have e4:(i:Int)+1≤L.length:=by omega
   have h1c:=dfCells_one' hvals.2
   have up:∀ {w':World},Exc NoT w3.drew w' → Below w3.heap.size w3 w':=fun h=>(Below.refl w3.heap.size w3).drew.trans (h.toBelow.mono (by simp))
   by_cases hcap:cap=i+1
   ·have hLi0:L.length=i+1:=by omega
    have hLi:L.length≤i+1:=by omega
    clear hLi0
    have e5:(i:Int)≤(i:Int)+1:=by omega
    subst hcap
    refine region_acts (C:=Exc (NoT) _) 6 [0,1,2,3,4,5,6,7,8,9,10,11,12,13,14,15] (by kernel_rfl) (by kernel_rfl) (Exc.grows _ _) (Exc.refl _ _) ?_
    refine x_make rfl rfl rfl (Exc.grows _ _) (Exc.refl _ _) (fun b=>.slice (some ⟨b,0,none⟩) 0 0) (fun K hK=>?_)
    apply Exists.intro
    refine ⟨fun w' hw'=>?_,fun b0 w4 hw4 hb4 hbo4 hN4 hn4=>?_⟩
    ·obtain ⟨hc',hf'⟩:=hw'.cell
     try simp only [World.size_drew] at hc' hf'
     go_simp
     rfl
    go_simp
    refine hK _ _ _ ?_
    clear hK K
    iterate 3 (apply x_st rfl rfl rfl;(focus intro u hc' hf';go_simp <;> rfl);intro K hK;go_simp;apply hK;clear hK K)
    refine x_src rfl rfl rfl hw4 (.tmp 17) (.tmp 20) 31 rfl w.heap.size 28 i0 _ 4 56 Tryz.underlying31 hi0 hz0 hz1 hzb rfl (by decide) (.slice (some ⟨b0,0,none⟩) 0 0) 0 [] rfl (fun k hk=>.inr ⟨by simp [Value.ownBlock] at hk;subst hk;exact hN4,by simp [Value.ownBlock] at hk;subst hk;simp⟩) (.slice (some ⟨b,o,none⟩) i (i+1)) i ((xs.take i).flatMap dfCells) rfl (fun u hu=>h1c u (by rw [← List.take_append_drop i xs,List.flatMap_append];exact List.mem_append_left _ hu)) (by unfold maxLen;omega) (by omega) (by have:=(up hw4).size;have:=hb3'.size;omega) ?_ ?_
    ·intro w5 hw5 hb5
     refine ⟨empty_row ((hb5.block b0 (made_cell hbo4).2.2).trans hbo4) (by have:=hb3'.size;simp at hN4;omega),?_⟩
     refine ⟨by rw [flat_length dfCells_len,List.length_take,hxl];omega,.inr ⟨_,i+1,rfl,fun j u hj=>?_⟩⟩
     have hadd:=addr_add b o j
     rw [hadd]
     refine cell_keep (up hw5) (hcells j u ?_)
     rw [← List.take_append_drop i xs,List.flatMap_append]
     have hlt:j<((xs.take i).flatMap dfCells).length:=by
      rcases Nat.lt_or_ge j ((xs.take i).flatMap dfCells).length with h|h
      ·exact h
      ·rw [List.getElem?_eq_none h] at hj;cases hj
     rw [List.getElem?_append_left hlt]
     exact hj
    intro K hK w5 w6 v6 hw5 hb5 hown6 hg6 hw6 hl6
    go_simp
    refine hK _ _ _ ?_
    clear hK K
    have ho6:w6.ownsRow w.heap.size 28 4 v6 i ((xs.take i).flatMap dfCells):=by simpa using hown6
    iterate 4 (apply x_st rfl rfl rfl;(focus intro u hc' hf';go_simp <;> rfl);intro K hK;go_simp;apply hK;clear hK K)
    have hz56:=hg6.size
    have hz45:=hb5.size
    have hN6:∀ k,v6.ownBlock=some k → w3.drew.heap.size≤k:=fun k hk=>by
     rcases hl6 with h|h
     ·rw [h] at hk;simp [Value.ownBlock] at hk;subst hk;exact hN4
     ·rw [h] at hk;obtain rfl:=Option.some.inj hk;have:=hb4.size;omega
    have hM6:∀ k,v6.ownBlock=some k → k=b0∨(w5.heap.size≤k∧k<w6.heap.size):=fun k hk=>by
     rcases hl6 with h|h
     ·rw [h] at hk;simp [Value.ownBlock] at hk;exact .inl hk.symm
     ·have hlt:=(World.ownsRow.lt ho6 k hk).2
      rw [h] at hk;obtain rfl:=Option.some.inj hk;exact .inr ⟨Nat.le_refl _,hlt⟩
    refine x_src rfl rfl rfl hw6 (.tmp 21) (.tmp 25) 31 rfl w.heap.size 28 i0 _ 4 56 Tryz.underlying31 hi0 hz0 hz1 hzb rfl (by decide) v6 i ((xs.take i).flatMap dfCells) rfl (fun k hk=>.inr ⟨hN6 k hk,by have:=hM6 k hk;simp [more];omega⟩) (.slice (some ⟨b,o,none⟩) 0 0) (0) ((xs.drop (i+1)).flatMap dfCells) rfl (fun u hu=>h1c u (by rw [← List.take_append_drop (i+1) xs,List.flatMap_append];exact List.mem_append_right _ hu)) (by unfold maxLen;omega) (by omega) (by have:=(up hw6).size;have:=hb3'.size;omega) ?_ ?_
    ·intro w7 hw7 hb7
     refine ⟨owns_keep hb7 ho6,?_⟩
     have hd0:(xs.drop (i+1)).flatMap dfCells=[]:=by rw [List.drop_eq_nil_of_le (by omega)];rfl
     rw [hd0]
     exact ⟨rfl,.inr ⟨_,0,rfl,by simp⟩⟩
    intro K hK w7 w8 v8 hw7 hb7 hown8 hg8 hw8 hl8
    have hlo8:DfsLo w8 w.heap.size v8 (xs.eraseIdx i):=by
     refine ⟨?_,fun x hx=>(hvals.2 x (List.mem_of_mem_eraseIdx hx)).keep (up hw8)⟩
     rw [show (xs.eraseIdx i).length=i+(0) by rw [List.length_eraseIdx];simp [hxl,hi];omega,eraseIdx_eq,List.flatMap_append]
     exact hown8
    have hat8:DfsAt w8 v8 (L.eraseIdx i):=by have:=hlo8.at;rwa [map_eraseIdx',hxs] at this
    obtain ⟨a8,c8,rfl⟩:=owns_shape' hown8
    go_simp
    refine hK _ _ _ ?_
    clear hK K
    refine x_call rfl rfl rfl (Exc.grows _ _) (hw8) 127 (fun K hK=>?_);apply Exists.intro;refine ⟨fun w' hw'=>?_,fun wc hwc hbwc=>?_⟩;(focus go_simp;rfl);refine (lbOwn_any _ (L.eraseIdx i) _ (hat8.keep hbwc) hlen hokb).mono ?_;rintro e w9 ⟨v9,rfl,ho9,hb9⟩;refine ⟨_,rfl,hb9,fun hx=>?_⟩;go_simp;apply hK;clear hK K
    have hzc:=(up hwc).size
    have hzw3:=hb3'.size
    cases hg2:good (L.eraseIdx i)
    ·have HO:Hid (okL (L.eraseIdx i)=none):=(show okL _=none by unfold okL;rw [hg2];rfl)
     have HG2:=Lib.hid hg2
     clear hg2
     refine x_call rfl rfl rfl (Exc.grows _ _) (hx) 126 (fun K hK=>?_);apply Exists.intro;refine ⟨fun w' hw'=>?_,fun we hwe hbwe=>?_⟩;(focus go_simp;rfl);refine (lbIf_no _ (L.eraseIdx i) _ (ho9.at.keep hbwe) hlen hoke HG2.out).mono ?_;rintro e w10 ⟨rfl,hb10⟩;refine ⟨_,rfl,hb10,fun hx=>?_⟩;go_simp;apply hK;clear hK K
     iterate 4 (apply x_st rfl rfl rfl;(focus intro u hc' hf';go_simp <;> rfl);intro K hK;go_simp;apply hK;clear hK K)
     refine x_nil ?_
     go_wp2
     go_ret2
     refine ⟨_,by rw [HA.out,HO.out];rfl,by rw [HA.out,HO.out];exact dfsOwn_nil _ _,hb3'.trans ((up hx).mono (by omega))⟩
    ·have HO:Hid (okL (L.eraseIdx i)=some (L.eraseIdx i)):=(show okL _=some _ by unfold okL;rw [hg2];rfl)
     have HG2:=Lib.hid hg2
     clear hg2
     refine x_call rfl rfl rfl (Exc.grows _ _) (hx) 126 (fun K hK=>?_);apply Exists.intro;refine ⟨fun w' hw'=>?_,fun we hwe hbwe=>?_⟩;(focus go_simp;rfl);refine (lbIf_yes _ (L.eraseIdx i) _ (ho9.at.keep hbwe) hlen hoke HG2.out).mono ?_;rintro e w10 ⟨rfl,hb10⟩;refine ⟨_,rfl,hb10,fun hx=>?_⟩;go_simp;apply hK;clear hK K
     iterate 4 (apply x_st rfl rfl rfl;(focus intro u hc' hf';go_simp <;> rfl);intro K hK;go_simp;apply hK;clear hK K)
     refine x_nil ?_
     go_wp2
     go_ret2
     refine ⟨_,by rw [HA.out,HO.out];rfl,?_,hb3'.trans ((up hx).mono (by omega))⟩
     rw [HA.out,HO.out]
     exact ((ho9.mono (by omega)).keep (hbwe.trans (hb10.mono hbwe.size)))
   ·have hcap':¬ i+1=cap:=fun h=>hcap h.symm
    refine region_acts (C:=Exc (NoT) _) 6 [0,1,2,3,4,5,6,7,8,9,10,11,12,13,14,15] (by kernel_rfl) (by kernel_rfl) (Exc.grows _ _) (Exc.refl _ _) ?_
    refine x_make rfl rfl rfl (Exc.grows _ _) (Exc.refl _ _) (fun b=>.slice (some ⟨b,0,none⟩) 0 0) (fun K hK=>?_)
    apply Exists.intro
    refine ⟨fun w' hw'=>?_,fun b0 w4 hw4 hb4 hbo4 hN4 hn4=>?_⟩
    ·obtain ⟨hc',hf'⟩:=hw'.cell
     try simp only [World.size_drew] at hc' hf'
     go_simp
     rfl
    go_simp
    refine hK _ _ _ ?_
    clear hK K
    iterate 3 (apply x_st rfl rfl rfl;(focus intro u hc' hf';go_simp <;> rfl);intro K hK;go_simp;apply hK;clear hK K)
    refine x_src rfl rfl rfl hw4 (.tmp 17) (.tmp 20) 31 rfl w.heap.size 28 i0 _ 4 56 Tryz.underlying31 hi0 hz0 hz1 hzb rfl (by decide) (.slice (some ⟨b0,0,none⟩) 0 0) 0 [] rfl (fun k hk=>.inr ⟨by simp [Value.ownBlock] at hk;subst hk;exact hN4,by simp [Value.ownBlock] at hk;subst hk;simp⟩) (.slice (some ⟨b,o,none⟩) i cap) i ((xs.take i).flatMap dfCells) rfl (fun u hu=>h1c u (by rw [← List.take_append_drop i xs,List.flatMap_append];exact List.mem_append_left _ hu)) (by unfold maxLen;omega) (by omega) (by have:=(up hw4).size;have:=hb3'.size;omega) ?_ ?_
    ·intro w5 hw5 hb5
     refine ⟨empty_row ((hb5.block b0 (made_cell hbo4).2.2).trans hbo4) (by have:=hb3'.size;simp at hN4;omega),?_⟩
     refine ⟨by rw [flat_length dfCells_len,List.length_take,hxl];omega,.inr ⟨_,cap,rfl,fun j u hj=>?_⟩⟩
     have hadd:=addr_add b o j
     rw [hadd]
     refine cell_keep (up hw5) (hcells j u ?_)
     rw [← List.take_append_drop i xs,List.flatMap_append]
     have hlt:j<((xs.take i).flatMap dfCells).length:=by
      rcases Nat.lt_or_ge j ((xs.take i).flatMap dfCells).length with h|h
      ·exact h
      ·rw [List.getElem?_eq_none h] at hj;cases hj
     rw [List.getElem?_append_left hlt]
     exact hj
    intro K hK w5 w6 v6 hw5 hb5 hown6 hg6 hw6 hl6
    go_simp
    refine hK _ _ _ ?_
    clear hK K
    have ho6:w6.ownsRow w.heap.size 28 4 v6 i ((xs.take i).flatMap dfCells):=by simpa using hown6
    iterate 4 (apply x_st rfl rfl rfl;(focus intro u hc' hf';go_simp <;> rfl);intro K hK;go_simp;apply hK;clear hK K)
    have hz56:=hg6.size
    have hz45:=hb5.size
    have hN6:∀ k,v6.ownBlock=some k → w3.drew.heap.size≤k:=fun k hk=>by
     rcases hl6 with h|h
     ·rw [h] at hk;simp [Value.ownBlock] at hk;subst hk;exact hN4
     ·rw [h] at hk;obtain rfl:=Option.some.inj hk;have:=hb4.size;omega
    have hM6:∀ k,v6.ownBlock=some k → k=b0∨(w5.heap.size≤k∧k<w6.heap.size):=fun k hk=>by
     rcases hl6 with h|h
     ·rw [h] at hk;simp [Value.ownBlock] at hk;exact .inl hk.symm
     ·have hlt:=(World.ownsRow.lt ho6 k hk).2
      rw [h] at hk;obtain rfl:=Option.some.inj hk;exact .inr ⟨Nat.le_refl _,hlt⟩
    refine x_src rfl rfl rfl hw6 (.tmp 21) (.tmp 25) 31 rfl w.heap.size 28 i0 _ 4 56 Tryz.underlying31 hi0 hz0 hz1 hzb rfl (by decide) v6 i ((xs.take i).flatMap dfCells) rfl (fun k hk=>.inr ⟨hN6 k hk,by have:=hM6 k hk;simp [more];omega⟩) (.slice (some ⟨b,o+(i+1) * 4,none⟩) (L.length - (i+1)) (cap - (i+1))) (L.length - (i+1)) ((xs.drop (i+1)).flatMap dfCells) rfl (fun u hu=>h1c u (by rw [← List.take_append_drop (i+1) xs,List.flatMap_append];exact List.mem_append_right _ hu)) (by unfold maxLen;omega) (by omega) (by have:=(up hw6).size;have:=hb3'.size;omega) ?_ ?_
    ·intro w7 hw7 hb7
     refine ⟨owns_keep hb7 ho6,?_⟩
     refine ⟨by rw [flat_length dfCells_len,List.length_drop,hxl],.inr ⟨_,_,rfl,fun j u hj=>?_⟩⟩
     have hadd:=addr_add b (o+(i+1) * 4) j
     rw [Nat.add_assoc] at hadd
     rw [hadd]
     refine cell_keep (up hw7) (hcells _ u ?_)
     rw [← List.take_append_drop (i+1) xs,List.flatMap_append]
     have hl:((xs.take (i+1)).flatMap dfCells).length=(i+1) * 4:=by rw [flat_length dfCells_len,List.length_take,hxl];congr 1;omega
     rw [List.getElem?_append_right (by omega),hl,Nat.add_sub_cancel_left]
     exact hj
    intro K hK w7 w8 v8 hw7 hb7 hown8 hg8 hw8 hl8
    have hlo8:DfsLo w8 w.heap.size v8 (xs.eraseIdx i):=by
     refine ⟨?_,fun x hx=>(hvals.2 x (List.mem_of_mem_eraseIdx hx)).keep (up hw8)⟩
     rw [show (xs.eraseIdx i).length=i+(L.length - (i+1)) by rw [List.length_eraseIdx];simp [hxl,hi];omega,eraseIdx_eq,List.flatMap_append]
     exact hown8
    have hat8:DfsAt w8 v8 (L.eraseIdx i):=by have:=hlo8.at;rwa [map_eraseIdx',hxs] at this
    obtain ⟨a8,c8,rfl⟩:=owns_shape' hown8
    go_simp
    refine hK _ _ _ ?_
    clear hK K
    refine x_call rfl rfl rfl (Exc.grows _ _) (hw8) 127 (fun K hK=>?_);apply Exists.intro;refine ⟨fun w' hw'=>?_,fun wc hwc hbwc=>?_⟩;(focus go_simp;rfl);refine (lbOwn_any _ (L.eraseIdx i) _ (hat8.keep hbwc) hlen hokb).mono ?_;rintro e w9 ⟨v9,rfl,ho9,hb9⟩;refine ⟨_,rfl,hb9,fun hx=>?_⟩;go_simp;apply hK;clear hK K
    have hzc:=(up hwc).size
    have hzw3:=hb3'.size
    cases hg2:good (L.eraseIdx i)
    ·have HO:Hid (okL (L.eraseIdx i)=none):=(show okL _=none by unfold okL;rw [hg2];rfl)
     have HG2:=Lib.hid hg2
     clear hg2
     refine x_call rfl rfl rfl (Exc.grows _ _) (hx) 126 (fun K hK=>?_);apply Exists.intro;refine ⟨fun w' hw'=>?_,fun we hwe hbwe=>?_⟩;(focus go_simp;rfl);refine (lbIf_no _ (L.eraseIdx i) _ (ho9.at.keep hbwe) hlen hoke HG2.out).mono ?_;rintro e w10 ⟨rfl,hb10⟩;refine ⟨_,rfl,hb10,fun hx=>?_⟩;go_simp;apply hK;clear hK K
     iterate 4 (apply x_st rfl rfl rfl;(focus intro u hc' hf';go_simp <;> rfl);intro K hK;go_simp;apply hK;clear hK K)
     refine x_nil ?_
     go_wp2
     go_ret2
     refine ⟨_,by rw [HA.out,HO.out];rfl,by rw [HA.out,HO.out];exact dfsOwn_nil _ _,hb3'.trans ((up hx).mono (by omega))⟩
    ·have HO:Hid (okL (L.eraseIdx i)=some (L.eraseIdx i)):=(show okL _=some _ by unfold okL;rw [hg2];rfl)
     have HG2:=Lib.hid hg2
     clear hg2
     refine x_call rfl rfl rfl (Exc.grows _ _) (hx) 126 (fun K hK=>?_);apply Exists.intro;refine ⟨fun w' hw'=>?_,fun we hwe hbwe=>?_⟩;(focus go_simp;rfl);refine (lbIf_yes _ (L.eraseIdx i) _ (ho9.at.keep hbwe) hlen hoke HG2.out).mono ?_;rintro e w10 ⟨rfl,hb10⟩;refine ⟨_,rfl,hb10,fun hx=>?_⟩;go_simp;apply hK;clear hK K
     iterate 4 (apply x_st rfl rfl rfl;(focus intro u hc' hf';go_simp <;> rfl);intro K hK;go_simp;apply hK;clear hK K)
     refine x_nil ?_
     go_wp2
     go_ret2
     refine ⟨_,by rw [HA.out,HO.out];rfl,?_,hb3'.trans ((up hx).mono (by omega))⟩
     rw [HA.out,HO.out]
     exact ((ho9.mono (by omega)).keep (hbwe.trans (hb10.mono hbwe.size)))
end Go.Proofs.YtldhpaflmnlcaaaGreatDoor
/-
  The reference's RenameDef. Own work.
-/
namespace Go.Proofs.YtldhpaflmnlcaaaGreatDoor
open Go.RowKit
theorem specRenameDef_any (v:Value) (L:List Df) (s t:ByteArray) (w:World) (hv:DfsAt w v L) (hn:L.length≤1048576) (hs:∀ x ∈ L,DfOk x) (ht:t.size≤1048576) :
  Calls Tryz.prog 88 #[v,.string s,.string t] w (LibPost (renL L s t) w):=by
 obtain ⟨a,cap,rfl⟩:∃ a cap,v=.slice a L.length cap:=by obtain ⟨a,cap,rfl,_⟩:=hv;exact ⟨a,cap,rfl⟩
 have hff:=findFrom_cases s L 0
 cases hg:good L
 ·have HA:Hid (renL L s t=none):=(show renL L s t=none by simp [renL,hg])
  have HG:=Lib.hid hg
  clear hg hff
  go_enter Tryz.func88,Tryz.ntmps88
  go_wp2_with (first|(go_at_call 65;refine (lbGood_any _ L _ hv hn hs).mono ?_;rintro e w3 ⟨rfl,hb3⟩;rw [HG.out]))
  go_ret2
  exact ⟨_,by rw [HA.out];rfl,by rw [HA.out];exact dfsOwn_nil _ _,hb3⟩
 ·rcases hff with ⟨f1,f2⟩|⟨i0,hi0,f1,f2⟩
  ·have HA:Hid (renL L s t=none):=(show renL L s t=none by simp [renL,f1])
   have HG:=Lib.hid hg
   have HF:=Lib.hid f1
   clear hg f1 f2
   go_enter Tryz.func88,Tryz.ntmps88
   go_wp2_with (first|(go_at_call 101;refine (lbFind_any _ L _ _ (hv.keep hb3) hn).mono ?_;rintro e w2 ⟨rfl,hb2⟩;rw [HF.out])|(go_at_call 65;refine (lbGood_any _ L _ hv hn hs).mono ?_;rintro e w3 ⟨rfl,hb3⟩;rw [HG.out]))
   go_ret2
   exact ⟨_,by rw [HA.out];rfl,by rw [HA.out];exact dfsOwn_nil _ _,hb3.trans (hb2.mono hb3.size)⟩
  ·rw [Nat.zero_add] at f1
   have HA:Hid (renL L s t=okL (L.map (renD s t))):=(show renL L s t=_ by simp [renL,f1,hg])
   have hokm:=renD_ok (a:=s) hs ht
   have hlm:(L.map (renD s t)).length≤1048576:=by simpa using hn
   have HG:=Lib.hid hg
   have HF:=Lib.hid f1
   have gi:¬ ((i0:Int)<0):=by omega
   clear hg f1 f2
   go_enter Tryz.func88,Tryz.ntmps88
   go_wp2_with (first|(go_at_call 101;refine (lbFind_any _ L _ _ (hv.keep hb3) hn).mono ?_;rintro e w2 ⟨rfl,hb2⟩;rw [HF.out];have hb2':=hb3.trans (hb2.mono hb3.size))|(go_at_call 65;refine (lbGood_any _ L _ hv hn hs).mono ?_;rintro e w3 ⟨rfl,hb3⟩;rw [HG.out])|(go_at_call 127;refine (lbOwn_any _ L _ (hv.keep hb2') hn (fun x hx=>(hs x hx).2.2)).mono ?_;rintro e w4 ⟨v4,rfl,⟨xs,hxs,hrow0⟩,hb4⟩;have hxl:=congrArg List.length hxs;simp only [List.length_map] at hxl;obtain ⟨a4,c4,rfl⟩:=DfsRow.shape hrow0 L.length hxl;have hbel4:Below w.heap.size w w4:=hb2'.trans (hb4.mono hb2'.size)))
   have HX:=Lib.hid hxs
   have HXL:=Lib.hid hxl
   have hzw2:=hb2'.size
   clear hxs hxl
   go_loopw [24] (fun kv wr=>∃ k:Nat,k≤L.length∧kv=.int .i64 k∧DfsRow wr w2.heap.size (.slice a4 L.length c4) (renS s t xs k)∧Below w.heap.size w wr) (fun kv _=>L.length - (intOf kv).toNat)
   case atStart=>exact ⟨0,by omega,rfl,by rw [renS_zero];exact hrow0,hbel4⟩
   case round =>
    obtain ⟨k,hk,rfl,hrow,hbel⟩:=hrel
    by_cases hlt:k<L.length
    ·have hkx:k<xs.length:=by rw [HXL.out];exact hlt
     have hr1:=hrow.1
     rw [renS_length,HXL.out] at hr1
     obtain ⟨g,cp,he,hgc,hgm,hgB,hgs⟩:=owns_some' hr1 (by omega)
     simp only [Value.slice.injEq] at he
     obtain ⟨rfl,_,rfl⟩:=he
     obtain ⟨d0,d1,d2,d3,q0,q1,q2,q3⟩:=df_old hr1 k (by rw [renS_length];exact hkx)
     rw [renS_get xs k hkx] at d0 d1 d2 d3
     have hbd:=hrow.2.1 _ (List.getElem_mem (by rw [renS_length];exact hkx:k<(renS s t xs k).length))
     rw [renS_get xs k hkx] at hbd
     obtain ⟨va,vc,hvs⟩:=hbd.slice
     rw [hvs] at d3
     have hbl:xs[k].1.body.length≤1048576:=by
      have:xs[k].1 ∈ L:=by rw [← HX.out];exact List.mem_map_of_mem (List.getElem_mem _)
      exact (hs _ this).2.2
     have HV:=Lib.hid hvs
     clear hvs
     by_cases hnm:xs[k].1.name=s
     ·have hrow1:DfsRow (wr.setCell ⟨g,k * 4,none⟩ (.string t)) w2.heap.size (.slice (some ⟨g,0,none⟩) L.length c4) (renC s t xs k 0 hkx):=by
       have h1:=hrow.setName (by rw [renS_length,HXL.out]) (by rw [renS_length];exact hkx:k<(renS s t xs k).length) t
       rw [renS_get xs k hkx] at h1
       rw [renC_named xs k hkx hnm]
       exact h1
      have hbel1:Below w.heap.size w (wr.setCell ⟨g,k * 4,none⟩ (.string t)):=hbel.setCell (by show w.heap.size≤g;omega) _
      have hgt:=str_eq_true hnm
      clear hnm
      go_wp2_with fail
      generalize wr.setCell ⟨g,k * 4,none⟩ (.string t)=W at hrow1 hbel1
      go_loopw [46] (fun qv W=>∃ q:Nat,q≤xs[k].1.body.length∧qv=.int .i64 q∧DfsRow W w2.heap.size (.slice (some ⟨g,0,none⟩) L.length c4) (renC s t xs k q hkx)∧Below w.heap.size w W) (fun qv _=>xs[k].1.body.length - (intOf qv).toNat)
      case atStart=>exact ⟨0,by omega,rfl,hrow1,hbel1⟩
      case round =>
       clear hrow1 hbel1 hbd hrow hr1 d0 d1 d2 d3 q0 q1 q2 q3 hbel hgs
       obtain ⟨q,hq,rfl,hrw,hbw⟩:=hrel
       have hr2:=hrw.1
       rw [renC_length,HXL.out] at hr2
       have hgz:=(World.ownsRow.lt hr2 g rfl).2
       obtain ⟨e0,e1,e2,e3,p0,p1,p2,p3⟩:=df_old hr2 k (by rw [renC_length];exact hkx)
       rw [renC_get xs k q hkx] at e0 e1 e2 e3
       simp only [HV.out] at e3
       by_cases hqt:q<xs[k].1.body.length
       ·obtain ⟨gb,hgb⟩:∃ gb,va=some ⟨gb,0,none⟩:=by
         have hb2:=hrw.2.1 _ (List.getElem_mem (by rw [renC_length];exact hkx:k<(renC s t xs k q hkx).length))
         rw [renC_get xs k q hkx] at hb2
         simp only [HV.out] at hb2
         rcases hb2.2 with ⟨h1,h2⟩|⟨gb,cap',cur,h1,_⟩
         ·rw [renB_length] at h2;omega
         ·simp only [Value.slice.injEq] at h1;exact ⟨gb,h1.1⟩
        subst hgb
        obtain ⟨c0,c1,c2,cf,cz,czB⟩:=renC_cells hkx hrw HV.out hqt
        by_cases hN:xs[k].1.body[q].kind=17∧xs[k].1.body[q].name=s
        ·have hst:=renC_step (b:=t) hkx hrw HV.out hqt hN
         have t1:(xs[k].1.body[q].kind == 17)=true:=by simp [hN.1]
         have t2:=str_eq_true hN.2
         clear hN
         go_wp2
         go_roundw
         case rel=>exact ⟨q+1,by omega,by go_num,hst,hbw.setCell (by show w.heap.size≤gb;omega) _⟩
         case measure=>simp [intOf];omega
        ·have hsame:=renC_same (b:=t) xs k q hkx hqt (by unfold renN;rw [if_neg hN])
         have hN':(xs[k].1.body[q].kind == 17)=false∨((xs[k].1.body[q].kind == 17)=true∧(xs[k].1.body[q].name.toList == s.toList)=false):=by
          by_cases h17:xs[k].1.body[q].kind=17
          ·exact .inr ⟨by simp [h17],str_eq_false (fun e=>hN ⟨h17,e⟩)⟩
          ·exact .inl (by simp [h17])
         rw [← hsame] at hrw
         clear hN hsame
         rcases hN' with t1|⟨t1,t2⟩
         all_goals
          go_wp2
          go_roundw
          case rel=>exact ⟨q+1,by omega,by go_num,hrw,hbw⟩
          case measure=>simp [intOf];omega
       ·have hqe:q=xs[k].1.body.length:=by omega
        subst hqe
        rw [renS_step] at hrw
        clear e0 e1 e2 e3 p0 p1 p2 p3 hr2
        go_wp2
        go_roundw
        case rel=>exact ⟨k+1,by omega,by go_num,hrw,hbw⟩
        case measure=>simp [intOf];omega
     ·have hrow1:DfsRow wr w2.heap.size (.slice (some ⟨g,0,none⟩) L.length c4) (renC s t xs k 0 hkx):=by
       rw [renC_first xs k hkx hnm]
       exact hrow
      have hbel1:Below w.heap.size w wr:=hbel
      have hgt:=str_eq_false hnm
      clear hnm
      go_wp2_with fail
      go_loopw [46] (fun qv W=>∃ q:Nat,q≤xs[k].1.body.length∧qv=.int .i64 q∧DfsRow W w2.heap.size (.slice (some ⟨g,0,none⟩) L.length c4) (renC s t xs k q hkx)∧Below w.heap.size w W) (fun qv _=>xs[k].1.body.length - (intOf qv).toNat)
      case atStart=>exact ⟨0,by omega,rfl,hrow1,hbel1⟩
      case round =>
       clear hrow1 hbel1 hbd hrow hr1 d0 d1 d2 d3 q0 q1 q2 q3 hbel hgs
       obtain ⟨q,hq,rfl,hrw,hbw⟩:=hrel
       have hr2:=hrw.1
       rw [renC_length,HXL.out] at hr2
       have hgz:=(World.ownsRow.lt hr2 g rfl).2
       obtain ⟨e0,e1,e2,e3,p0,p1,p2,p3⟩:=df_old hr2 k (by rw [renC_length];exact hkx)
       rw [renC_get xs k q hkx] at e0 e1 e2 e3
       simp only [HV.out] at e3
       by_cases hqt:q<xs[k].1.body.length
       ·obtain ⟨gb,hgb⟩:∃ gb,va=some ⟨gb,0,none⟩:=by
         have hb2:=hrw.2.1 _ (List.getElem_mem (by rw [renC_length];exact hkx:k<(renC s t xs k q hkx).length))
         rw [renC_get xs k q hkx] at hb2
         simp only [HV.out] at hb2
         rcases hb2.2 with ⟨h1,h2⟩|⟨gb,cap',cur,h1,_⟩
         ·rw [renB_length] at h2;omega
         ·simp only [Value.slice.injEq] at h1;exact ⟨gb,h1.1⟩
        subst hgb
        obtain ⟨c0,c1,c2,cf,cz,czB⟩:=renC_cells hkx hrw HV.out hqt
        by_cases hN:xs[k].1.body[q].kind=17∧xs[k].1.body[q].name=s
        ·have hst:=renC_step (b:=t) hkx hrw HV.out hqt hN
         have t1:(xs[k].1.body[q].kind == 17)=true:=by simp [hN.1]
         have t2:=str_eq_true hN.2
         clear hN
         go_wp2
         go_roundw
         case rel=>exact ⟨q+1,by omega,by go_num,hst,hbw.setCell (by show w.heap.size≤gb;omega) _⟩
         case measure=>simp [intOf];omega
        ·have hsame:=renC_same (b:=t) xs k q hkx hqt (by unfold renN;rw [if_neg hN])
         have hN':(xs[k].1.body[q].kind == 17)=false∨((xs[k].1.body[q].kind == 17)=true∧(xs[k].1.body[q].name.toList == s.toList)=false):=by
          by_cases h17:xs[k].1.body[q].kind=17
          ·exact .inr ⟨by simp [h17],str_eq_false (fun e=>hN ⟨h17,e⟩)⟩
          ·exact .inl (by simp [h17])
         rw [← hsame] at hrw
         clear hN hsame
         rcases hN' with t1|⟨t1,t2⟩
         all_goals
          go_wp2
          go_roundw
          case rel=>exact ⟨q+1,by omega,by go_num,hrw,hbw⟩
          case measure=>simp [intOf];omega
       ·have hqe:q=xs[k].1.body.length:=by omega
        subst hqe
        rw [renS_step] at hrw
        clear e0 e1 e2 e3 p0 p1 p2 p3 hr2
        go_wp2
        go_roundw
        case rel=>exact ⟨k+1,by omega,by go_num,hrw,hbw⟩
        case measure=>simp [intOf];omega
    ·have hke:k=xs.length:=by rw [HXL.out];omega
     subst hke
     have hdone:=hrow.at
     rw [renS_all,HX.out] at hdone
     have hown:=hrow.own
     rw [renS_all,HX.out] at hown
     cases hg2:good (L.map (renD s t))
     ·have HO:Hid (okL (L.map (renD s t))=none):=(show okL _=none by unfold okL;rw [hg2];rfl)
      have HG2:=Lib.hid hg2
      clear hg2
      go_wp2_with (go_at_call 126;refine (lbIf_no _ (L.map (renD s t)) _ hdone hlm hokm HG2.out).mono ?_;rintro e w6 ⟨rfl,hb6⟩)
      go_ret2
      exact ⟨_,by rw [HA.out,HO.out];rfl,by rw [HA.out,HO.out];exact dfsOwn_nil _ _,hbel.trans (hb6.mono hbel.size)⟩
     ·have HO:Hid (okL (L.map (renD s t))=some (L.map (renD s t))):=(show okL _=some _ by unfold okL;rw [hg2];rfl)
      have HG2:=Lib.hid hg2
      clear hg2
      go_wp2_with (go_at_call 126;refine (lbIf_yes _ (L.map (renD s t)) _ hdone hlm hokm HG2.out).mono ?_;rintro e w6 ⟨rfl,hb6⟩)
      go_ret2
      refine ⟨_,by rw [HA.out,HO.out];rfl,?_,hbel.trans (hb6.mono hbel.size)⟩
      rw [HA.out,HO.out]
      exact (hown.mono hzw2).keep hb6
end Go.Proofs.YtldhpaflmnlcaaaGreatDoor
/-
  The reference's ApplyEntry. Own work.
-/
namespace Go.Proofs.YtldhpaflmnlcaaaGreatDoor
open Go.RowKit
theorem joTyped_any (v vb:Value) (L:List Df) (e:En) (w:World) (hv:DfsAt w v L) (hn:L.length≤1048576) (hg:good L=true) (hvb:NdsAt w vb e.body) (he:EnOk e) :
  Calls Tryz.prog 86 #[v,.agg #[.int .i64 e.kind,.string e.name,.string e.to,vb]] w fun r w'=>r=.returned (.agg #[.string e.name,.int .i64 (joD L e).inn,.int .i64 (joD L e).out,vb])∧Below w.heap.size w w':=by
 obtain ⟨a,cap,rfl⟩:∃ a cap,v=.slice a L.length cap:=by obtain ⟨a,cap,rfl,_⟩:=hv;exact ⟨a,cap,rfl⟩
 obtain ⟨ab,cb,rfl⟩:=hvb.slice
 have hgg:goodGo [] L=true:=by simp only [good,Bool.and_eq_true] at hg;exact hg.2
 have hsm:=good_sm hgg
 clear hg hgg
 obtain ⟨t,ht⟩:∃ t,(typedL (leafIn L) e.body).getD (0,0)=t:=⟨_,rfl⟩
 have hj:(joD L e).inn=t.1∧(joD L e).out=t.2:=by simp [joD,ht]
 rw [hj.1,hj.2]
 have HT:=Lib.hid ht
 clear ht hj
 go_enter Tryz.func86,Tryz.ntmps86
 go_wp2_with (go_at_call 102;refine (lbType_any _ _ L e.body _ (hv.keep (((Below.refl _ _).alloc (Nat.le_refl _) _).alloc (by simp) _)) hn hsm (hvb.keep (((Below.refl _ _).alloc (Nat.le_refl _) _).alloc (by simp) _)) he.2.2).mono ?_;rintro r w2 ⟨rfl,hb2⟩;rw [HT.out];obtain ⟨hc2,hf2,hs2⟩:=bcell hb2;have x1:w2.cell? ⟨w.heap.size,1,none⟩=some (.string e.name):=(hc2 _ _ (by simp;omega)).trans (by simp [go_sem]);have x3:w2.cell? ⟨w.heap.size,3,none⟩=some (.slice ab e.body.length cb):=(hc2 _ _ (by simp;omega)).trans (by simp [go_sem]);have y0:w2.cell? ⟨w.heap.size+1,0,none⟩=some (.string ⟨#[]⟩):=(hc2 _ _ (by simp)).trans (by simp [go_sem]);have y1:w2.cell? ⟨w.heap.size+1,1,none⟩=some (.int .i64 0):=(hc2 _ _ (by simp)).trans (by simp [go_sem]);have y2:w2.cell? ⟨w.heap.size+1,2,none⟩=some (.int .i64 0):=(hc2 _ _ (by simp)).trans (by simp [go_sem]);have y3:w2.cell? ⟨w.heap.size+1,3,none⟩=some (.slice none 0 0):=(hc2 _ _ (by simp)).trans (by simp [go_sem]);have yf:∀ j,w2.frozen? ⟨w.heap.size+1,j,none⟩=false:=fun j=>(hf2 _ _ (by simp)).trans (by simp [go_sem]);have hb2':Below w.heap.size w w2:=(((Below.refl _ _).alloc (Nat.le_refl _) _).alloc (by simp) _).trans (hb2.mono (by simp;omega));clear hc2 hf2 hs2 hb2)
 exact bodyPost_ret (v:=.agg #[.string e.name,.int .i64 t.1,.int .i64 t.2,.slice ab e.body.length cb]) (by simp [results,Tryz.results86,go_sem,y0,y1,y2,y3]) rfl ⟨rfl,(((hb2'.setCell (by simp) _).setCell (by simp) _).setCell (by simp) _).setCell (by simp) _⟩
theorem specApply_any (v vb:Value) (L:List Df) (e:En) (w:World) (hv:DfsAt w v L) (hn:L.length≤1048576) (hs:∀ x ∈ L,DfOk x) (hvb:NdsAt w vb e.body) (he:EnOk e) :
  Calls Tryz.prog 38 #[v,.agg #[.int .i64 e.kind,.string e.name,.string e.to,vb]] w (LibPost (applyE L e) w):=by
 obtain ⟨a,cap,rfl⟩:∃ a cap,v=.slice a L.length cap:=by obtain ⟨a,cap,rfl,_⟩:=hv;exact ⟨a,cap,rfl⟩
 obtain ⟨ab,cb,rfl⟩:=hvb.slice
 cases hg:good L
 ·have HA:Hid (applyE L e=none):=(show _=_ by simp [applyE,hg])
  have HG:=Lib.hid hg
  clear hg
  go_enter Tryz.func38,Tryz.ntmps38
  go_wp2_with (go_at_call 65;refine (lbGood_any _ L _ (hv.keep (alloc_below _ _)) hn hs).mono ?_;rintro r w2 ⟨rfl,hb2⟩;rw [HG.out];obtain ⟨hc2,hf2,hs2⟩:=bcell hb2;have x0:w2.cell? ⟨w.heap.size,0,none⟩=some (.int .i64 e.kind):=(hc2 _ _ (by simp)).trans (by simp);have x1:w2.cell? ⟨w.heap.size,1,none⟩=some (.string e.name):=(hc2 _ _ (by simp)).trans (by simp);have x2:w2.cell? ⟨w.heap.size,2,none⟩=some (.string e.to):=(hc2 _ _ (by simp)).trans (by simp);have x3:w2.cell? ⟨w.heap.size,3,none⟩=some (.slice ab e.body.length cb):=(hc2 _ _ (by simp)).trans (by simp);have hb2':Below w.heap.size w w2:=(alloc_below _ _).trans (hb2.mono (by simp));clear hc2 hf2 hs2 hb2)
  go_ret2
  exact ⟨_,by rw [HA.out];rfl,by rw [HA.out];exact dfsOwn_nil _ _,hb2'⟩
 ·have HG:=Lib.hid hg
  have ht0:e.to=ByteArray.empty → (!e.to.toList.isEmpty)=false:=fun h=>by have:=(toList_nil_iff_emptyBytes _).2 h;simp [this]
  have ht1:e.to ≠ ByteArray.empty → (!e.to.toList.isEmpty)=true:=fun h=>by
   have:¬ e.to.toList=[]:=fun e'=>h ((toList_nil_iff_emptyBytes _).1 e')
   simpa using this
  have hb0:e.body=[] → ¬ (0:Int)<e.body.length:=fun h=>by rw [h];simp
  have hb1:e.body ≠ [] → (0:Int)<e.body.length:=fun h=>by have:=List.length_pos_iff.2 h;omega
  by_cases hA:e.kind ≠ 3∧e.to ≠ ByteArray.empty
  ·have HA:Hid (applyE L e=none):=(show _=_ by
    unfold applyE plainE
    rw [if_neg (by simp [hA.1,hA.2])])
   have g3:(e.kind != 3)=true:=by simpa using hA.1
   have gt:=ht1 hA.2
   clear hg hA ht0 ht1 hb0 hb1
   go_enter Tryz.func38,Tryz.ntmps38
   go_wp2_with (go_at_call 65;refine (lbGood_any _ L _ (hv.keep (alloc_below _ _)) hn hs).mono ?_;rintro r w2 ⟨rfl,hb2⟩;rw [HG.out];obtain ⟨hc2,hf2,hs2⟩:=bcell hb2;have x0:w2.cell? ⟨w.heap.size,0,none⟩=some (.int .i64 e.kind):=(hc2 _ _ (by simp)).trans (by simp);have x1:w2.cell? ⟨w.heap.size,1,none⟩=some (.string e.name):=(hc2 _ _ (by simp)).trans (by simp);have x2:w2.cell? ⟨w.heap.size,2,none⟩=some (.string e.to):=(hc2 _ _ (by simp)).trans (by simp);have x3:w2.cell? ⟨w.heap.size,3,none⟩=some (.slice ab e.body.length cb):=(hc2 _ _ (by simp)).trans (by simp);have hb2':Below w.heap.size w w2:=(alloc_below _ _).trans (hb2.mono (by simp));clear hc2 hf2 hs2 hb2)
   go_ret2
   exact ⟨_,by rw [HA.out];rfl,by rw [HA.out];exact dfsOwn_nil _ _,hb2'⟩
  ·have gA:(e.kind != 3)=false∨((e.kind != 3)=true∧(!e.to.toList.isEmpty)=false):=by
    by_cases h:e.kind=3
    ·exact .inl (by simp [h])
    ·exact .inr ⟨by simpa using h,ht0 (Classical.not_not.1 fun h'=>hA ⟨h,h'⟩)⟩
   by_cases hB:e.kind ≠ 1∧e.body ≠ []
   ·have HA:Hid (applyE L e=none):=(show _=_ by
     unfold applyE plainE
     rw [if_neg (by simp [hB.1,hB.2])])
    have g1:(e.kind != 1)=true:=by simpa using hB.1
    have gl:=hb1 hB.2
    clear hg hA hB ht0 ht1 hb0 hb1
    rcases gA with g3|⟨g3,gt⟩
    all_goals
     go_enter Tryz.func38,Tryz.ntmps38
     go_wp2_with (go_at_call 65;refine (lbGood_any _ L _ (hv.keep (alloc_below _ _)) hn hs).mono ?_;rintro r w2 ⟨rfl,hb2⟩;rw [HG.out];obtain ⟨hc2,hf2,hs2⟩:=bcell hb2;have x0:w2.cell? ⟨w.heap.size,0,none⟩=some (.int .i64 e.kind):=(hc2 _ _ (by simp)).trans (by simp);have x1:w2.cell? ⟨w.heap.size,1,none⟩=some (.string e.name):=(hc2 _ _ (by simp)).trans (by simp);have x2:w2.cell? ⟨w.heap.size,2,none⟩=some (.string e.to):=(hc2 _ _ (by simp)).trans (by simp);have x3:w2.cell? ⟨w.heap.size,3,none⟩=some (.slice ab e.body.length cb):=(hc2 _ _ (by simp)).trans (by simp);have hb2':Below w.heap.size w w2:=(alloc_below _ _).trans (hb2.mono (by simp));clear hc2 hf2 hs2 hb2)
     go_ret2
     exact ⟨_,by rw [HA.out];rfl,by rw [HA.out];exact dfsOwn_nil _ _,hb2'⟩
   ·have hpl:plainE e=true:=by
     unfold plainE
     simp only [Bool.and_eq_true,Bool.or_eq_true,decide_eq_true_eq]
     refine ⟨?_,?_⟩
     ·by_cases h:e.kind=3
      ·exact .inl h
      ·exact .inr (Classical.not_not.1 fun h'=>hA ⟨h,h'⟩)
     ·by_cases h:e.kind=1
      ·exact .inl h
      ·exact .inr (Classical.not_not.1 fun h'=>hB ⟨h,h'⟩)
    by_cases h1:e.kind=1
    ·have HA:Hid (applyE L e=addL L (joD L e)):=(show _=_ by unfold applyE;rw [if_pos ⟨hg,hpl⟩,if_pos h1])
     have g3:(e.kind != 3)=true:=by simp [h1]
     have gt:(!e.to.toList.isEmpty)=false:=by rcases gA with h|h;rw [g3] at h;cases h;exact h.2
     have g1:(e.kind != 1)=false:=by simp [h1]
     have s1:(e.kind == 1)=true:=by simp [h1]
     clear hg hA hB ht0 ht1 hb0 hb1 hpl h1 gA
     go_enter Tryz.func38,Tryz.ntmps38
     go_wp2_with (first|(go_at_call 65;refine (lbGood_any _ L _ (hv.keep (alloc_below _ _)) hn hs).mono ?_;rintro r w2 ⟨rfl,hb2⟩;rw [HG.out];obtain ⟨hc2,hf2,hs2⟩:=bcell hb2;have x0:w2.cell? ⟨w.heap.size,0,none⟩=some (.int .i64 e.kind):=(hc2 _ _ (by simp)).trans (by simp);have x1:w2.cell? ⟨w.heap.size,1,none⟩=some (.string e.name):=(hc2 _ _ (by simp)).trans (by simp);have x2:w2.cell? ⟨w.heap.size,2,none⟩=some (.string e.to):=(hc2 _ _ (by simp)).trans (by simp);have x3:w2.cell? ⟨w.heap.size,3,none⟩=some (.slice ab e.body.length cb):=(hc2 _ _ (by simp)).trans (by simp);have hb2':Below w.heap.size w w2:=(alloc_below _ _).trans (hb2.mono (by simp));clear hc2 hf2 hs2 hb2)|(go_at_call 86;refine (joTyped_any _ _ L e _ (hv.keep hb2') hn HG.out (hvb.keep hb2') he).mono ?_;rintro r w3 ⟨rfl,hb3⟩;have hb3':=hb2'.trans (hb3.mono hb2'.size))|(go_at_call 85;refine (specAddDef_any _ _ L (joD L e) _ (hv.keep hb3') hn hs (hvb.keep hb3') ⟨he.1,he.2.2⟩).mono ?_;rintro r w4 ⟨v4,rfl,ho4,hb4⟩;have hb4':=hb3'.trans (hb4.mono hb3'.size);have ho4':=ho4.mono hb3'.size))
     go_ret2
     exact ⟨v4,by rw [HA.out];rfl,by rw [HA.out];exact ho4',hb4'⟩
    ·have gl:=hb0 (Classical.not_not.1 fun h'=>hB ⟨h1,h'⟩)
     have g1:(e.kind != 1)=true:=by simpa using h1
     have s1:(e.kind == 1)=false:=by simpa using h1
     by_cases h2:e.kind=2
     ·have HA:Hid (applyE L e=remL L e.name):=(show _=_ by unfold applyE;rw [if_pos ⟨hg,hpl⟩,if_neg h1,if_pos h2])
      have g3:(e.kind != 3)=true:=by simp [h2]
      have gt:(!e.to.toList.isEmpty)=false:=by rcases gA with h|h;rw [g3] at h;cases h;exact h.2
      have s2:(e.kind == 2)=true:=by simp [h2]
      clear hg hA hB ht0 ht1 hb0 hb1 hpl h1 gA h2
      go_enter Tryz.func38,Tryz.ntmps38
      go_wp2_with (first|(go_at_call 65;refine (lbGood_any _ L _ (hv.keep (alloc_below _ _)) hn hs).mono ?_;rintro r w2 ⟨rfl,hb2⟩;rw [HG.out];obtain ⟨hc2,hf2,hs2⟩:=bcell hb2;have x0:w2.cell? ⟨w.heap.size,0,none⟩=some (.int .i64 e.kind):=(hc2 _ _ (by simp)).trans (by simp);have x1:w2.cell? ⟨w.heap.size,1,none⟩=some (.string e.name):=(hc2 _ _ (by simp)).trans (by simp);have x2:w2.cell? ⟨w.heap.size,2,none⟩=some (.string e.to):=(hc2 _ _ (by simp)).trans (by simp);have x3:w2.cell? ⟨w.heap.size,3,none⟩=some (.slice ab e.body.length cb):=(hc2 _ _ (by simp)).trans (by simp);have hb2':Below w.heap.size w w2:=(alloc_below _ _).trans (hb2.mono (by simp));clear hc2 hf2 hs2 hb2)|(go_at_call 87;refine (specRemoveDef_any _ L _ _ (hv.keep hb2') hn hs).mono ?_;rintro r w4 ⟨v4,rfl,ho4,hb4⟩;have hb4':=hb2'.trans (hb4.mono hb2'.size);have ho4':=ho4.mono hb2'.size))
      go_ret2
      exact ⟨v4,by rw [HA.out];rfl,by rw [HA.out];exact ho4',hb4'⟩
     ·have s2:(e.kind == 2)=false:=by simpa using h2
      by_cases h3:e.kind=3
      ·have HA:Hid (applyE L e=renL L e.name e.to):=(show _=_ by unfold applyE;rw [if_pos ⟨hg,hpl⟩,if_neg h1,if_neg h2,if_pos h3])
       have g3:(e.kind != 3)=false:=by simp [h3]
       have s3:(e.kind == 3)=true:=by simp [h3]
       clear hg hA hB ht0 ht1 hb0 hb1 hpl h1 gA h2 h3
       go_enter Tryz.func38,Tryz.ntmps38
       go_wp2_with (first|(go_at_call 65;refine (lbGood_any _ L _ (hv.keep (alloc_below _ _)) hn hs).mono ?_;rintro r w2 ⟨rfl,hb2⟩;rw [HG.out];obtain ⟨hc2,hf2,hs2⟩:=bcell hb2;have x0:w2.cell? ⟨w.heap.size,0,none⟩=some (.int .i64 e.kind):=(hc2 _ _ (by simp)).trans (by simp);have x1:w2.cell? ⟨w.heap.size,1,none⟩=some (.string e.name):=(hc2 _ _ (by simp)).trans (by simp);have x2:w2.cell? ⟨w.heap.size,2,none⟩=some (.string e.to):=(hc2 _ _ (by simp)).trans (by simp);have x3:w2.cell? ⟨w.heap.size,3,none⟩=some (.slice ab e.body.length cb):=(hc2 _ _ (by simp)).trans (by simp);have hb2':Below w.heap.size w w2:=(alloc_below _ _).trans (hb2.mono (by simp));clear hc2 hf2 hs2 hb2)|(go_at_call 88;refine (specRenameDef_any _ L _ _ _ (hv.keep hb2') hn hs he.2.1).mono ?_;rintro r w4 ⟨v4,rfl,ho4,hb4⟩;have hb4':=hb2'.trans (hb4.mono hb2'.size);have ho4':=ho4.mono hb2'.size))
       go_ret2
       exact ⟨v4,by rw [HA.out];rfl,by rw [HA.out];exact ho4',hb4'⟩
      ·have HA:Hid (applyE L e=none):=(show _=_ by unfold applyE;rw [if_pos ⟨hg,hpl⟩,if_neg h1,if_neg h2,if_neg h3])
       have g3:(e.kind != 3)=true:=by simpa using h3
       have gt:(!e.to.toList.isEmpty)=false:=by rcases gA with h|h;rw [g3] at h;cases h;exact h.2
       have s3:(e.kind == 3)=false:=by simpa using h3
       clear hg hA hB ht0 ht1 hb0 hb1 hpl h1 gA h2 h3
       go_enter Tryz.func38,Tryz.ntmps38
       go_wp2_with (first|(go_at_call 65;refine (lbGood_any _ L _ (hv.keep (alloc_below _ _)) hn hs).mono ?_;rintro r w2 ⟨rfl,hb2⟩;rw [HG.out];obtain ⟨hc2,hf2,hs2⟩:=bcell hb2;have x0:w2.cell? ⟨w.heap.size,0,none⟩=some (.int .i64 e.kind):=(hc2 _ _ (by simp)).trans (by simp);have x1:w2.cell? ⟨w.heap.size,1,none⟩=some (.string e.name):=(hc2 _ _ (by simp)).trans (by simp);have x2:w2.cell? ⟨w.heap.size,2,none⟩=some (.string e.to):=(hc2 _ _ (by simp)).trans (by simp);have x3:w2.cell? ⟨w.heap.size,3,none⟩=some (.slice ab e.body.length cb):=(hc2 _ _ (by simp)).trans (by simp);have hb2':Below w.heap.size w w2:=(alloc_below _ _).trans (hb2.mono (by simp));clear hc2 hf2 hs2 hb2))
       go_ret2
       exact ⟨_,by rw [HA.out];rfl,by rw [HA.out];exact dfsOwn_nil _ _,hb2'⟩
end Go.Proofs.YtldhpaflmnlcaaaGreatDoor
