/-
  lbType, lbGood and lbIf of the reference. Own work.
-/
import Derived.Test.YtikgblkfmpecfaaGreatDoorWS
import Derived.Test.YtikgblkfmpecfaaGreatDoorWG
set_option linter.all false
set_option maxRecDepth 100000
set_option maxHeartbeats 8000000
namespace Go.Proofs.YtikgblkfmpecfaaGreatDoor
open Go.RowKit
theorem Kv (v vb:Value) (L:List Df) (ns:List Nd) (w:World) (hv:aG w v L) (hn:L.length<=1048576) (hsm:∀d∈L,Sm (d.inn,d.out)) (hvb:aZ w vb ns) (hok:kL ns) :
  Calls Tryz.prog 75 #[v,.agg #[vb]] w λe w'=>e=.returned (.tuple #[.int .i64 ((aS (aO L) ns).getD (0,0)).1,.int .i64 ((aS (aO L) ns).getD (0,0)).2,.bool (aS (aO L) ns).isSome])/\Below w.heap.size w w':=by
 obtain⟨a,cap,rfl⟩:∃a cap,v=.slice a L.length cap:=by obtain⟨a,cap,rfl,_⟩:=hv;exact⟨a,cap,rfl⟩
 obtain⟨ab,cb,rfl⟩:=hvb.slice;cases ht:aS (aO L) ns with
 | none =>
  have HT:=Lib.hid ht
  clear ht
  go_enter Tryz.func75,Tryz.ntmps75
  go_wp2_with (go_at_call 87;refine(XI _ L _ ns _ (hv.keep (aj _ _)) hn hsm (hvb.keep (aj _ _)) hok).mono ?_;rintro r w2⟨a0,n0,c0,a1,n1,c1,a2,n2,c2,rfl,hb2,_⟩;rw[HT.out])
  go_ret3
  exact⟨rfl,((aj _ _).trans (hb2.mono (by simp))).alloc (by have:=hb2.size;simp at this;omega) _⟩
 | some t =>
  have HT:=Lib.hid ht
  have hlen:=Am ht
  have hl1:1<=ns.length:=by unfold aS at ht;split at ht;omega;cases ht
  clear ht
  go_enter Tryz.func75,Tryz.ntmps75
  go_wp2_with (go_at_call 87;refine(XI _ L _ ns _ (hv.keep (aj _ _)) hn hsm (hvb.keep (aj _ _)) hok).mono ?_;rintro r w2⟨a0,n0,c0,a1,n1,c1,a2,n2,c2,rfl,hb2,hX⟩;rw[HT.out];obtain⟨X,lX,Gt,r0,r1,r2⟩:=hX t HT.out;obtain⟨g1,p1,he1,_⟩:=ug r1 (by simp;omega);obtain⟨g2,p2,he2,_⟩:=ug r2 (by simp;omega);simp only[Value.slice.injEq,List.length_map]at he1 he2;obtain⟨rfl,rfl,rfl⟩:=he1;obtain⟨rfl,rfl,rfl⟩:=he2;rw[lX];obtain⟨hc2,hf2,hs2⟩:=bH hb2;have x0:w2.cell? ⟨w.heap.size,0,none⟩=some (.slice ab ns.length cb):=(hc2 _ _ (by simp)).trans (by simp);have hz2:w.heap.size<w2.heap.size:=(by simp at hs2;omega);clear hc2 hf2 hs2)
  obtain⟨q1,e1⟩:=wz Gt (λp:Nat×W2=>p.2.1)
  obtain⟨q2,e2⟩:=wz Gt (λp:Nat×W2=>p.2.2)
  have f1:=r1.cell _ q1
  have f2:=r2.cell _ q2
  rw[e1]at f1
  rw[e2]at f2
  have z1:=cell_lt f1
  have z2:=cell_lt f2
  have JZ:(1:Int)<=ns.length:=by omega
  have J4:(ns.length:Int)-1<ns.length:=by omega
  have uP:((ns.length:Int)-1).toNat=ns.length-1:=by omega
  clear e1 e2 q1 q2 r0 r1 r2 Gt hX
  go_wp2_with fail
  refine bC (C:=ah (aQ) _) 2 [0,1,2,3,4,5,6,7,8,9,10,11,12] (by kernel_rfl) (by kernel_rfl) (ah.grows _ _) (ah.refl _ _) ?_
  iterate 13 (apply ay rfl rfl rfl;(focus intro u hc' hf';go_simp<;>rfl);intro K hK;go_simp;apply hK;clear hK K)
  refine aK ?_
  go_wp2
  go_ret3
  exact⟨rfl,(((aj _ _).trans (hb2.mono (by simp))).alloc (by omega) _).drew⟩
theorem adK (v vb:Value) (L:List Df) (ns:List Nd) (w:World) (hv:aG w v L) (hn:L.length<=1048576) (hsm:∀d∈L,Sm (d.inn,d.out)) (hvb:aZ w vb ns) (hok:kL ns) (h:aS (aO L) ns=none) :
  Calls Tryz.prog 75 #[v,.agg #[vb]] w λe w'=>e=.returned (.tuple #[.int .i64 0,.int .i64 0,.bool false])/\Below w.heap.size w w' :=
 (Kv v vb L ns w hv hn hsm hvb hok).mono λe w' hh=>by rw[h]at hh;exact hh
theorem P7 (v vb:Value) (L:List Df) (ns:List Nd) (t:W2) (w:World) (hv:aG w v L) (hn:L.length<=1048576) (hsm:∀d∈L,Sm (d.inn,d.out)) (hvb:aZ w vb ns) (hok:kL ns) (h:aS (aO L) ns=some t) :
  Calls Tryz.prog 75 #[v,.agg #[vb]] w λe w'=>e=.returned (.tuple #[.int .i64 t.1,.int .i64 t.2,.bool true])/\Below w.heap.size w w' :=
 (Kv v vb L ns w hv hn hsm hvb hok).mono λe w' hh=>by rw[h]at hh;exact hh
theorem nU (v:Value) (L:List Df) (w:World) (hv:aG w v L) (hn:L.length<=1048576) (hs:∀d∈L,dN d) :
  Calls Tryz.prog 51 #[v] w λe w'=>e=.returned (.bool (good L))/\Below w.heap.size w w':=by
 have hv0:=hv;obtain⟨a,cap,rfl,hc,hat⟩:=hv;by_cases hl:L.length<=12
 ·go_enter Tryz.func51,Tryz.ntmps51;go_wp2;go_loopw [13] (λi wr=>∃k:Nat,k<=L.length/\i=.int .i64 k/\Hid (dJ [] (L.take k)=true)/\Hid (good L=dJ (L.take k) (L.drop k))/\Below w.heap.size w wr) (λi _=>L.length-(intOf i).toNat)
  case atStart=>exact⟨0,by omega,rfl,(by simp[Hid,dJ]:Hid (dJ [] (L.take 0)=true)),(by simp[Hid,good,hl]:Hid (good L=dJ (L.take 0) (L.drop 0))),Below.refl _ _⟩
  case round =>
   obtain⟨k,hk,rfl,HG,HF,hbel⟩:=hrel
   by_cases hlt:k<L.length
   ·have hvk:=Xe (hv0.keep hbel) k hk
    obtain⟨b,o,rfl,_,hnd⟩:=hat k hlt
    obtain⟨c0,c1,c2,vb,c3,hvb⟩:=hnd.keep hbel
    obtain⟨va,vc,rfl⟩:=hvb.slice
    have hsz:=hbel.size
    have hok:=hs L[k] (List.getElem_mem _)
    have xI:=hok.1
    have hsm:=vJ HG.out
    have htl:(L.take k).length<=1048576:=by rw[List.length_take];omega
    have hkc:k<=cap:=by omega
    have hag:ql (L.take k) L[k]=(decide (aS (aO (L.take k)) L[k].body=some (L[k].inn,L[k].out))&&nameB L[k].name&&(findD (L.take k) L[k].name).isNone):=rfl
    have hgo:good L=(ql (L.take k) L[k]&&dJ (L.take (k+1)) (L.drop (k+1))):=by
     rw[HF.out,List.drop_eq_getElem_cons hlt,dJ,List.take_succ_eq_append_getElem hlt]
    have hgg:dJ [] (L.take (k+1))=ql (L.take k) L[k]:=by
     rw[List.take_succ_eq_append_getElem hlt,AV,HG.out];simp[dJ]
    have hba:Below wr.heap.size wr (wr.alloc (.cells #[.string L[k].name,.int .i64 L[k].inn,.int .i64 L[k].out,.slice va L[k].body.length vc] 101)):=aj _ _
    have up:∀{w':World},ah aQ ((wr.alloc (.cells #[.string L[k].name,.int .i64 L[k].inn,.int .i64 L[k].out,.slice va L[k].body.length vc] 101)).drew) w'->Below wr.heap.size wr w':=λh=>hba.trans ((Below.refl wr.heap.size _).drew.trans (h.toBelow.mono (by simp)))
    clear hat hnd hs
    cases hnb:nameB L[k].name
    ·have HT:Hid (good L=false):=(show good L=false by rw[hgo,hag,hnb];simp)
     have HN:=Lib.hid hnb
     clear hag hgo hgg hnb
     go_wp2_with fail
     refine bC (C:=ah (aQ) _) 2 [0,1,2,3,4,5,6,7,8,9,10,11,12] (by kernel_rfl) (by kernel_rfl) (ah.grows _ _) (ah.refl _ _) ?_
     iterate 2 (apply ay rfl rfl rfl;(focus intro u hc' hf';go_simp<;>rfl);intro K hK;go_simp;apply hK;clear hK K)
     refine aX rfl rfl rfl (ah.grows _ _) (ah.refl _ _) 95 (λK hK=>?_);apply Exists.intro;refine⟨λw' hw'=>?_,λwa dU dS=>?_⟩;(focus go_simp;rfl);refine(yZ L[k].name _ xI).mono ?_;rintro e w8⟨rfl,hb8⟩;refine⟨_,rfl,hb8,λhx=>?_⟩;go_simp;apply hK;clear hK K
     rw[HN.out]
     iterate 2 (apply ay rfl rfl rfl;(focus intro u hc' hf';go_simp<;>rfl);intro K hK;go_simp;apply hK;clear hK K)
     iterate 7 (refine oJ rfl λK hK=>⟨by first|rfl|(simp[Region.wanted,yielded,go_sem]),?_⟩;go_simp;apply hK;clear hK K)
     iterate 1 (apply ay rfl rfl rfl;(focus intro u hc' hf';go_simp<;>rfl);intro K hK;go_simp;apply hK;clear hK K)
     refine aK ?_
     go_wp2
     go_ret
     exact⟨dI HT.out.symm,hbel.trans ((up hx).mono hsz)⟩
    ·rw[hnb]at hag
     have HN:=Lib.hid hnb
     clear hnb
     rcases oO L[k].name (L.take k) 0 with⟨f1,f2⟩|⟨i,hi,f1,f2⟩
     ·rw[f2]at hag
      have Gu:=Lib.hid f1
      clear f1 f2
      cases hR:aS (aO (L.take k)) L[k].body with
      | none =>
       have HT:Hid (good L=false):=(show good L=false by rw[hgo,hag,hR];simp)
       have HR:=Lib.hid hR
       clear hag hgo hgg hR
       go_wp2_with fail
       refine bC (C:=ah (aQ) _) 2 [0,1,2,3,4,5,6,7,8,9,10,11,12] (by kernel_rfl) (by kernel_rfl) (ah.grows _ _) (ah.refl _ _) ?_
       iterate 2 (apply ay rfl rfl rfl;(focus intro u hc' hf';go_simp<;>rfl);intro K hK;go_simp;apply hK;clear hK K)
       refine aX rfl rfl rfl (ah.grows _ _) (ah.refl _ _) 95 (λK hK=>?_);apply Exists.intro;refine⟨λw' hw'=>?_,λwa dU dS=>?_⟩;(focus go_simp;rfl);refine(yZ L[k].name _ xI).mono ?_;rintro e w8⟨rfl,hb8⟩;refine⟨_,rfl,hb8,λhx=>?_⟩;go_simp;apply hK;clear hK K
       rw[HN.out]
       iterate 2 (apply ay rfl rfl rfl;(focus intro u hc' hf';go_simp<;>rfl);intro K hK;go_simp;apply hK;clear hK K)
       iterate 5 (apply dR rfl rfl (by first|rfl|(simp[Region.wanted,yielded,go_sem]));(focus intro u hc' hf';go_simp<;>rfl);intro K hK;go_simp;apply hK;clear hK K)
       refine pR rfl rfl (ah.grows _ _) (hx) 96 (λK hK=>?_);refine⟨by first|rfl|(simp[Region.wanted,yielded,go_sem]),?_⟩;apply Exists.intro;refine⟨λw' hw'=>?_,λw' hw' hbw=>?_⟩;(focus go_simp;rfl);refine(nN _ (L.take k) _ _ (hvk.keep (up hw')) htl).mono ?_;rintro e w9⟨rfl,bG⟩;refine⟨_,rfl,bG,λhx=>?_⟩;go_simp;apply hK;clear hK K
       rw[Gu.out]
       iterate 1 (apply dR rfl rfl (by first|rfl|(simp[Region.wanted,yielded,go_sem]));(focus intro u hc' hf';go_simp<;>rfl);intro K hK;go_simp;apply hK;clear hK K)
       iterate 1 (apply ay rfl rfl rfl;(focus intro u hc' hf';go_simp<;>rfl);intro K hK;go_simp;apply hK;clear hK K)
       refine aK ?_
       have hW:=up hx
       have hW1:Below (wr.heap.size+1) (wr.alloc (.cells #[.string L[k].name,.int .i64 L[k].inn,.int .i64 L[k].out,.slice va L[k].body.length vc] 101)) w9:=(Below.refl (wr.heap.size+1) _).drew.trans (hx.toBelow.mono (by simp))
       have e1:w9.cell? ⟨wr.heap.size,1,none⟩=some (.int .i64 L[k].inn):=by rw[hW1.cell (p:=⟨wr.heap.size,1,none⟩) (by simp)];go_simp
       have e2:w9.cell? ⟨wr.heap.size,2,none⟩=some (.int .i64 L[k].out):=by rw[hW1.cell (p:=⟨wr.heap.size,2,none⟩) (by simp)];go_simp
       have e3:w9.cell? ⟨wr.heap.size,3,none⟩=some (.slice va L[k].body.length vc):=by rw[hW1.cell (p:=⟨wr.heap.size,3,none⟩) (by simp)];go_simp
       have Qg:wr.heap.size<w9.heap.size:=by have:=hW1.size;simp at this;omega
       clear hW1 hx hb8 bG dU dS hw' hbw
       go_wp2_with fail
       refine bC (C:=ah (aQ) _) 2 [0,1,2,3,4,5,6,7,8,9,10,11,12] (by kernel_rfl) (by kernel_rfl) (ah.grows _ _) (ah.refl _ _) ?_
       iterate 5 (apply ay rfl rfl rfl;(focus intro u hc' hf';go_simp<;>rfl);intro K hK;go_simp;apply hK;clear hK K)
       have nV:∀{w':World},ah aQ w9.drew w'->Below wr.heap.size wr w':=λh=>hW.trans (((Below.refl w9.heap.size w9).drew.trans (h.toBelow.mono (by simp))).mono hW.size)
       refine aX rfl rfl rfl (ah.grows _ _) (ah.refl _ _) 75 (λK hK=>?_);apply Exists.intro;refine⟨λw' hw'=>?_,λwb hwb fB=>?_⟩;(focus go_simp;rfl);refine(adK _ _ (L.take k) L[k].body _ (hvk.keep (nV hwb)) htl hsm (hvb.keep (nV hwb)) hok.2 HR.out).mono ?_;rintro e w10⟨rfl,bf⟩;refine⟨_,rfl,bf,λhx=>?_⟩;go_simp;apply hK;clear hK K
       iterate 7 (apply ay rfl rfl rfl;(focus intro u hc' hf';go_simp<;>rfl);intro K hK;go_simp;apply hK;clear hK K)
       refine aK ?_
       go_wp2
       go_ret
       exact⟨dI HT.out.symm,hbel.trans ((nV hx).mono hsz)⟩
      | some t =>
       have HR:=Lib.hid hR
       by_cases p1:t.1=L[k].inn/\t.2=L[k].out
       ·have hdt:decide (aS (aO (L.take k)) L[k].body=some (L[k].inn,L[k].out))=true:=by rw[hR];simp[<-p1.1,<-p1.2]
        rw[hdt]at hag
        have Pz:Hid (dJ [] (L.take (k+1))=true):=(show _ by rw[hgg,hag];rfl)
        have PD:Hid (good L=dJ (L.take (k+1)) (L.drop (k+1))):=(show good L=_ by rw[hgo,hag];rfl)
        have b1:(t.1 != L[k].inn)=false:=by simp[p1.1]
        have b2:(t.2 != L[k].out)=false:=by simp[p1.2]
        clear hag hgo hgg hR hdt p1 HF HG
        go_wp2_with fail
        refine bC (C:=ah (aQ) _) 2 [0,1,2,3,4,5,6,7,8,9,10,11,12] (by kernel_rfl) (by kernel_rfl) (ah.grows _ _) (ah.refl _ _) ?_
        iterate 2 (apply ay rfl rfl rfl;(focus intro u hc' hf';go_simp<;>rfl);intro K hK;go_simp;apply hK;clear hK K)
        refine aX rfl rfl rfl (ah.grows _ _) (ah.refl _ _) 95 (λK hK=>?_);apply Exists.intro;refine⟨λw' hw'=>?_,λwa dU dS=>?_⟩;(focus go_simp;rfl);refine(yZ L[k].name _ xI).mono ?_;rintro e w8⟨rfl,hb8⟩;refine⟨_,rfl,hb8,λhx=>?_⟩;go_simp;apply hK;clear hK K
        rw[HN.out]
        iterate 2 (apply ay rfl rfl rfl;(focus intro u hc' hf';go_simp<;>rfl);intro K hK;go_simp;apply hK;clear hK K)
        iterate 5 (apply dR rfl rfl (by first|rfl|(simp[Region.wanted,yielded,go_sem]));(focus intro u hc' hf';go_simp<;>rfl);intro K hK;go_simp;apply hK;clear hK K)
        refine pR rfl rfl (ah.grows _ _) (hx) 96 (λK hK=>?_);refine⟨by first|rfl|(simp[Region.wanted,yielded,go_sem]),?_⟩;apply Exists.intro;refine⟨λw' hw'=>?_,λw' hw' hbw=>?_⟩;(focus go_simp;rfl);refine(nN _ (L.take k) _ _ (hvk.keep (up hw')) htl).mono ?_;rintro e w9⟨rfl,bG⟩;refine⟨_,rfl,bG,λhx=>?_⟩;go_simp;apply hK;clear hK K
        rw[Gu.out]
        iterate 1 (apply dR rfl rfl (by first|rfl|(simp[Region.wanted,yielded,go_sem]));(focus intro u hc' hf';go_simp<;>rfl);intro K hK;go_simp;apply hK;clear hK K)
        iterate 1 (apply ay rfl rfl rfl;(focus intro u hc' hf';go_simp<;>rfl);intro K hK;go_simp;apply hK;clear hK K)
        refine aK ?_
        have hW:=up hx
        have hW1:Below (wr.heap.size+1) (wr.alloc (.cells #[.string L[k].name,.int .i64 L[k].inn,.int .i64 L[k].out,.slice va L[k].body.length vc] 101)) w9:=(Below.refl (wr.heap.size+1) _).drew.trans (hx.toBelow.mono (by simp))
        have e1:w9.cell? ⟨wr.heap.size,1,none⟩=some (.int .i64 L[k].inn):=by rw[hW1.cell (p:=⟨wr.heap.size,1,none⟩) (by simp)];go_simp
        have e2:w9.cell? ⟨wr.heap.size,2,none⟩=some (.int .i64 L[k].out):=by rw[hW1.cell (p:=⟨wr.heap.size,2,none⟩) (by simp)];go_simp
        have e3:w9.cell? ⟨wr.heap.size,3,none⟩=some (.slice va L[k].body.length vc):=by rw[hW1.cell (p:=⟨wr.heap.size,3,none⟩) (by simp)];go_simp
        have Qg:wr.heap.size<w9.heap.size:=by have:=hW1.size;simp at this;omega
        clear hW1 hx hb8 bG dU dS hw' hbw
        go_wp2_with fail
        refine bC (C:=ah (aQ) _) 2 [0,1,2,3,4,5,6,7,8,9,10,11,12] (by kernel_rfl) (by kernel_rfl) (ah.grows _ _) (ah.refl _ _) ?_
        iterate 5 (apply ay rfl rfl rfl;(focus intro u hc' hf';go_simp<;>rfl);intro K hK;go_simp;apply hK;clear hK K)
        have nV:∀{w':World},ah aQ w9.drew w'->Below wr.heap.size wr w':=λh=>hW.trans (((Below.refl w9.heap.size w9).drew.trans (h.toBelow.mono (by simp))).mono hW.size)
        refine aX rfl rfl rfl (ah.grows _ _) (ah.refl _ _) 75 (λK hK=>?_);apply Exists.intro;refine⟨λw' hw'=>?_,λwb hwb fB=>?_⟩;(focus go_simp;rfl);refine(P7 _ _ (L.take k) L[k].body t _ (hvk.keep (nV hwb)) htl hsm (hvb.keep (nV hwb)) hok.2 HR.out).mono ?_;rintro e w10⟨rfl,bf⟩;refine⟨_,rfl,bf,λhx=>?_⟩;go_simp;apply hK;clear hK K
        iterate 7 (apply ay rfl rfl rfl;(focus intro u hc' hf';go_simp<;>rfl);intro K hK;go_simp;apply hK;clear hK K)
        refine aK ?_
        have Bq:Below w9.heap.size w9 w10:=(Below.refl w9.heap.size w9).drew.trans (hx.toBelow.mono (by simp))
        have g1:=ak Bq e1
        have g2:=ak Bq e2
        clear bf hwb fB
        go_wp2
        go_roundw
        case rel=>exact⟨k+1,by omega,by go_num,Pz,PD,hbel.trans ((nV hx).mono hsz)⟩
        case measure=>simp[intOf];omega
       ·have HT:Hid (good L=false):=(show good L=false by
         rw[hgo,hag,hR];have:¬(some t=some (L[k].inn,L[k].out)):=λe=>p1 (by have:=Option.some.inj e;rw[this];simp);simp[this])
        have p3:(t.1 != L[k].inn)=true\/((t.1 != L[k].inn)=false/\(t.2 != L[k].out)=true):=by
         by_cases h:t.1=L[k].inn
         ·exact .inr ⟨by simp[h],by simpa using λh'=>p1 ⟨h,h'⟩⟩
         ·exact .inl (by simpa using h)
        clear hag hgo hgg hR p1
        rcases p3 with b1|⟨b1,b2⟩
        all_goals
         go_wp2_with fail
         refine bC (C:=ah (aQ) _) 2 [0,1,2,3,4,5,6,7,8,9,10,11,12] (by kernel_rfl) (by kernel_rfl) (ah.grows _ _) (ah.refl _ _) ?_
         iterate 2 (apply ay rfl rfl rfl;(focus intro u hc' hf';go_simp<;>rfl);intro K hK;go_simp;apply hK;clear hK K)
         refine aX rfl rfl rfl (ah.grows _ _) (ah.refl _ _) 95 (λK hK=>?_);apply Exists.intro;refine⟨λw' hw'=>?_,λwa dU dS=>?_⟩;(focus go_simp;rfl);refine(yZ L[k].name _ xI).mono ?_;rintro e w8⟨rfl,hb8⟩;refine⟨_,rfl,hb8,λhx=>?_⟩;go_simp;apply hK;clear hK K
         rw[HN.out]
         iterate 2 (apply ay rfl rfl rfl;(focus intro u hc' hf';go_simp<;>rfl);intro K hK;go_simp;apply hK;clear hK K)
         iterate 5 (apply dR rfl rfl (by first|rfl|(simp[Region.wanted,yielded,go_sem]));(focus intro u hc' hf';go_simp<;>rfl);intro K hK;go_simp;apply hK;clear hK K)
         refine pR rfl rfl (ah.grows _ _) (hx) 96 (λK hK=>?_);refine⟨by first|rfl|(simp[Region.wanted,yielded,go_sem]),?_⟩;apply Exists.intro;refine⟨λw' hw'=>?_,λw' hw' hbw=>?_⟩;(focus go_simp;rfl);refine(nN _ (L.take k) _ _ (hvk.keep (up hw')) htl).mono ?_;rintro e w9⟨rfl,bG⟩;refine⟨_,rfl,bG,λhx=>?_⟩;go_simp;apply hK;clear hK K
         rw[Gu.out]
         iterate 1 (apply dR rfl rfl (by first|rfl|(simp[Region.wanted,yielded,go_sem]));(focus intro u hc' hf';go_simp<;>rfl);intro K hK;go_simp;apply hK;clear hK K)
         iterate 1 (apply ay rfl rfl rfl;(focus intro u hc' hf';go_simp<;>rfl);intro K hK;go_simp;apply hK;clear hK K)
         refine aK ?_
         have hW:=up hx
         have hW1:Below (wr.heap.size+1) (wr.alloc (.cells #[.string L[k].name,.int .i64 L[k].inn,.int .i64 L[k].out,.slice va L[k].body.length vc] 101)) w9:=(Below.refl (wr.heap.size+1) _).drew.trans (hx.toBelow.mono (by simp))
         have e1:w9.cell? ⟨wr.heap.size,1,none⟩=some (.int .i64 L[k].inn):=by rw[hW1.cell (p:=⟨wr.heap.size,1,none⟩) (by simp)];go_simp
         have e2:w9.cell? ⟨wr.heap.size,2,none⟩=some (.int .i64 L[k].out):=by rw[hW1.cell (p:=⟨wr.heap.size,2,none⟩) (by simp)];go_simp
         have e3:w9.cell? ⟨wr.heap.size,3,none⟩=some (.slice va L[k].body.length vc):=by rw[hW1.cell (p:=⟨wr.heap.size,3,none⟩) (by simp)];go_simp
         have Qg:wr.heap.size<w9.heap.size:=by have:=hW1.size;simp at this;omega
         clear hW1 hx hb8 bG dU dS hw' hbw
         go_wp2_with fail
         refine bC (C:=ah (aQ) _) 2 [0,1,2,3,4,5,6,7,8,9,10,11,12] (by kernel_rfl) (by kernel_rfl) (ah.grows _ _) (ah.refl _ _) ?_
         iterate 5 (apply ay rfl rfl rfl;(focus intro u hc' hf';go_simp<;>rfl);intro K hK;go_simp;apply hK;clear hK K)
         have nV:∀{w':World},ah aQ w9.drew w'->Below wr.heap.size wr w':=λh=>hW.trans (((Below.refl w9.heap.size w9).drew.trans (h.toBelow.mono (by simp))).mono hW.size)
         refine aX rfl rfl rfl (ah.grows _ _) (ah.refl _ _) 75 (λK hK=>?_);apply Exists.intro;refine⟨λw' hw'=>?_,λwb hwb fB=>?_⟩;(focus go_simp;rfl);refine(P7 _ _ (L.take k) L[k].body t _ (hvk.keep (nV hwb)) htl hsm (hvb.keep (nV hwb)) hok.2 HR.out).mono ?_;rintro e w10⟨rfl,bf⟩;refine⟨_,rfl,bf,λhx=>?_⟩;go_simp;apply hK;clear hK K
         iterate 7 (apply ay rfl rfl rfl;(focus intro u hc' hf';go_simp<;>rfl);intro K hK;go_simp;apply hK;clear hK K)
         refine aK ?_
         have Bq:Below w9.heap.size w9 w10:=(Below.refl w9.heap.size w9).drew.trans (hx.toBelow.mono (by simp))
         have g1:=ak Bq e1
         have g2:=ak Bq e2
         clear bf hwb fB
         go_wp2
         go_ret
         exact⟨dI HT.out.symm,hbel.trans ((nV hx).mono hsz)⟩
     ·rw[f2]at hag
      have HT:Hid (good L=false):=(show good L=false by rw[hgo,hag];simp)
      rw[Nat.zero_add]at f1
      have Gu:=Lib.hid f1
      have gi:(0:Int)<=i:=by omega
      clear hag hgo hgg f1 f2
      go_wp2_with fail
      refine bC (C:=ah (aQ) _) 2 [0,1,2,3,4,5,6,7,8,9,10,11,12] (by kernel_rfl) (by kernel_rfl) (ah.grows _ _) (ah.refl _ _) ?_
      iterate 2 (apply ay rfl rfl rfl;(focus intro u hc' hf';go_simp<;>rfl);intro K hK;go_simp;apply hK;clear hK K)
      refine aX rfl rfl rfl (ah.grows _ _) (ah.refl _ _) 95 (λK hK=>?_);apply Exists.intro;refine⟨λw' hw'=>?_,λwa dU dS=>?_⟩;(focus go_simp;rfl);refine(yZ L[k].name _ xI).mono ?_;rintro e w8⟨rfl,hb8⟩;refine⟨_,rfl,hb8,λhx=>?_⟩;go_simp;apply hK;clear hK K
      rw[HN.out]
      iterate 2 (apply ay rfl rfl rfl;(focus intro u hc' hf';go_simp<;>rfl);intro K hK;go_simp;apply hK;clear hK K)
      iterate 5 (apply dR rfl rfl (by first|rfl|(simp[Region.wanted,yielded,go_sem]));(focus intro u hc' hf';go_simp<;>rfl);intro K hK;go_simp;apply hK;clear hK K)
      refine pR rfl rfl (ah.grows _ _) (hx) 96 (λK hK=>?_);refine⟨by first|rfl|(simp[Region.wanted,yielded,go_sem]),?_⟩;apply Exists.intro;refine⟨λw' hw'=>?_,λw' hw' hbw=>?_⟩;(focus go_simp;rfl);refine(nN _ (L.take k) _ _ (hvk.keep (up hw')) htl).mono ?_;rintro e w9⟨rfl,bG⟩;refine⟨_,rfl,bG,λhx=>?_⟩;go_simp;apply hK;clear hK K
      rw[Gu.out]
      iterate 1 (apply dR rfl rfl (by first|rfl|(simp[Region.wanted,yielded,go_sem]));(focus intro u hc' hf';go_simp<;>rfl);intro K hK;go_simp;apply hK;clear hK K)
      iterate 1 (apply ay rfl rfl rfl;(focus intro u hc' hf';go_simp<;>rfl);intro K hK;go_simp;apply hK;clear hK K)
      refine aK ?_
      go_wp2
      go_ret
      exact⟨dI HT.out.symm,hbel.trans ((up hx).mono hsz)⟩
   ·go_wp2
    go_ret
    exact⟨dI (by rw[HF.out,List.drop_eq_nil_of_le (by omega)];rfl),hbel⟩
 ·have HR:=Lib.hid (show good L=false by simp[good,hl]);go_enter Tryz.func51,Tryz.ntmps51;go_wp2;go_ret
  exact⟨dI HR.out.symm,Below.refl _ _⟩
theorem zo.step2 {w wr w7 w':World} {B k:Nat} {v v' vb:Value} {L:List Df} {xs:List (Df×Value)} (e:xs.map Prod.fst=L.take k) (hbel:Below w.heap.size w wr) (hwB:w.heap.size<=B) (hB:B<=wr.heap.size) (hk:k<L.length)
  (hb7:Below wr.heap.size wr w7) (hr:bP w' B v' (xs++[(L[k],vb)])) (hv:∀j,v.ownBlock=some j->w.heap.size<=j) (hg:w7.grownBy w' v.ownBlock):zo w w' B v' L (k+1):=by
 have h2:=hb7.size;have h3:=hg.size;have h1:=hbel.size;refine⟨_,?_,hr,?_,hwB,by omega⟩
 ·rw[List.map_append,e,List.take_succ_eq_append_getElem hk];rfl
 ·exact(hbel.trans (hb7.mono h1)).grown hg (by omega) hv
theorem Kw (v:Value) (L:List Df) (w:World) (hv:aG w v L) (hn:L.length<=1048576) (hs:∀d∈L,d.body.length<=1048576) :
  Calls Tryz.prog 74 #[v] w λe w'=>∃v',e=.returned v'/\cu w' w.heap.size v' L/\Below w.heap.size w w':=by
 obtain⟨a,cap,rfl,hc,hat⟩:=hv;go_enter Tryz.func74,Tryz.ntmps74;go_wp2;go_loopw [3,8] (λv i wr=>∃k:Nat,k<=L.length/\i=.int .i64 k/\zo w wr w.heap.size v L k) (λ_ i _=>L.length-(intOf i).toNat)
 case atStart=>exact⟨0,by omega,rfl,[],by simp,⟨⟨by simp,.inl ⟨rfl,rfl⟩⟩,by simp,List.Pairwise.nil⟩,Below.refl _ _,Nat.le_refl _,Nat.le_refl _⟩
 case round =>
  obtain⟨k,hk,rfl,xs,hxs,hrow,hbel,hwB,hB⟩:=hrel
  have HX:=Lib.hid hxs
  have hxl:xs.length=k:=by have:=congrArg List.length hxs;simp at this;omega
  obtain⟨ao,cp,rfl⟩:=hrow.shape k hxl
  clear hxs
  by_cases hlt:k<L.length
  ·obtain⟨b,o,rfl,_,hnd⟩:=hat k hlt
   obtain⟨c0,c1,c2,vb,c3,hvb⟩:=hnd.keep hbel
   obtain⟨va,vc,rfl⟩:=hvb.slice
   have hbl:=hs L[k] (List.getElem_mem _)
   have PG:xs.length<=1048576:=by omega
   have hlow:=λj hj=>(World.ownsRow.lt hrow.1 j hj)
   have HL:=Lib.hid hxl
   clear hat hnd hs hxl
   go_wp2_with fail
   have hba:Below wr.heap.size wr (wr.alloc (.cells #[.string L[k].name,.int .i64 L[k].inn,.int .i64 L[k].out,.slice va L[k].body.length vc] 101)):=aj _ _
   have up:∀{w':World},ah (λj=>(Value.slice ao k cp).ownBlock=some j) ((wr.alloc (.cells #[.string L[k].name,.int .i64 L[k].inn,.int .i64 L[k].out,.slice va L[k].body.length vc] 101)).drew) w'->wr.heap.size+1<=w'.heap.size:=λh=>by have:=h.size;simpa using this
   refine bC (C:=ah ((λj=>(Value.slice ao k cp).ownBlock=some j)) _) 2 [0,1,2,3,4,5,6,7,8,9,10,11,12,13,14] (by kernel_rfl) (by kernel_rfl) (ah.grows _ _) (ah.refl _ _) ?_
   have nT:¬(Value.slice ao k cp).ownBlock=some wr.heap.size:=λh=>by have:=(hlow _ h).2;omega
   iterate 10 (apply fF rfl rfl rfl;(focus intro u hc' hf';(try simp only[World.size_drew]at hc' hf');go_simp<;>rfl);intro K hK;go_simp;apply hK;clear hK K)
   have XJ:Below wr.heap.size wr ((wr.alloc (.cells #[.string L[k].name,.int .i64 L[k].inn,.int .i64 L[k].out,.slice va L[k].body.length vc] 101)).drew):=hba.drew
   refine aX rfl rfl rfl (ah.grows _ _) (ah.refl _ _) 79 (λK hK=>?_);apply Exists.intro;refine⟨λw' hw'=>?_,λwa dU dS=>?_⟩;(focus go_simp;rfl);refine(Xf _ L[k].body _ (hvb.keep (XJ.trans (dS.mono (by simp)))) hbl).mono ?_;rintro e w3⟨vb3,rfl,Qh,hb3⟩;refine⟨_,rfl,hb3,λhx=>?_⟩;go_simp;apply hK;clear hK K
   have bK:Below wr.heap.size wr w3:=XJ.trans ((dS.trans (hb3.mono dS.size)).mono (by simp))
   obtain⟨Gq,vc3,rfl⟩:=Qh.slice
   have adL:=NU hrow Qh (by have:=up dU;omega)
   have hrow3:=hrow.keep bK
   have hza:=up dU
   iterate 1 (apply fF rfl rfl rfl;(focus intro u hc' hf';(try simp only[World.size_drew]at hc' hf');go_simp<;>rfl);intro K hK;go_simp;apply hK;clear hK K)
   refine fG rfl rfl rfl (ah.grows _ _) (hx) (λb=>.slice (some ⟨b,0,none⟩) 1 1) (λK hK=>?_)
   apply Exists.intro
   refine⟨λw' hw'=>?_,λbb w5 hw5 hb5 aI hNb hnb=>?_⟩
   ·obtain⟨hc',hf'⟩:=hw'.cell
    try simp only[World.size_drew]at hc' hf'
    go_simp
    rfl
   go_simp
   refine hK _ _ _ ?_
   clear hK K
   have vW:=hb5.size
   have vX:Below wr.heap.size wr w5:=bK.trans (hb5.mono bK.size)
   refine UU rfl rfl rfl hw5 (.tmp 12) (.tmp 24) rfl w.heap.size (.slice ao k cp) xs L[k] (.slice Gq L[k].body.length vc3) bb rfl rfl (λj hj=>.inl ⟨by have:=(hlow j hj).2;simp;omega,hj⟩) (by have:=vX.size;omega) PG (hrow3.keep hb5) ((Qh.keep hb5).mono (by omega)) adL aI ?_
   intro K hK w7 w8 v8 hw7 hb7 Bg D5 hw8 Gi
   have hst:=zo.step2 HX.out hbel hwB hB hlt (vX.trans (hb7.mono vX.size)) Bg (λj hj=>(hlow j hj).1) D5
   go_simp
   refine hK _ _ _ ?_
   clear hK K
   obtain⟨ao',cp',rfl⟩:=Bg.shape (k+1) (by simp[HL.out])
   clear Bg D5 Gi
   refine qK rfl rfl rfl (λK hK=>?_)
   apply Exists.intro
   refine⟨λw' hw'=>?_,?_⟩
   ·go_simp
    rfl
   go_simp
   refine hK _ _ _ ?_
   clear hK K
   refine aK ?_
   go_wp2
   go_roundw
   case rel=>exact⟨k+1,by omega,by go_num,hst⟩
   case measure=>simp[intOf];omega
  ·go_wp2
   go_ret
   have hkk:k=L.length:=by omega
   subst hkk
   refine⟨_,rfl,⟨xs,?_,hrow⟩,hbel⟩
   rw[HX.out,List.take_length]
theorem XK (v:Value) (L:List Df) (w:World) (hv:aG w v L) (hn:L.length<=1048576) (hs:∀d∈L,dN d) :
  Calls Tryz.prog 169 #[v] w λe w'=>e=.returned (.tuple #[(if good L then v else .slice none 0 0),.bool (good L)])/\Below w.heap.size w w':=by
 obtain⟨a,cap,rfl⟩:∃a cap,v=.slice a L.length cap:=by obtain⟨a,cap,rfl,_⟩:=hv;exact⟨a,cap,rfl⟩
 cases hg:good L;all_goals
  have HG:=Lib.hid hg
  clear hg
  go_enter Tryz.func169,Tryz.ntmps169
  go_wp2_with (go_at_call 51;refine(nU _ L _ hv hn hs).mono ?_;rintro e w2⟨rfl,hb2⟩;rw[HG.out])
  go_ret2
  exact⟨rfl,hb2⟩
theorem Ky (v:Value) (L:List Df) (w:World) (hv:aG w v L) (hn:L.length<=1048576) (hs:∀d∈L,dN d) (hg:good L=true) :
  Calls Tryz.prog 169 #[v] w λe w'=>e=.returned (.tuple #[v,.bool true])/\Below w.heap.size w w' :=
 (XK v L w hv hn hs).mono λe w' h=>by rw[if_pos hg,hg]at h;exact h
theorem Kz (v:Value) (L:List Df) (w:World) (hv:aG w v L) (hn:L.length<=1048576) (hs:∀d∈L,dN d) (hg:good L=false) :
  Calls Tryz.prog 169 #[v] w λe w'=>e=.returned (.tuple #[.slice none 0 0,.bool false])/\Below w.heap.size w w' :=
 (XK v L w hv hn hs).mono λe w' h=>by rw[if_neg (by rw[hg];simp),hg]at h;exact h
def zF (w:World) (B:Nat) (v:Value) (xs:List (Df×Value)):Prop:=w.ownsRow B 101 4 v xs.length (xs.flatMap bM)/\∀x∈xs,aZ w x.2 x.1.body
theorem zF.at {w:World} {B:Nat} {v:Value} {xs:List (Df×Value)} (h:zF w B v xs):aG w v (xs.map Prod.fst):=by
 have ho':w.ownsRow B 101 4 v (xs.map Prod.fst).length (xs.flatMap bM):=by rw[List.length_map];exact h.1
 refine yw ho' _ λi b o hi' hc=>⟨hi',?_⟩
 have hi:i<xs.length:=by simpa using hi'
 have g:∀j,j<4->w.cell? ⟨b,o+j,none⟩=(bM xs[i])[j]?:=λj hj=>(hc j hj).trans (flat_get mF xs i j hi hj);rw[List.getElem_map];exact⟨g 0 (by omega),g 1 (by omega),g 2 (by omega),xs[i].2,g 3 (by omega),h.2 _ (List.getElem_mem _)⟩
theorem zF.keep {w w':World} {B:Nat} {v:Value} {xs:List (Df×Value)} (hb:Below w.heap.size w w') (h:zF w B v xs):zF w' B v xs :=
 ⟨bW hb h.1,λx hx=>(h.2 x hx).keep hb⟩
theorem vH.keep {w w':World} {v:Value} {xs:List (Df×Value)} (hb:Below w.heap.size w w') (h:vH w v xs):vH w' v xs:=by
 refine⟨iT.mono h.1 λi b o ⟨hi,r⟩=>⟨hi,λj hj=>?_⟩,λx hx=>(h.2 x hx).keep hb⟩;have h1:=r j hj;have h2:(bM xs[i])[j]?=some ((bM xs[i])[j]'(by simpa[bM]using hj)):=List.getElem?_eq_getElem _;rw[h2]at h1 ⊢;exact ak hb h1
theorem Qi {w:World} {b B:Nat} (h:w.heap[b]?=some (.cells #[] 101)) (hB:B<=b):w.ownsRow B 101 4 (.slice (some ⟨b,0,none⟩) 0 0) 0 [] :=
 ⟨rfl,.inr ⟨b,0,#[],rfl,hB,h,Nat.le_refl _,by unfold maxLen;omega,rfl,rfl⟩⟩
theorem adM (v vb:Value) (L:List Df) (d:Df) (w:World) (hv:aG w v L) (hn:L.length<=1048576) (hs:∀x∈L,dN x) (hvb:aZ w vb d.body) (hd:dN d) :
  Calls Tryz.prog 102 #[v,.agg #[.string d.name,.int .i64 d.inn,.int .i64 d.out,vb]] w (lV (jG L d) w):=by
 obtain⟨a,cap,rfl⟩:∃a cap,v=.slice a L.length cap:=by obtain⟨a,cap,rfl,_⟩:=hv;exact⟨a,cap,rfl⟩
 obtain⟨ab,DX,rfl⟩:=hvb.slice;cases hg:good L
 ·have HA:Hid (jG L d=none):=(show jG L d=none by simp[jG,hg])
  have HG:=Lib.hid hg;clear hg;go_enter Tryz.func102,Tryz.ntmps102;go_wp2_with (go_at_call 51;refine(nU _ L _ (hv.keep (aj _ _)) hn hs).mono ?_;rintro e w2⟨rfl,hb2⟩;rw[HG.out])
  go_ret2
  exact⟨_,by rw[HA.out];rfl,by rw[HA.out];exact gY _ _,(aj _ _).trans (hb2.mono (by simp))⟩
 ·have hA:jG L d=cZ (L++[d]):=by simp[jG,hg]
  have HA:=Lib.hid hA;have HG:=Lib.hid hg;have adN:=tK hg;clear hg hA;go_enter Tryz.func102,Tryz.ntmps102;go_wp2_with (go_at_call 51;refine(nU _ L _ (hv.keep (aj _ _)) hn hs).mono ?_;rintro e w2⟨rfl,hb2⟩;rw[HG.out];obtain⟨hc2,hf2,hs2⟩:=bH hb2)
  have hbw:Below w.heap.size w w2:=(aj _ _).trans (hb2.mono (by simp));have hz2:w.heap.size<w2.heap.size:=by have:=hb2.size;simp at this;omega
  have hvw:=hv.keep hbw;have PL:=hvb.keep hbw;obtain⟨xs,hxs,xO⟩:=hvw.vals;have hxl:xs.length=L.length:=by have:=congrArg List.length hxs;simpa using this
  obtain⟨i0,hi,hz0,hz1,hzb⟩:=info_parts Du;have d0:w2.cell? ⟨w.heap.size,0,none⟩=some (.string d.name):=by rw[hc2 _ _ (by simp)];simp
  have d1:w2.cell? ⟨w.heap.size,1,none⟩=some (.int .i64 d.inn):=by rw[hc2 _ _ (by simp)];simp
  have d2:w2.cell? ⟨w.heap.size,2,none⟩=some (.int .i64 d.out):=by rw[hc2 _ _ (by simp)];simp
  have d3:w2.cell? ⟨w.heap.size,3,none⟩=some (.slice ab d.body.length DX):=by rw[hc2 _ _ (by simp)];simp
  clear hc2 hf2 hs2 hb2;have up:∀{w':World},ah aQ w2.drew w'->Below w2.heap.size w2 w':=λh=>(Below.refl w2.heap.size w2).drew.trans (h.toBelow.mono (by simp));have DY:∀x∈L++[d],dN x:=by
   intro x hx;rcases List.mem_append.1 hx with hx|hx
   ·exact hs x hx
   ·simp at hx;subst hx;exact hd
  have KA:∀x∈L++[d],x.body.length<=1048576:=λx hx=>(DY x hx).2.2;have hlen:(L++[d]).length<=1048576:=by simp;omega
  have h1c:=UR xO.2;have lC:=Lib.hid hxl;clear hxl;refine bC (C:=ah (aQ) _) 6 [0,1,2,3,4,5,6,7,8,9,10,11] (by kernel_rfl) (by kernel_rfl) (ah.grows _ _) (ah.refl _ _) ?_;refine fG rfl rfl rfl (ah.grows _ _) (ah.refl _ _) (λb=>.slice (some ⟨b,0,none⟩) 0 0) (λK hK=>?_);apply Exists.intro;refine⟨λw' hw'=>?_,λb0 w3 hw3 hb3 XL hN3 hn3=>?_⟩
  ·obtain⟨hc',hf'⟩:=hw'.cell;try simp only[World.size_drew]at hc' hf'
   go_simp;rfl
  go_simp;refine hK _ _ _ ?_;clear hK K;iterate 1 (apply ay rfl rfl rfl;(focus intro u hc' hf';go_simp<;>rfl);intro K hK;go_simp;apply hK;clear hK K)
  refine rU rfl rfl rfl hw3 (.tmp 9) (.tmp 10) 24 rfl w.heap.size 101 i0 _ 4 56 Tryz.underlying24 hi hz0 hz1 hzb rfl (by decide) (.slice (some ⟨b0,0,none⟩) 0 0) 0 [] rfl (λk hk=>.inr ⟨by simp[Value.ownBlock]at hk;subst hk;exact hN3,by simp[Value.ownBlock]at hk;subst hk;simp⟩) (.slice a L.length cap) L.length (xs.flatMap bM) rfl h1c (by unfold maxLen;omega) (by omega) (by have:=(up hw3).size;omega) ?_ ?_
  ·intro w4 hw4 hb4;refine⟨Qi ((hb4.block b0 (made_cell XL).2.2).trans XL) (by simp at hN3;omega),?_⟩;have:=(xO.keep (up hw4)).src;rw[lC.out]at this;exact this
  intro K hK w4 w5 v5 hw4 hb4 hown5 hg5 hw5 hl5;go_simp;refine hK _ _ _ ?_;clear hK K;iterate 1 (apply ay rfl rfl rfl;(focus intro u hc' hf';go_simp<;>rfl);intro K hK;go_simp;apply hK;clear hK K)
  have dZ:w5.ownsRow w.heap.size 101 4 v5 L.length (xs.flatMap bM):=by simpa using hown5
  refine fG rfl rfl rfl (ah.grows _ _) (hw5) (λb=>.slice (some ⟨b,0,none⟩) 1 1) (λK hK=>?_);apply Exists.intro;refine⟨λw' hw'=>?_,λb1 w6 hw6 hb6 zG Bv Bz=>?_⟩
  ·obtain⟨hc',hf'⟩:=hw'.cell;try simp only[World.size_drew]at hc' hf'
   go_simp;rfl
  go_simp;refine hK _ _ _ ?_;clear hK K;have XM:=hg5.size;have ahB:=hb4.size;have ahC:=hb3.size;have hN5:∀k,v5.ownBlock=some k->w2.drew.heap.size<=k:=λk hk=>by
   rcases hl5 with h|h
   ·rw[h]at hk;simp[Value.ownBlock]at hk;subst hk;exact hN3
   ·rw[h]at hk;obtain rfl:=Option.some.inj hk;omega
  have hM5:∀k,v5.ownBlock=some k->k=b0\/(w4.heap.size<=k/\k<w5.heap.size):=λk hk=>by
   rcases hl5 with h|h
   ·rw[h]at hk;simp[Value.ownBlock]at hk;exact .inl hk.symm
   ·have hlt:=(World.ownsRow.lt dZ k hk).2;rw[h]at hk;obtain rfl:=Option.some.inj hk;exact .inr ⟨Nat.le_refl _,hlt⟩
  have hdc:∀u∈bM (d,.slice ab d.body.length DX),u.oneCell'=true:=by
   intro u hu;simp[bM]at hu;rcases hu with rfl|rfl|rfl|rfl<;>rfl
  refine rU rfl rfl rfl hw6 (.tmp 11) (.tmp 13) 24 rfl w.heap.size 101 i0 _ 4 56 Tryz.underlying24 hi hz0 hz1 hzb rfl (by decide) v5 L.length (xs.flatMap bM) rfl (λk hk=>.inr ⟨hN5 k hk,by have:=hM5 k hk;simp[more];omega⟩) (.slice (some ⟨b1,0,none⟩) 1 1) 1 (bM (d,.slice ab d.body.length DX)) rfl hdc (by unfold maxLen;omega) (by omega) (by have:=(up hw6).size;omega) ?_ ?_
  ·intro w7 hw7 hb7;refine⟨bW ((hb6.trans (hb7.mono hb6.size))) dZ,rfl,.inr ⟨_,1,rfl,?_⟩⟩;obtain⟨m0,_,_⟩:=made_cell ((hb7.block b1 (made_cell zG).2.2).trans zG);intro j u hj;match j,hj with
   | 0,hj=>simp[bM]at hj;subst hj;simp[Addr.add,m0]
   | 1,hj=>simp[bM]at hj;subst hj;simp[Addr.add,m0]
   | 2,hj=>simp[bM]at hj;subst hj;simp[Addr.add,m0]
   | 3,hj=>simp[bM]at hj;subst hj;simp[Addr.add,m0]
  intro K hK w7 w8 v8 hw7 hb7 zH D5 hw8 Gi;have Gv:zF w8 w.heap.size v8 (xs++[(d,.slice ab d.body.length DX)]):=by
   refine⟨by rw[List.length_append,lC.out,List.flatMap_append];simpa using zH,λx hx=>?_⟩;rcases List.mem_append.1 hx with hx|hx
   ·exact(xO.2 x hx).keep (up hw8)
   ·simp at hx;subst hx;exact PL.keep (up hw8)
  have zq:aG w8 v8 (L++[d]):=by have:=Gv.at;rwa [List.map_append,hxs]at this
  obtain⟨a8,c8,rfl⟩:=jW zH;go_simp;refine hK _ _ _ ?_;clear hK K;refine aX rfl rfl rfl (ah.grows _ _) (hw8) 74 (λK hK=>?_);apply Exists.intro;refine⟨λw' hw'=>?_,λwc hwc kG=>?_⟩;(focus go_simp;rfl);refine(Kw _ (L++[d]) _ (zq.keep kG) hlen KA).mono ?_;rintro e w9⟨v9,rfl,iL,bG⟩;refine⟨_,rfl,bG,λhx=>?_⟩;go_simp;apply hK;clear hK K;have hzc:=(up hwc).size;cases hg2:good (L++[d])
  ·have HO:Hid (cZ (L++[d])=none):=(show cZ _=none by unfold cZ;rw[hg2];rfl)
   have HG2:=Lib.hid hg2;clear hg2;refine aX rfl rfl rfl (ah.grows _ _) (hx) 169 (λK hK=>?_);apply Exists.intro;refine⟨λw' hw'=>?_,λwe hwe kH=>?_⟩;(focus go_simp;rfl);refine(Kz _ (L++[d]) _ (iL.at.keep kH) hlen DY HG2.out).mono ?_;rintro e w10⟨rfl,bf⟩;refine⟨_,rfl,bf,λhx=>?_⟩;go_simp;apply hK;clear hK K;iterate 4 (apply ay rfl rfl rfl;(focus intro u hc' hf';go_simp<;>rfl);intro K hK;go_simp;apply hK;clear hK K)
   refine aK ?_;go_wp2;go_ret2
   refine⟨_,by rw[HA.out,HO.out];rfl,by rw[HA.out,HO.out];exact gY _ _,hbw.trans ((up hx).mono (by omega))⟩
  ·have HO:Hid (cZ (L++[d])=some (L++[d])):=(show cZ _=some _ by unfold cZ;rw[hg2];rfl)
   have HG2:=Lib.hid hg2;clear hg2;refine aX rfl rfl rfl (ah.grows _ _) (hx) 169 (λK hK=>?_);apply Exists.intro;refine⟨λw' hw'=>?_,λwe hwe kH=>?_⟩;(focus go_simp;rfl);refine(Ky _ (L++[d]) _ (iL.at.keep kH) hlen DY HG2.out).mono ?_;rintro e w10⟨rfl,bf⟩;refine⟨_,rfl,bf,λhx=>?_⟩;go_simp;apply hK;clear hK K;iterate 4 (apply ay rfl rfl rfl;(focus intro u hc' hf';go_simp<;>rfl);intro K hK;go_simp;apply hK;clear hK K)
   refine aK ?_;go_wp2;go_ret2
   refine⟨_,by rw[HA.out,HO.out];rfl,?_,hbw.trans ((up hx).mono (by omega))⟩;rw[HA.out,HO.out];exact((iL.mono (by omega)).keep (kH.trans (bf.mono kH.size)))
theorem addr_add (b o j:Nat):(⟨b,o,none⟩:Addr).add j=⟨b,o+j,none⟩:=by
 unfold Addr.add;split
 ·rename_i h0;subst h0;rfl
 ·rfl
theorem adO (v:Value) (L:List Df) (s:ByteArray) (w:World) (hv:aG w v L) (hn:L.length<=1048576) (hs:∀x∈L,dN x) :
  Calls Tryz.prog 104 #[v,.string s] w (lV (iO L s) w):=by
 obtain⟨a,cap,rfl⟩:∃a cap,v=.slice a L.length cap:=by obtain⟨a,cap,rfl,_⟩:=hv;exact⟨a,cap,rfl⟩
 have mM:=oO s L 0;cases hg:good L
 ·have HA:Hid (iO L s=none):=(show iO L s=none by simp[iO,hg])
  have HG:=Lib.hid hg;clear hg mM;go_enter Tryz.func104,Tryz.ntmps104;go_wp2_with (first|(go_at_call 96;refine(nN _ L _ _ hv hn).mono ?_;rintro e w2⟨rfl,hb2⟩)|(go_at_call 51;refine(nU _ L _ (hv.keep hb2) hn hs).mono ?_;rintro e w3⟨rfl,hb3⟩;rw[HG.out]))
  go_ret2
  exact⟨_,by rw[HA.out];rfl,by rw[HA.out];exact gY _ _,hb2.trans (hb3.mono hb2.size)⟩
 ·rcases mM with⟨f1,f2⟩|⟨i,hi,f1,f2⟩
  ·have HA:Hid (iO L s=none):=(show iO L s=none by simp[iO,f1])
   have HG:=Lib.hid hg;have HF:=Lib.hid f1;clear hg f1 f2;go_enter Tryz.func104,Tryz.ntmps104;go_wp2_with (first|(go_at_call 96;refine(nN _ L _ _ hv hn).mono ?_;rintro e w2⟨rfl,hb2⟩;rw[HF.out])|(go_at_call 51;refine(nU _ L _ (hv.keep hb2) hn hs).mono ?_;rintro e w3⟨rfl,hb3⟩;rw[HG.out]))
   go_ret2
   exact⟨_,by rw[HA.out];rfl,by rw[HA.out];exact gY _ _,hb2.trans (hb3.mono hb2.size)⟩
  ·rw[Nat.zero_add]at f1;have HA:Hid (iO L s=cZ (L.eraseIdx i)):=(show iO L s=_ by simp[iO,f1,hg])
   have zu:∀x∈L.eraseIdx i,dN x:=λx hx=>hs x (List.mem_of_mem_eraseIdx hx);have KA:∀x∈L.eraseIdx i,x.body.length<=1048576:=λx hx=>(zu x hx).2.2;have hlen:(L.eraseIdx i).length<=1048576:=by have:=List.length_eraseIdx_le L i;omega
   have HG:=Lib.hid hg;have HF:=Lib.hid f1;have adN:=tK hg;have gi:¬((i:Int)<0):=by omega
   have hiB:(i:Int)<=1048576:=by omega
   clear hg f1 f2;go_enter Tryz.func104,Tryz.ntmps104;go_wp2_with (first|(go_at_call 96;refine(nN _ L _ _ hv hn).mono ?_;rintro e w2⟨rfl,hb2⟩;rw[HF.out])|(go_at_call 51;refine(nU _ L _ (hv.keep hb2) hn hs).mono ?_;rintro e w3⟨rfl,hb3⟩;rw[HG.out];have bK:=hb2.trans (hb3.mono hb2.size)))
   obtain⟨xs,hxs,xO⟩:=(hv.keep bK).vals;have hxl:xs.length=L.length:=by have:=congrArg List.length hxs;simpa using this
   obtain⟨i0,hi0,hz0,hz1,hzb⟩:=info_parts Du;obtain⟨ad,hcells⟩:∃ad:Addr,a=some ad/\∃b o,ad=⟨b,o,none⟩/\b<w3.heap.size/\∀j u,(xs.flatMap bM)[j]?=some u->w3.cell? ⟨b,o+j,none⟩=some u:=by
    obtain⟨hl,hh⟩:=xO.src;rcases hh with⟨h0,_⟩|⟨ad,c,he,hc⟩
    ·omega
    ·simp only[Value.slice.injEq]at he;obtain⟨⟨a',c',he',hc',hat⟩,_⟩:=xO;simp only[Value.slice.injEq]at he';obtain⟨b,o,h1,hi',h2⟩:=hat 0 (by omega);rw[he'.1,h1]at he;have had:ad=⟨b,o,none⟩:=(Option.some.inj he.1).symm;subst had;refine⟨_,by rw[he'.1,h1],b,o,rfl,?_,λj u hj=>?_⟩
     ·have:=h2 0 (by omega);exact cell_lt (v:=.string xs[0].1.name) (by simpa[bM]using this)
     ·have:=hc j u hj;have hadd:=addr_add b o j;rwa [hadd]at this
   obtain⟨rfl,b,o,rfl,hbz,hcells⟩:=hcells;have hc:L.length<=cap:=by obtain⟨a',c',he',hc',_⟩:=hv;simp only[Value.slice.injEq]at he';rw[he'.2.2];exact hc'
   have e1:IntKind.i64.wrap ((i:Int)+1)=(i:Int)+1:=IntWalk.i64_in _ (by omega);have e2:((i:Int)+1).toNat=i+1:=by omega
   have e3:(i:Int)<=cap:=by omega
   have e4:(i:Int)+1<=L.length:=by omega
   have h1c:=UR xO.2;have up:∀{w':World},ah aQ w3.drew w'->Below w3.heap.size w3 w':=λh=>(Below.refl w3.heap.size w3).drew.trans (h.toBelow.mono (by simp));by_cases hcap:cap=i+1
   ·have adP:L.length=i+1:=by omega
    have hLi:L.length<=i+1:=by omega
    clear adP;have e5:(i:Int)<=(i:Int)+1:=by omega
    subst hcap;refine bC (C:=ah (aQ) _) 6 [0,1,2,3,4,5,6,7,8,9,10,11,12,13,14,15] (by kernel_rfl) (by kernel_rfl) (ah.grows _ _) (ah.refl _ _) ?_;refine fG rfl rfl rfl (ah.grows _ _) (ah.refl _ _) (λb=>.slice (some ⟨b,0,none⟩) 0 0) (λK hK=>?_);apply Exists.intro;refine⟨λw' hw'=>?_,λb0 w4 hw4 hb4 Gw BA hn4=>?_⟩
    ·obtain⟨hc',hf'⟩:=hw'.cell;try simp only[World.size_drew]at hc' hf'
     go_simp;rfl
    go_simp;refine hK _ _ _ ?_;clear hK K;iterate 3 (apply ay rfl rfl rfl;(focus intro u hc' hf';go_simp<;>rfl);intro K hK;go_simp;apply hK;clear hK K)
    refine rU rfl rfl rfl hw4 (.tmp 17) (.tmp 20) 24 rfl w.heap.size 101 i0 _ 4 56 Tryz.underlying24 hi0 hz0 hz1 hzb rfl (by decide) (.slice (some ⟨b0,0,none⟩) 0 0) 0 [] rfl (λk hk=>.inr ⟨by simp[Value.ownBlock]at hk;subst hk;exact BA,by simp[Value.ownBlock]at hk;subst hk;simp⟩) (.slice (some ⟨b,o,none⟩) i (i+1)) i ((xs.take i).flatMap bM) rfl (λu hu=>h1c u (by rw[<-List.take_append_drop i xs,List.flatMap_append];exact List.mem_append_left _ hu)) (by unfold maxLen;omega) (by omega) (by have:=(up hw4).size;have:=bK.size;omega) ?_ ?_
    ·intro w5 hw5 hb5;refine⟨Qi ((hb5.block b0 (made_cell Gw).2.2).trans Gw) (by have:=bK.size;simp at BA;omega),?_⟩;refine⟨by rw[flat_length mF,List.length_take,hxl];omega,.inr ⟨_,i+1,rfl,λj u hj=>?_⟩⟩;have hadd:=addr_add b o j;rw[hadd];refine ak (up hw5) (hcells j u ?_);rw[<-List.take_append_drop i xs,List.flatMap_append];have hlt:j<((xs.take i).flatMap bM).length:=by
      rcases Nat.lt_or_ge j ((xs.take i).flatMap bM).length with h|h
      ·exact h
      ·rw[List.getElem?_eq_none h]at hj;cases hj
     rw[List.getElem?_append_left hlt];exact hj
    intro K hK w5 w6 v6 hw5 hb5 hown6 Qj hw6 mP;go_simp;refine hK _ _ _ ?_;clear hK K;have dK:w6.ownsRow w.heap.size 101 4 v6 i ((xs.take i).flatMap bM):=by simpa using hown6
    iterate 4 (apply ay rfl rfl rfl;(focus intro u hc' hf';go_simp<;>rfl);intro K hK;go_simp;apply hK;clear hK K)
    have adQ:=Qj.size;have XM:=hb5.size;have Bv:∀k,v6.ownBlock=some k->w3.drew.heap.size<=k:=λk hk=>by
     rcases mP with h|h
     ·rw[h]at hk;simp[Value.ownBlock]at hk;subst hk;exact BA
     ·rw[h]at hk;obtain rfl:=Option.some.inj hk;have:=hb4.size;omega
    have Qk:∀k,v6.ownBlock=some k->k=b0\/(w5.heap.size<=k/\k<w6.heap.size):=λk hk=>by
     rcases mP with h|h
     ·rw[h]at hk;simp[Value.ownBlock]at hk;exact .inl hk.symm
     ·have hlt:=(World.ownsRow.lt dK k hk).2;rw[h]at hk;obtain rfl:=Option.some.inj hk;exact .inr ⟨Nat.le_refl _,hlt⟩
    refine rU rfl rfl rfl hw6 (.tmp 21) (.tmp 25) 24 rfl w.heap.size 101 i0 _ 4 56 Tryz.underlying24 hi0 hz0 hz1 hzb rfl (by decide) v6 i ((xs.take i).flatMap bM) rfl (λk hk=>.inr ⟨Bv k hk,by have:=Qk k hk;simp[more];omega⟩) (.slice (some ⟨b,o,none⟩) 0 0) (0) ((xs.drop (i+1)).flatMap bM) rfl (λu hu=>h1c u (by rw[<-List.take_append_drop (i+1) xs,List.flatMap_append];exact List.mem_append_right _ hu)) (by unfold maxLen;omega) (by omega) (by have:=(up hw6).size;have:=bK.size;omega) ?_ ?_
    ·intro w7 hw7 hb7;refine⟨bW hb7 dK,?_⟩;have hd0:(xs.drop (i+1)).flatMap bM=[]:=by rw[List.drop_eq_nil_of_le (by omega)];rfl
     rw[hd0];exact⟨rfl,.inr ⟨_,0,rfl,by simp⟩⟩
    intro K hK w7 w8 v8 hw7 hb7 zH D5 hw8 Gi;have Gv:zF w8 w.heap.size v8 (xs.eraseIdx i):=by
     refine⟨?_,λx hx=>(xO.2 x (List.mem_of_mem_eraseIdx hx)).keep (up hw8)⟩;rw[show(xs.eraseIdx i).length=i+(0)by rw[List.length_eraseIdx];simp[hxl,hi];omega,JY,List.flatMap_append];exact zH
    have zq:aG w8 v8 (L.eraseIdx i):=by have:=Gv.at;rwa [Gj,hxs]at this
    obtain⟨a8,c8,rfl⟩:=jW zH;go_simp;refine hK _ _ _ ?_;clear hK K;refine aX rfl rfl rfl (ah.grows _ _) (hw8) 74 (λK hK=>?_);apply Exists.intro;refine⟨λw' hw'=>?_,λwc hwc kG=>?_⟩;(focus go_simp;rfl);refine(Kw _ (L.eraseIdx i) _ (zq.keep kG) hlen KA).mono ?_;rintro e w9⟨v9,rfl,iL,bG⟩;refine⟨_,rfl,bG,λhx=>?_⟩;go_simp;apply hK;clear hK K;have hzc:=(up hwc).size;have adR:=bK.size;cases hg2:good (L.eraseIdx i)
    ·have HO:Hid (cZ (L.eraseIdx i)=none):=(show cZ _=none by unfold cZ;rw[hg2];rfl)
     have HG2:=Lib.hid hg2;clear hg2;refine aX rfl rfl rfl (ah.grows _ _) (hx) 169 (λK hK=>?_);apply Exists.intro;refine⟨λw' hw'=>?_,λwe hwe kH=>?_⟩;(focus go_simp;rfl);refine(Kz _ (L.eraseIdx i) _ (iL.at.keep kH) hlen zu HG2.out).mono ?_;rintro e w10⟨rfl,bf⟩;refine⟨_,rfl,bf,λhx=>?_⟩;go_simp;apply hK;clear hK K;iterate 4 (apply ay rfl rfl rfl;(focus intro u hc' hf';go_simp<;>rfl);intro K hK;go_simp;apply hK;clear hK K)
     refine aK ?_;go_wp2;go_ret2
     refine⟨_,by rw[HA.out,HO.out];rfl,by rw[HA.out,HO.out];exact gY _ _,bK.trans ((up hx).mono (by omega))⟩
    ·have HO:Hid (cZ (L.eraseIdx i)=some (L.eraseIdx i)):=(show cZ _=some _ by unfold cZ;rw[hg2];rfl)
     have HG2:=Lib.hid hg2;clear hg2;refine aX rfl rfl rfl (ah.grows _ _) (hx) 169 (λK hK=>?_);apply Exists.intro;refine⟨λw' hw'=>?_,λwe hwe kH=>?_⟩;(focus go_simp;rfl);refine(Ky _ (L.eraseIdx i) _ (iL.at.keep kH) hlen zu HG2.out).mono ?_;rintro e w10⟨rfl,bf⟩;refine⟨_,rfl,bf,λhx=>?_⟩;go_simp;apply hK;clear hK K;iterate 4 (apply ay rfl rfl rfl;(focus intro u hc' hf';go_simp<;>rfl);intro K hK;go_simp;apply hK;clear hK K)
     refine aK ?_;go_wp2;go_ret2
     refine⟨_,by rw[HA.out,HO.out];rfl,?_,bK.trans ((up hx).mono (by omega))⟩;rw[HA.out,HO.out];exact((iL.mono (by omega)).keep (kH.trans (bf.mono kH.size)))
   ·have hcap':¬i+1=cap:=λh=>hcap h.symm;refine bC (C:=ah (aQ) _) 6 [0,1,2,3,4,5,6,7,8,9,10,11,12,13,14,15] (by kernel_rfl) (by kernel_rfl) (ah.grows _ _) (ah.refl _ _) ?_;refine fG rfl rfl rfl (ah.grows _ _) (ah.refl _ _) (λb=>.slice (some ⟨b,0,none⟩) 0 0) (λK hK=>?_);apply Exists.intro;refine⟨λw' hw'=>?_,λb0 w4 hw4 hb4 Gw BA hn4=>?_⟩
    ·obtain⟨hc',hf'⟩:=hw'.cell;try simp only[World.size_drew]at hc' hf'
     go_simp;rfl
    go_simp;refine hK _ _ _ ?_;clear hK K;iterate 3 (apply ay rfl rfl rfl;(focus intro u hc' hf';go_simp<;>rfl);intro K hK;go_simp;apply hK;clear hK K)
    refine rU rfl rfl rfl hw4 (.tmp 17) (.tmp 20) 24 rfl w.heap.size 101 i0 _ 4 56 Tryz.underlying24 hi0 hz0 hz1 hzb rfl (by decide) (.slice (some ⟨b0,0,none⟩) 0 0) 0 [] rfl (λk hk=>.inr ⟨by simp[Value.ownBlock]at hk;subst hk;exact BA,by simp[Value.ownBlock]at hk;subst hk;simp⟩) (.slice (some ⟨b,o,none⟩) i cap) i ((xs.take i).flatMap bM) rfl (λu hu=>h1c u (by rw[<-List.take_append_drop i xs,List.flatMap_append];exact List.mem_append_left _ hu)) (by unfold maxLen;omega) (by omega) (by have:=(up hw4).size;have:=bK.size;omega) ?_ ?_
    ·intro w5 hw5 hb5;refine⟨Qi ((hb5.block b0 (made_cell Gw).2.2).trans Gw) (by have:=bK.size;simp at BA;omega),?_⟩;refine⟨by rw[flat_length mF,List.length_take,hxl];omega,.inr ⟨_,cap,rfl,λj u hj=>?_⟩⟩;have hadd:=addr_add b o j;rw[hadd];refine ak (up hw5) (hcells j u ?_);rw[<-List.take_append_drop i xs,List.flatMap_append];have hlt:j<((xs.take i).flatMap bM).length:=by
      rcases Nat.lt_or_ge j ((xs.take i).flatMap bM).length with h|h
      ·exact h
      ·rw[List.getElem?_eq_none h]at hj;cases hj
     rw[List.getElem?_append_left hlt];exact hj
    intro K hK w5 w6 v6 hw5 hb5 hown6 Qj hw6 mP;go_simp;refine hK _ _ _ ?_;clear hK K;have dK:w6.ownsRow w.heap.size 101 4 v6 i ((xs.take i).flatMap bM):=by simpa using hown6
    iterate 4 (apply ay rfl rfl rfl;(focus intro u hc' hf';go_simp<;>rfl);intro K hK;go_simp;apply hK;clear hK K)
    have adQ:=Qj.size;have XM:=hb5.size;have Bv:∀k,v6.ownBlock=some k->w3.drew.heap.size<=k:=λk hk=>by
     rcases mP with h|h
     ·rw[h]at hk;simp[Value.ownBlock]at hk;subst hk;exact BA
     ·rw[h]at hk;obtain rfl:=Option.some.inj hk;have:=hb4.size;omega
    have Qk:∀k,v6.ownBlock=some k->k=b0\/(w5.heap.size<=k/\k<w6.heap.size):=λk hk=>by
     rcases mP with h|h
     ·rw[h]at hk;simp[Value.ownBlock]at hk;exact .inl hk.symm
     ·have hlt:=(World.ownsRow.lt dK k hk).2;rw[h]at hk;obtain rfl:=Option.some.inj hk;exact .inr ⟨Nat.le_refl _,hlt⟩
    refine rU rfl rfl rfl hw6 (.tmp 21) (.tmp 25) 24 rfl w.heap.size 101 i0 _ 4 56 Tryz.underlying24 hi0 hz0 hz1 hzb rfl (by decide) v6 i ((xs.take i).flatMap bM) rfl (λk hk=>.inr ⟨Bv k hk,by have:=Qk k hk;simp[more];omega⟩) (.slice (some ⟨b,o+(i+1)*4,none⟩) (L.length-(i+1)) (cap-(i+1))) (L.length-(i+1)) ((xs.drop (i+1)).flatMap bM) rfl (λu hu=>h1c u (by rw[<-List.take_append_drop (i+1) xs,List.flatMap_append];exact List.mem_append_right _ hu)) (by unfold maxLen;omega) (by omega) (by have:=(up hw6).size;have:=bK.size;omega) ?_ ?_
    ·intro w7 hw7 hb7;refine⟨bW hb7 dK,?_⟩;refine⟨by rw[flat_length mF,List.length_drop,hxl],.inr ⟨_,_,rfl,λj u hj=>?_⟩⟩;have hadd:=addr_add b (o+(i+1)*4) j;rw[Nat.add_assoc]at hadd;rw[hadd];refine ak (up hw7) (hcells _ u ?_);rw[<-List.take_append_drop (i+1) xs,List.flatMap_append];have hl:((xs.take (i+1)).flatMap bM).length=(i+1)*4:=by rw[flat_length mF,List.length_take,hxl];congr 1;omega
     rw[List.getElem?_append_right (by omega),hl,Nat.add_sub_cancel_left];exact hj
    intro K hK w7 w8 v8 hw7 hb7 zH D5 hw8 Gi;have Gv:zF w8 w.heap.size v8 (xs.eraseIdx i):=by
     refine⟨?_,λx hx=>(xO.2 x (List.mem_of_mem_eraseIdx hx)).keep (up hw8)⟩;rw[show(xs.eraseIdx i).length=i+(L.length-(i+1))by rw[List.length_eraseIdx];simp[hxl,hi];omega,JY,List.flatMap_append];exact zH
    have zq:aG w8 v8 (L.eraseIdx i):=by have:=Gv.at;rwa [Gj,hxs]at this
    obtain⟨a8,c8,rfl⟩:=jW zH;go_simp;refine hK _ _ _ ?_;clear hK K;refine aX rfl rfl rfl (ah.grows _ _) (hw8) 74 (λK hK=>?_);apply Exists.intro;refine⟨λw' hw'=>?_,λwc hwc kG=>?_⟩;(focus go_simp;rfl);refine(Kw _ (L.eraseIdx i) _ (zq.keep kG) hlen KA).mono ?_;rintro e w9⟨v9,rfl,iL,bG⟩;refine⟨_,rfl,bG,λhx=>?_⟩;go_simp;apply hK;clear hK K;have hzc:=(up hwc).size;have adR:=bK.size;cases hg2:good (L.eraseIdx i)
    ·have HO:Hid (cZ (L.eraseIdx i)=none):=(show cZ _=none by unfold cZ;rw[hg2];rfl)
     have HG2:=Lib.hid hg2;clear hg2;refine aX rfl rfl rfl (ah.grows _ _) (hx) 169 (λK hK=>?_);apply Exists.intro;refine⟨λw' hw'=>?_,λwe hwe kH=>?_⟩;(focus go_simp;rfl);refine(Kz _ (L.eraseIdx i) _ (iL.at.keep kH) hlen zu HG2.out).mono ?_;rintro e w10⟨rfl,bf⟩;refine⟨_,rfl,bf,λhx=>?_⟩;go_simp;apply hK;clear hK K;iterate 4 (apply ay rfl rfl rfl;(focus intro u hc' hf';go_simp<;>rfl);intro K hK;go_simp;apply hK;clear hK K)
     refine aK ?_;go_wp2;go_ret2
     refine⟨_,by rw[HA.out,HO.out];rfl,by rw[HA.out,HO.out];exact gY _ _,bK.trans ((up hx).mono (by omega))⟩
    ·have HO:Hid (cZ (L.eraseIdx i)=some (L.eraseIdx i)):=(show cZ _=some _ by unfold cZ;rw[hg2];rfl)
     have HG2:=Lib.hid hg2;clear hg2;refine aX rfl rfl rfl (ah.grows _ _) (hx) 169 (λK hK=>?_);apply Exists.intro;refine⟨λw' hw'=>?_,λwe hwe kH=>?_⟩;(focus go_simp;rfl);refine(Ky _ (L.eraseIdx i) _ (iL.at.keep kH) hlen zu HG2.out).mono ?_;rintro e w10⟨rfl,bf⟩;refine⟨_,rfl,bf,λhx=>?_⟩;go_simp;apply hK;clear hK K;iterate 4 (apply ay rfl rfl rfl;(focus intro u hc' hf';go_simp<;>rfl);intro K hK;go_simp;apply hK;clear hK K)
     refine aK ?_;go_wp2;go_ret2
     refine⟨_,by rw[HA.out,HO.out];rfl,?_,bK.trans ((up hx).mono (by omega))⟩;rw[HA.out,HO.out];exact((iL.mono (by omega)).keep (kH.trans (bf.mono kH.size)))
theorem adS (v:Value) (L:List Df) (s t:ByteArray) (w:World) (hv:aG w v L) (hn:L.length<=1048576) (hs:∀x∈L,dN x) (ht:t.size<=1048576) :
  Calls Tryz.prog 105 #[v,.string s,.string t] w (lV (iF L s t) w):=by
 obtain⟨a,cap,rfl⟩:∃a cap,v=.slice a L.length cap:=by obtain⟨a,cap,rfl,_⟩:=hv;exact⟨a,cap,rfl⟩
 have mM:=oO s L 0;cases hg:good L
 ·have HA:Hid (iF L s t=none):=(show iF L s t=none by simp[iF,hg])
  have HG:=Lib.hid hg;clear hg mM;go_enter Tryz.func105,Tryz.ntmps105;go_wp2_with (first|(go_at_call 51;refine(nU _ L _ hv hn hs).mono ?_;rintro e w3⟨rfl,hb3⟩;rw[HG.out]))
  go_ret2
  exact⟨_,by rw[HA.out];rfl,by rw[HA.out];exact gY _ _,hb3⟩
 ·rcases mM with⟨f1,f2⟩|⟨i0,hi0,f1,f2⟩
  ·have HA:Hid (iF L s t=none):=(show iF L s t=none by simp[iF,f1])
   have HG:=Lib.hid hg;have HF:=Lib.hid f1;clear hg f1 f2;go_enter Tryz.func105,Tryz.ntmps105;go_wp2_with (first|(go_at_call 96;refine(nN _ L _ _ (hv.keep hb3) hn).mono ?_;rintro e w2⟨rfl,hb2⟩;rw[HF.out])|(go_at_call 51;refine(nU _ L _ hv hn hs).mono ?_;rintro e w3⟨rfl,hb3⟩;rw[HG.out]))
   go_ret2
   exact⟨_,by rw[HA.out];rfl,by rw[HA.out];exact gY _ _,hb3.trans (hb2.mono hb3.size)⟩
  ·rw[Nat.zero_add]at f1;have HA:Hid (iF L s t=cZ (L.map (ig s t))):=(show iF L s t=_ by simp[iF,f1,hg])
   have Gm:=Xo (a:=s) hs ht;have hlm:(L.map (ig s t)).length<=1048576:=by simpa using hn
   have HG:=Lib.hid hg;have HF:=Lib.hid f1;have gi:¬((i0:Int)<0):=by omega
   clear hg f1 f2;go_enter Tryz.func105,Tryz.ntmps105;go_wp2_with (first|(go_at_call 96;refine(nN _ L _ _ (hv.keep hb3) hn).mono ?_;rintro e w2⟨rfl,hb2⟩;rw[HF.out];have hb2':=hb3.trans (hb2.mono hb3.size))|(go_at_call 51;refine(nU _ L _ hv hn hs).mono ?_;rintro e w3⟨rfl,hb3⟩;rw[HG.out])|(go_at_call 74;refine(Kw _ L _ (hv.keep hb2') hn (λx hx=>(hs x hx).2.2)).mono ?_;rintro e w4⟨v4,rfl,⟨xs,hxs,hrow0⟩,hb4⟩;have hxl:=congrArg List.length hxs;simp only[List.length_map]at hxl;obtain⟨a4,c4,rfl⟩:=bP.shape hrow0 L.length hxl;have PN:Below w.heap.size w w4:=hb2'.trans (hb4.mono hb2'.size)))
   have HX:=Lib.hid hxs;have lC:=Lib.hid hxl;have PO:=hb2'.size;clear hxs hxl;go_loopw [24] (λkv wr=>∃k:Nat,k<=L.length/\kv=.int .i64 k/\bP wr w2.heap.size (.slice a4 L.length c4) (iZ s t xs k)/\Below w.heap.size w wr) (λkv _=>L.length-(intOf kv).toNat)
   case atStart=>exact⟨0,by omega,rfl,by rw[WL];exact hrow0,PN⟩
   case round =>
    obtain⟨k,hk,rfl,hrow,hbel⟩:=hrel
    by_cases hlt:k<L.length
    ·have hkx:k<xs.length:=by rw[lC.out];exact hlt
     have hr1:=hrow.1
     rw[qo,lC.out]at hr1
     obtain⟨g,cp,he,hgc,hgm,hgB,hgs⟩:=Ad hr1 (by omega)
     simp only[Value.slice.injEq]at he
     obtain⟨rfl,_,rfl⟩:=he
     obtain⟨d0,d1,d2,d3,q0,q1,q2,q3⟩:=CS hr1 k (by rw[qo];exact hkx)
     rw[AY xs k hkx]at d0 d1 d2 d3
     have hbd:=hrow.2.1 _ (List.getElem_mem (by rw[qo];exact hkx:k<(iZ s t xs k).length))
     rw[AY xs k hkx]at hbd
     obtain⟨va,vc,hvs⟩:=hbd.slice
     rw[hvs]at d3
     have hbl:xs[k].1.body.length<=1048576:=by
      have:xs[k].1∈L:=by rw[<-HX.out];exact List.mem_map_of_mem (List.getElem_mem _)
      exact(hs _ this).2.2
     have HV:=Lib.hid hvs
     clear hvs
     by_cases hnm:xs[k].1.name=s
     ·have hrow1:bP (wr.setCell ⟨g,k*4,none⟩ (.string t)) w2.heap.size (.slice (some ⟨g,0,none⟩) L.length c4) (dP s t xs k 0 hkx):=by
       have h1:=hrow.setName (by rw[qo,lC.out]) (by rw[qo];exact hkx:k<(iZ s t xs k).length) t;rw[AY xs k hkx]at h1;rw[WS xs k hkx hnm];exact h1
      have qW:Below w.heap.size w (wr.setCell ⟨g,k*4,none⟩ (.string t)):=hbel.setCell (by show w.heap.size<=g;omega) _
      have hgt:=D7 hnm
      clear hnm
      go_wp2_with fail
      generalize wr.setCell ⟨g,k*4,none⟩ (.string t)=W at hrow1 qW
      go_loopw [46] (λqv W=>∃q:Nat,q<=xs[k].1.body.length/\qv=.int .i64 q/\bP W w2.heap.size (.slice (some ⟨g,0,none⟩) L.length c4) (dP s t xs k q hkx)/\Below w.heap.size w W) (λqv _=>xs[k].1.body.length-(intOf qv).toNat)
      case atStart=>exact⟨0,by omega,rfl,hrow1,qW⟩
      case round =>
       clear hrow1 qW hbd hrow hr1 d0 d1 d2 d3 q0 q1 q2 q3 hbel hgs
       obtain⟨q,hq,rfl,hrw,hbw⟩:=hrel
       have hr2:=hrw.1
       rw[oV,lC.out]at hr2
       have hgz:=(World.ownsRow.lt hr2 g rfl).2
       obtain⟨e0,e1,e2,e3,p0,p1,p2,p3⟩:=CS hr2 k (by rw[oV];exact hkx)
       rw[vU xs k q hkx]at e0 e1 e2 e3
       simp only[HV.out]at e3
       by_cases o7:q<xs[k].1.body.length
       ·obtain⟨gb,hgb⟩:∃gb,va=some ⟨gb,0,none⟩:=by
         have hb2:=hrw.2.1 _ (List.getElem_mem (by rw[oV];exact hkx:k<(dP s t xs k q hkx).length));rw[vU xs k q hkx]at hb2;simp only[HV.out]at hb2;rcases hb2.2 with⟨h1,h2⟩|⟨gb,cap',cur,h1,_⟩
         ·rw[AX]at h2;omega
         ·simp only[Value.slice.injEq]at h1;exact⟨gb,h1.1⟩
        subst hgb
        obtain⟨c0,c1,c2,cf,cz,PS⟩:=JG hkx hrw HV.out o7
        by_cases hN:xs[k].1.body[q].kind=17/\xs[k].1.body[q].name=s
        ·have hst:=JH (b:=t) hkx hrw HV.out o7 hN
         have t1:(xs[k].1.body[q].kind==17)=true:=by simp[hN.1]
         have t2:=D7 hN.2
         clear hN
         go_wp2
         go_roundw
         case rel=>exact⟨q+1,by omega,by go_num,hst,hbw.setCell (by show w.heap.size<=gb;omega) _⟩
         case measure=>simp[intOf];omega
        ·have hsame:=JF (b:=t) xs k q hkx o7 (by unfold qU;rw[if_neg hN])
         have hN':(xs[k].1.body[q].kind==17)=false\/((xs[k].1.body[q].kind==17)=true/\(xs[k].1.body[q].name.toList==s.toList)=false):=by
          by_cases h17:xs[k].1.body[q].kind=17
          ·exact .inr ⟨by simp[h17],D8 (λe=>hN ⟨h17,e⟩)⟩
          ·exact .inl (by simp[h17])
         rw[<-hsame]at hrw
         clear hN hsame
         rcases hN' with t1|⟨t1,t2⟩
         all_goals
          go_wp2
          go_roundw
          case rel=>exact⟨q+1,by omega,by go_num,hrw,hbw⟩
          case measure=>simp[intOf];omega
       ·have hqe:q=xs[k].1.body.length:=by omega
        subst hqe
        rw[JE]at hrw
        clear e0 e1 e2 e3 p0 p1 p2 p3 hr2
        go_wp2
        go_roundw
        case rel=>exact⟨k+1,by omega,by go_num,hrw,hbw⟩
        case measure=>simp[intOf];omega
     ·have hrow1:bP wr w2.heap.size (.slice (some ⟨g,0,none⟩) L.length c4) (dP s t xs k 0 hkx):=by
       rw[WR xs k hkx hnm];exact hrow
      have qW:Below w.heap.size w wr:=hbel
      have hgt:=D8 hnm
      clear hnm
      go_wp2_with fail
      go_loopw [46] (λqv W=>∃q:Nat,q<=xs[k].1.body.length/\qv=.int .i64 q/\bP W w2.heap.size (.slice (some ⟨g,0,none⟩) L.length c4) (dP s t xs k q hkx)/\Below w.heap.size w W) (λqv _=>xs[k].1.body.length-(intOf qv).toNat)
      case atStart=>exact⟨0,by omega,rfl,hrow1,qW⟩
      case round =>
       clear hrow1 qW hbd hrow hr1 d0 d1 d2 d3 q0 q1 q2 q3 hbel hgs
       obtain⟨q,hq,rfl,hrw,hbw⟩:=hrel
       have hr2:=hrw.1
       rw[oV,lC.out]at hr2
       have hgz:=(World.ownsRow.lt hr2 g rfl).2
       obtain⟨e0,e1,e2,e3,p0,p1,p2,p3⟩:=CS hr2 k (by rw[oV];exact hkx)
       rw[vU xs k q hkx]at e0 e1 e2 e3
       simp only[HV.out]at e3
       by_cases o7:q<xs[k].1.body.length
       ·obtain⟨gb,hgb⟩:∃gb,va=some ⟨gb,0,none⟩:=by
         have hb2:=hrw.2.1 _ (List.getElem_mem (by rw[oV];exact hkx:k<(dP s t xs k q hkx).length));rw[vU xs k q hkx]at hb2;simp only[HV.out]at hb2;rcases hb2.2 with⟨h1,h2⟩|⟨gb,cap',cur,h1,_⟩
         ·rw[AX]at h2;omega
         ·simp only[Value.slice.injEq]at h1;exact⟨gb,h1.1⟩
        subst hgb
        obtain⟨c0,c1,c2,cf,cz,PS⟩:=JG hkx hrw HV.out o7
        by_cases hN:xs[k].1.body[q].kind=17/\xs[k].1.body[q].name=s
        ·have hst:=JH (b:=t) hkx hrw HV.out o7 hN
         have t1:(xs[k].1.body[q].kind==17)=true:=by simp[hN.1]
         have t2:=D7 hN.2
         clear hN
         go_wp2
         go_roundw
         case rel=>exact⟨q+1,by omega,by go_num,hst,hbw.setCell (by show w.heap.size<=gb;omega) _⟩
         case measure=>simp[intOf];omega
        ·have hsame:=JF (b:=t) xs k q hkx o7 (by unfold qU;rw[if_neg hN])
         have hN':(xs[k].1.body[q].kind==17)=false\/((xs[k].1.body[q].kind==17)=true/\(xs[k].1.body[q].name.toList==s.toList)=false):=by
          by_cases h17:xs[k].1.body[q].kind=17
          ·exact .inr ⟨by simp[h17],D8 (λe=>hN ⟨h17,e⟩)⟩
          ·exact .inl (by simp[h17])
         rw[<-hsame]at hrw
         clear hN hsame
         rcases hN' with t1|⟨t1,t2⟩
         all_goals
          go_wp2
          go_roundw
          case rel=>exact⟨q+1,by omega,by go_num,hrw,hbw⟩
          case measure=>simp[intOf];omega
       ·have hqe:q=xs[k].1.body.length:=by omega
        subst hqe
        rw[JE]at hrw
        clear e0 e1 e2 e3 p0 p1 p2 p3 hr2
        go_wp2
        go_roundw
        case rel=>exact⟨k+1,by omega,by go_num,hrw,hbw⟩
        case measure=>simp[intOf];omega
    ·have hke:k=xs.length:=by rw[lC.out];omega
     subst hke
     have hdone:=hrow.at
     rw[JD,HX.out]at hdone
     have hown:=hrow.own
     rw[JD,HX.out]at hown
     cases hg2:good (L.map (ig s t))
     ·have HO:Hid (cZ (L.map (ig s t))=none):=(show cZ _=none by unfold cZ;rw[hg2];rfl)
      have HG2:=Lib.hid hg2
      clear hg2
      go_wp2_with (go_at_call 169;refine(Kz _ (L.map (ig s t)) _ hdone hlm Gm HG2.out).mono ?_;rintro e w6⟨rfl,hb6⟩)
      go_ret2
      exact⟨_,by rw[HA.out,HO.out];rfl,by rw[HA.out,HO.out];exact gY _ _,hbel.trans (hb6.mono hbel.size)⟩
     ·have HO:Hid (cZ (L.map (ig s t))=some (L.map (ig s t))):=(show cZ _=some _ by unfold cZ;rw[hg2];rfl)
      have HG2:=Lib.hid hg2
      clear hg2
      go_wp2_with (go_at_call 169;refine(Ky _ (L.map (ig s t)) _ hdone hlm Gm HG2.out).mono ?_;rintro e w6⟨rfl,hb6⟩)
      go_ret2
      refine⟨_,by rw[HA.out,HO.out];rfl,?_,hbel.trans (hb6.mono hbel.size)⟩
      rw[HA.out,HO.out]
      exact(hown.mono PO).keep hb6
theorem adT (v vb:Value) (L:List Df) (e:En) (w:World) (hv:aG w v L) (hn:L.length<=1048576) (hg:good L=true) (hvb:aZ w vb e.body) (he:dW e) :
  Calls Tryz.prog 103 #[v,.agg #[.int .i64 e.kind,.string e.name,.string e.to,vb]] w λr w'=>r=.returned (.agg #[.string e.name,.int .i64 (kE L e).inn,.int .i64 (kE L e).out,vb])/\Below w.heap.size w w':=by
 obtain⟨a,cap,rfl⟩:∃a cap,v=.slice a L.length cap:=by obtain⟨a,cap,rfl,_⟩:=hv;exact⟨a,cap,rfl⟩
 obtain⟨ab,cb,rfl⟩:=hvb.slice;have hgg:dJ [] L=true:=by simp only[good,Bool.and_eq_true]at hg;exact hg.2
 have hsm:=vJ hgg;clear hg hgg;obtain⟨t,ht⟩:∃t,(aS (aO L) e.body).getD (0,0)=t:=⟨_,rfl⟩
 have hj:(kE L e).inn=t.1/\(kE L e).out=t.2:=by simp[kE,ht]
 rw[hj.1,hj.2];have HT:=Lib.hid ht;clear ht hj;go_enter Tryz.func103,Tryz.ntmps103;go_wp2_with (go_at_call 75;refine(Kv _ _ L e.body _ (hv.keep (((Below.refl _ _).alloc (Nat.le_refl _) _).alloc (by simp) _)) hn hsm (hvb.keep (((Below.refl _ _).alloc (Nat.le_refl _) _).alloc (by simp) _)) he.2.2).mono ?_;rintro r w2⟨rfl,hb2⟩;rw[HT.out];obtain⟨hc2,hf2,hs2⟩:=bH hb2;have x1:w2.cell? ⟨w.heap.size,1,none⟩=some (.string e.name):=(hc2 _ _ (by simp;omega)).trans (by simp[go_sem]);have x3:w2.cell? ⟨w.heap.size,3,none⟩=some (.slice ab e.body.length cb):=(hc2 _ _ (by simp;omega)).trans (by simp[go_sem]);have y0:w2.cell? ⟨w.heap.size+1,0,none⟩=some (.string ⟨#[]⟩):=(hc2 _ _ (by simp)).trans (by simp[go_sem]);have y1:w2.cell? ⟨w.heap.size+1,1,none⟩=some (.int .i64 0):=(hc2 _ _ (by simp)).trans (by simp[go_sem]);have y2:w2.cell? ⟨w.heap.size+1,2,none⟩=some (.int .i64 0):=(hc2 _ _ (by simp)).trans (by simp[go_sem]);have y3:w2.cell? ⟨w.heap.size+1,3,none⟩=some (.slice none 0 0):=(hc2 _ _ (by simp)).trans (by simp[go_sem]);have yf:∀j,w2.frozen? ⟨w.heap.size+1,j,none⟩=false:=λj=>(hf2 _ _ (by simp)).trans (by simp[go_sem]);have hb2':Below w.heap.size w w2:=(((Below.refl _ _).alloc (Nat.le_refl _) _).alloc (by simp) _).trans (hb2.mono (by simp;omega));clear hc2 hf2 hs2 hb2)
 exact bodyPost_ret (v:=.agg #[.string e.name,.int .i64 t.1,.int .i64 t.2,.slice ab e.body.length cb]) (by simp[results,Tryz.results103,go_sem,y0,y1,y2,y3]) rfl ⟨rfl,(((hb2'.setCell (by simp) _).setCell (by simp) _).setCell (by simp) _).setCell (by simp) _⟩
theorem oQ (v vb:Value) (L:List Df) (e:En) (w:World) (hv:aG w v L) (hn:L.length<=1048576) (hs:∀x∈L,dN x) (hvb:aZ w vb e.body) (he:dW e) :
  Calls Tryz.prog 56 #[v,.agg #[.int .i64 e.kind,.string e.name,.string e.to,vb]] w (lV (aJ L e) w):=by
 obtain⟨a,cap,rfl⟩:∃a cap,v=.slice a L.length cap:=by obtain⟨a,cap,rfl,_⟩:=hv;exact⟨a,cap,rfl⟩
 obtain⟨ab,cb,rfl⟩:=hvb.slice;cases hg:good L
 ·have HA:Hid (aJ L e=none):=(show _=_ by simp[aJ,hg])
  have HG:=Lib.hid hg;clear hg;go_enter Tryz.func56,Tryz.ntmps56;go_wp2_with (go_at_call 51;refine(nU _ L _ (hv.keep (aj _ _)) hn hs).mono ?_;rintro r w2⟨rfl,hb2⟩;rw[HG.out];obtain⟨hc2,hf2,hs2⟩:=bH hb2;have x0:w2.cell? ⟨w.heap.size,0,none⟩=some (.int .i64 e.kind):=(hc2 _ _ (by simp)).trans (by simp);have x1:w2.cell? ⟨w.heap.size,1,none⟩=some (.string e.name):=(hc2 _ _ (by simp)).trans (by simp);have x2:w2.cell? ⟨w.heap.size,2,none⟩=some (.string e.to):=(hc2 _ _ (by simp)).trans (by simp);have x3:w2.cell? ⟨w.heap.size,3,none⟩=some (.slice ab e.body.length cb):=(hc2 _ _ (by simp)).trans (by simp);have hb2':Below w.heap.size w w2:=(aj _ _).trans (hb2.mono (by simp));clear hc2 hf2 hs2 hb2)
  go_ret2
  exact⟨_,by rw[HA.out];rfl,by rw[HA.out];exact gY _ _,hb2'⟩
 ·have HG:=Lib.hid hg;have ht0:e.to=ByteArray.empty->(!e.to.toList.isEmpty)=false:=λh=>by have:=(toList_nil_iff_emptyBytes _).2 h;simp[this]
  have ht1:e.to≠ByteArray.empty->(!e.to.toList.isEmpty)=true:=λh=>by
   have:¬e.to.toList=[]:=λe'=>h ((toList_nil_iff_emptyBytes _).1 e');simpa using this
  have hb0:e.body=[]->¬(0:Int)<e.body.length:=λh=>by rw[h];simp
  have hb1:e.body≠[]->(0:Int)<e.body.length:=λh=>by have:=List.length_pos_iff.2 h;omega
  by_cases hA:e.kind≠3/\e.to≠ByteArray.empty
  ·have HA:Hid (aJ L e=none):=(show _=_ by
    unfold aJ qm;rw[if_neg (by simp[hA.1,hA.2])])
   have g3:(e.kind != 3)=true:=by simpa using hA.1
   have gt:=ht1 hA.2;clear hg hA ht0 ht1 hb0 hb1;go_enter Tryz.func56,Tryz.ntmps56;go_wp2_with (go_at_call 51;refine(nU _ L _ (hv.keep (aj _ _)) hn hs).mono ?_;rintro r w2⟨rfl,hb2⟩;rw[HG.out];obtain⟨hc2,hf2,hs2⟩:=bH hb2;have x0:w2.cell? ⟨w.heap.size,0,none⟩=some (.int .i64 e.kind):=(hc2 _ _ (by simp)).trans (by simp);have x1:w2.cell? ⟨w.heap.size,1,none⟩=some (.string e.name):=(hc2 _ _ (by simp)).trans (by simp);have x2:w2.cell? ⟨w.heap.size,2,none⟩=some (.string e.to):=(hc2 _ _ (by simp)).trans (by simp);have x3:w2.cell? ⟨w.heap.size,3,none⟩=some (.slice ab e.body.length cb):=(hc2 _ _ (by simp)).trans (by simp);have hb2':Below w.heap.size w w2:=(aj _ _).trans (hb2.mono (by simp));clear hc2 hf2 hs2 hb2)
   go_ret2
   exact⟨_,by rw[HA.out];rfl,by rw[HA.out];exact gY _ _,hb2'⟩
  ·have gA:(e.kind != 3)=false\/((e.kind != 3)=true/\(!e.to.toList.isEmpty)=false):=by
    by_cases h:e.kind=3
    ·exact .inl (by simp[h])
    ·exact .inr ⟨by simpa using h,ht0 (Classical.not_not.1 λh'=>hA ⟨h,h'⟩)⟩
   by_cases hB:e.kind≠1/\e.body≠[]
   ·have HA:Hid (aJ L e=none):=(show _=_ by
     unfold aJ qm;rw[if_neg (by simp[hB.1,hB.2])])
    have g1:(e.kind != 1)=true:=by simpa using hB.1
    have gl:=hb1 hB.2;clear hg hA hB ht0 ht1 hb0 hb1;rcases gA with g3|⟨g3,gt⟩
    all_goals
     go_enter Tryz.func56,Tryz.ntmps56
     go_wp2_with (go_at_call 51;refine(nU _ L _ (hv.keep (aj _ _)) hn hs).mono ?_;rintro r w2⟨rfl,hb2⟩;rw[HG.out];obtain⟨hc2,hf2,hs2⟩:=bH hb2;have x0:w2.cell? ⟨w.heap.size,0,none⟩=some (.int .i64 e.kind):=(hc2 _ _ (by simp)).trans (by simp);have x1:w2.cell? ⟨w.heap.size,1,none⟩=some (.string e.name):=(hc2 _ _ (by simp)).trans (by simp);have x2:w2.cell? ⟨w.heap.size,2,none⟩=some (.string e.to):=(hc2 _ _ (by simp)).trans (by simp);have x3:w2.cell? ⟨w.heap.size,3,none⟩=some (.slice ab e.body.length cb):=(hc2 _ _ (by simp)).trans (by simp);have hb2':Below w.heap.size w w2:=(aj _ _).trans (hb2.mono (by simp));clear hc2 hf2 hs2 hb2)
     go_ret2
     exact⟨_,by rw[HA.out];rfl,by rw[HA.out];exact gY _ _,hb2'⟩
   ·have hpl:qm e=true:=by
     unfold qm;simp only[Bool.and_eq_true,Bool.or_eq_true,decide_eq_true_eq];refine⟨?_,?_⟩
     ·by_cases h:e.kind=3
      ·exact .inl h
      ·exact .inr (Classical.not_not.1 λh'=>hA ⟨h,h'⟩)
     ·by_cases h:e.kind=1
      ·exact .inl h
      ·exact .inr (Classical.not_not.1 λh'=>hB ⟨h,h'⟩)
    by_cases h1:e.kind=1
    ·have HA:Hid (aJ L e=jG L (kE L e)):=(show _=_ by unfold aJ;rw[if_pos ⟨hg,hpl⟩,if_pos h1])
     have g3:(e.kind != 3)=true:=by simp[h1]
     have gt:(!e.to.toList.isEmpty)=false:=by rcases gA with h|h;rw[g3]at h;cases h;exact h.2
     have g1:(e.kind != 1)=false:=by simp[h1]
     have s1:(e.kind==1)=true:=by simp[h1]
     clear hg hA hB ht0 ht1 hb0 hb1 hpl h1 gA;go_enter Tryz.func56,Tryz.ntmps56;go_wp2_with (first|(go_at_call 51;refine(nU _ L _ (hv.keep (aj _ _)) hn hs).mono ?_;rintro r w2⟨rfl,hb2⟩;rw[HG.out];obtain⟨hc2,hf2,hs2⟩:=bH hb2;have x0:w2.cell? ⟨w.heap.size,0,none⟩=some (.int .i64 e.kind):=(hc2 _ _ (by simp)).trans (by simp);have x1:w2.cell? ⟨w.heap.size,1,none⟩=some (.string e.name):=(hc2 _ _ (by simp)).trans (by simp);have x2:w2.cell? ⟨w.heap.size,2,none⟩=some (.string e.to):=(hc2 _ _ (by simp)).trans (by simp);have x3:w2.cell? ⟨w.heap.size,3,none⟩=some (.slice ab e.body.length cb):=(hc2 _ _ (by simp)).trans (by simp);have hb2':Below w.heap.size w w2:=(aj _ _).trans (hb2.mono (by simp));clear hc2 hf2 hs2 hb2)|(go_at_call 103;refine(adT _ _ L e _ (hv.keep hb2') hn HG.out (hvb.keep hb2') he).mono ?_;rintro r w3⟨rfl,hb3⟩;have bK:=hb2'.trans (hb3.mono hb2'.size))|(go_at_call 102;refine(adM _ _ L (kE L e) _ (hv.keep bK) hn hs (hvb.keep bK) ⟨he.1,he.2.2⟩).mono ?_;rintro r w4⟨v4,rfl,bF,hb4⟩;have gK:=bK.trans (hb4.mono bK.size);have BD:=bF.mono bK.size))
     go_ret2
     exact⟨v4,by rw[HA.out];rfl,by rw[HA.out];exact BD,gK⟩
    ·have gl:=hb0 (Classical.not_not.1 λh'=>hB ⟨h1,h'⟩);have g1:(e.kind != 1)=true:=by simpa using h1
     have s1:(e.kind==1)=false:=by simpa using h1
     by_cases h2:e.kind=2
     ·have HA:Hid (aJ L e=iO L e.name):=(show _=_ by unfold aJ;rw[if_pos ⟨hg,hpl⟩,if_neg h1,if_pos h2])
      have g3:(e.kind != 3)=true:=by simp[h2]
      have gt:(!e.to.toList.isEmpty)=false:=by rcases gA with h|h;rw[g3]at h;cases h;exact h.2
      have s2:(e.kind==2)=true:=by simp[h2]
      clear hg hA hB ht0 ht1 hb0 hb1 hpl h1 gA h2;go_enter Tryz.func56,Tryz.ntmps56;go_wp2_with (first|(go_at_call 51;refine(nU _ L _ (hv.keep (aj _ _)) hn hs).mono ?_;rintro r w2⟨rfl,hb2⟩;rw[HG.out];obtain⟨hc2,hf2,hs2⟩:=bH hb2;have x0:w2.cell? ⟨w.heap.size,0,none⟩=some (.int .i64 e.kind):=(hc2 _ _ (by simp)).trans (by simp);have x1:w2.cell? ⟨w.heap.size,1,none⟩=some (.string e.name):=(hc2 _ _ (by simp)).trans (by simp);have x2:w2.cell? ⟨w.heap.size,2,none⟩=some (.string e.to):=(hc2 _ _ (by simp)).trans (by simp);have x3:w2.cell? ⟨w.heap.size,3,none⟩=some (.slice ab e.body.length cb):=(hc2 _ _ (by simp)).trans (by simp);have hb2':Below w.heap.size w w2:=(aj _ _).trans (hb2.mono (by simp));clear hc2 hf2 hs2 hb2)|(go_at_call 104;refine(adO _ L _ _ (hv.keep hb2') hn hs).mono ?_;rintro r w4⟨v4,rfl,bF,hb4⟩;have gK:=hb2'.trans (hb4.mono hb2'.size);have BD:=bF.mono hb2'.size))
      go_ret2
      exact⟨v4,by rw[HA.out];rfl,by rw[HA.out];exact BD,gK⟩
     ·have s2:(e.kind==2)=false:=by simpa using h2
      by_cases h3:e.kind=3
      ·have HA:Hid (aJ L e=iF L e.name e.to):=(show _=_ by unfold aJ;rw[if_pos ⟨hg,hpl⟩,if_neg h1,if_neg h2,if_pos h3])
       have g3:(e.kind != 3)=false:=by simp[h3]
       have s3:(e.kind==3)=true:=by simp[h3]
       clear hg hA hB ht0 ht1 hb0 hb1 hpl h1 gA h2 h3;go_enter Tryz.func56,Tryz.ntmps56;go_wp2_with (first|(go_at_call 51;refine(nU _ L _ (hv.keep (aj _ _)) hn hs).mono ?_;rintro r w2⟨rfl,hb2⟩;rw[HG.out];obtain⟨hc2,hf2,hs2⟩:=bH hb2;have x0:w2.cell? ⟨w.heap.size,0,none⟩=some (.int .i64 e.kind):=(hc2 _ _ (by simp)).trans (by simp);have x1:w2.cell? ⟨w.heap.size,1,none⟩=some (.string e.name):=(hc2 _ _ (by simp)).trans (by simp);have x2:w2.cell? ⟨w.heap.size,2,none⟩=some (.string e.to):=(hc2 _ _ (by simp)).trans (by simp);have x3:w2.cell? ⟨w.heap.size,3,none⟩=some (.slice ab e.body.length cb):=(hc2 _ _ (by simp)).trans (by simp);have hb2':Below w.heap.size w w2:=(aj _ _).trans (hb2.mono (by simp));clear hc2 hf2 hs2 hb2)|(go_at_call 105;refine(adS _ L _ _ _ (hv.keep hb2') hn hs he.2.1).mono ?_;rintro r w4⟨v4,rfl,bF,hb4⟩;have gK:=hb2'.trans (hb4.mono hb2'.size);have BD:=bF.mono hb2'.size))
       go_ret2
       exact⟨v4,by rw[HA.out];rfl,by rw[HA.out];exact BD,gK⟩
      ·have HA:Hid (aJ L e=none):=(show _=_ by unfold aJ;rw[if_pos ⟨hg,hpl⟩,if_neg h1,if_neg h2,if_neg h3])
       have g3:(e.kind != 3)=true:=by simpa using h3
       have gt:(!e.to.toList.isEmpty)=false:=by rcases gA with h|h;rw[g3]at h;cases h;exact h.2
       have s3:(e.kind==3)=false:=by simpa using h3
       clear hg hA hB ht0 ht1 hb0 hb1 hpl h1 gA h2 h3;go_enter Tryz.func56,Tryz.ntmps56;go_wp2_with (first|(go_at_call 51;refine(nU _ L _ (hv.keep (aj _ _)) hn hs).mono ?_;rintro r w2⟨rfl,hb2⟩;rw[HG.out];obtain⟨hc2,hf2,hs2⟩:=bH hb2;have x0:w2.cell? ⟨w.heap.size,0,none⟩=some (.int .i64 e.kind):=(hc2 _ _ (by simp)).trans (by simp);have x1:w2.cell? ⟨w.heap.size,1,none⟩=some (.string e.name):=(hc2 _ _ (by simp)).trans (by simp);have x2:w2.cell? ⟨w.heap.size,2,none⟩=some (.string e.to):=(hc2 _ _ (by simp)).trans (by simp);have x3:w2.cell? ⟨w.heap.size,3,none⟩=some (.slice ab e.body.length cb):=(hc2 _ _ (by simp)).trans (by simp);have hb2':Below w.heap.size w w2:=(aj _ _).trans (hb2.mono (by simp));clear hc2 hf2 hs2 hb2))
       go_ret2
       exact⟨_,by rw[HA.out];rfl,by rw[HA.out];exact gY _ _,hb2'⟩
end Go.Proofs.YtikgblkfmpecfaaGreatDoor
