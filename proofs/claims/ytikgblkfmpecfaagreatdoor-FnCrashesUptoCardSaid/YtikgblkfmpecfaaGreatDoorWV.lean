/-
  The walk of printed, the program's printer of trees. Own work.
-/
import Derived.Test.YtikgblkfmpecfaaGreatDoorWU
set_option linter.all false
set_option maxRecDepth 100000
set_option maxHeartbeats 8000000
namespace Go.Proofs.YtikgblkfmpecfaaGreatDoor
open Go.RowKit
theorem agu (n:Nd) (w:World) (hok:wH n) :
  Calls Tryz.prog 86 #[.agg #[.int .i64 n.kind,.int .i64 n.value,.string n.name]] w λe w'=>e=.returned (.string (jr n))/\Below w.heap.size w w':=by
 by_cases h17:n.kind=17
 ·have g1:(n.kind==17)=true:=by simp[h17]
  have HR:Hid (jr n=n.name):=(show _=_ by simp[jr,h17])
  clear h17 hok;go_enter Tryz.func86,Tryz.ntmps86;go_wp2;go_ret
  exact⟨by rw[HR.out];rfl,aj _ _⟩
 ·obtain⟨h1,h2,h3,h4⟩:1<=n.kind/\n.kind<=14/\0<=n.value/\n.value<=96:=by
   rcases hok with⟨h,_⟩|h
   ·exact absurd h h17
   ·exact h
  obtain⟨nk,nv,nn⟩:=n;simp only at h17 h1 h2 h3 h4;obtain⟨k,rfl⟩:=Int.eq_ofNat_of_zero_le (show 0<=nk by omega);by_cases hv:(k:Int)=1\/(k:Int)=7\/(k:Int)=13
  ·rw[show jr ⟨k,nv,nn⟩=word k++iH++eG nv by unfold jr;rw[if_neg h17,if_pos hv]];exact agq k nv nn w (by omega) (by omega) hv h3 h4
  ·rw[show jr ⟨k,nv,nn⟩=word k by unfold jr;rw[if_neg h17,if_neg hv]];exact agp k nv nn w (by omega) (by omega) hv
theorem agv (n:Nd) (full:Bool) (w:World) (hok:wH n) :
  Calls Tryz.prog 42 #[fD (.leaf n),.bool full] w λe w'=>e=.returned (.string (aV full (.leaf n)))/\Below w.heap.size w w':=by
 have h1:=aaj;have h2:=aam;have h3:=agl;rw[fD];go_enter Tryz.func42,Tryz.ntmps42;go_wp2_with (go_at_call 86;refine(agu n _ hok).mono ?_;rintro e w1⟨rfl,hb1⟩)
 go_ret
 exact⟨rfl,(aj _ _).trans (hb1.mono (by simp))⟩
theorem agw (a b:Tr) (w:World) (iha:∀w,Calls Tryz.prog 42 #[fD a,.bool false] w λe w'=>e=.returned (.string (aV false a))/\Below w.heap.size w w')
  (ihb:∀w,Calls Tryz.prog 42 #[fD b,.bool false] w λe w'=>e=.returned (.string (aV false b))/\Below w.heap.size w w')
  (hsa:(aV false a).size<=65536) (hsb:(aV false b).size<=65536) :
  Calls Tryz.prog 42 #[fD (.seq a b),.bool false] w λe w'=>e=.returned (.string (aV false (.seq a b)))/\Below w.heap.size w w':=by
 have h1:=aak;rw[fD];obtain⟨Ta,xa,ha⟩:=qG a;obtain⟨Tb,xb,hb⟩:=qG b;have yj:=MI a;have Ip:=MJ a;have yt:=MI b;have Iq:=MJ b;rw[ha]at iha yj Ip ⊢;rw[hb]at ihb yt Iq ⊢;clear ha hb;have za1:=mD (aV false a) true;have za2:=mD (aV false a) false;have za3:=mD (aV false a) a.iy;have AU:=mD (aV false b) true;have zb2:=mD (aV false b) false;have zb3:=mD (aV false b) b.iy;have zs:BI.size=3:=rfl;have zc1:(brk (aV false a) true++BI).size<=65541:=by rw[bsize];omega
 have zc2:(brk (aV false a) false++BI).size<=65541:=by rw[bsize];omega
 have zc3:(brk (aV false a) a.iy++BI).size<=65541:=by rw[bsize];omega
 clear zs;cases hq:b.iP
 ·have HQ:=Lib.hid hq;have HA:Hid (True=True):=Lib.hid rfl;clear hq;go_enter Tryz.func42,Tryz.ntmps42;go_wp2_with (first|(go_at_call 42;refine(iha _).mono ?_;rintro e w1⟨rfl,hb1⟩;obtain⟨hc1,hf1,hs1⟩:=bH hb1;have hzz:w.heap.size<w1.heap.size:=by(have:=hb1.size;simp at this;omega))|(go_at_call 84;refine(yj _).mono ?_;rintro e TB⟨rfl,TD⟩;rw[HA.out];obtain⟨agx,agy,agz⟩:=bH TD;have hzb:w.heap.size<TB.heap.size:=by omega)|(go_at_call 85;refine(Ip _).mono ?_;rintro e w1c⟨rfl,TF⟩;obtain⟨agA,agB,agC⟩:=bH TF)|(go_at_call 83;refine(sZ _ _ _ (by omega)).mono ?_;rintro e w2⟨rfl,rfl⟩))
  have hz1:=hb1.size;have c1:w1.cell? ⟨w.heap.size,1,none⟩=some (.iface Tb (.agg xb)):=by rw[hc1 _ _ (by simp)];simp
  have hz:w.heap.size<w1.heap.size:=by simp at hz1;omega
  have hB1:Below w.heap.size w w1:=(aj _ _).trans (hb1.mono (by simp));clear hc1 hf1 hs1 hb1 hz1;refine bC (C:=ah (aQ) _) 6 [0,1,2,3,4,5,6,7,8,9,10,11,12,13,14,15,16] (by kernel_rfl) (by kernel_rfl) (ah.grows _ _) (ah.refl _ _) ?_;iterate 3 (apply ay rfl rfl rfl;(focus intro u hc' hf';go_simp<;>rfl);intro K hK;go_simp;apply hK;clear hK K)
  refine aX rfl rfl rfl (ah.grows _ _) (ah.refl _ _) 42 (λK hK=>?_);apply Exists.intro;refine⟨λw' hw'=>?_,λwa dU dS=>?_⟩;(focus go_simp;rfl);refine(ihb _).mono ?_;rintro e w3⟨rfl,hb3⟩;refine⟨_,rfl,hb3,λhx=>?_⟩;go_simp;apply hK;clear hK K;iterate 2 (apply ay rfl rfl rfl;(focus intro u hc' hf';go_simp<;>rfl);intro K hK;go_simp;apply hK;clear hK K)
  refine aX rfl rfl rfl (ah.grows _ _) (hx) 84 (λK hK=>?_);apply Exists.intro;refine⟨λw' hw'=>?_,λwb hwb fB=>?_⟩;(focus go_simp;rfl);refine(yt _).mono ?_;rintro e w4⟨rfl,hb4⟩;refine⟨_,rfl,hb4,λhx=>?_⟩;go_simp;apply hK;clear hK K;rw[HQ.out];iterate 1 (apply ay rfl rfl rfl;(focus intro u hc' hf';go_simp<;>rfl);intro K hK;go_simp;apply hK;clear hK K)
  iterate 2 (apply dR rfl rfl (by first|rfl|(simp[Region.wanted,yielded,go_sem]));(focus intro u hc' hf';go_simp<;>rfl);intro K hK;go_simp;apply hK;clear hK K)
  iterate 3 (refine oJ rfl λK hK=>⟨by first|rfl|(simp[Region.wanted,yielded,go_sem]),?_⟩;go_simp;apply hK;clear hK K)
  iterate 1 (apply dR rfl rfl (by first|rfl|(simp[Region.wanted,yielded,go_sem]));(focus intro u hc' hf';go_simp<;>rfl);intro K hK;go_simp;apply hK;clear hK K)
  iterate 1 (apply ay rfl rfl rfl;(focus intro u hc' hf';go_simp<;>rfl);intro K hK;go_simp;apply hK;clear hK K)
  refine aX rfl rfl rfl (ah.grows _ _) (hx) 83 (λK hK=>?_);apply Exists.intro;refine⟨λw' hw'=>?_,λwc hwc kG=>?_⟩;(focus go_simp;rfl);refine(sZ _ _ _ (by omega)).mono ?_;rintro e w5⟨rfl,rfl⟩;refine⟨_,rfl,Below.refl _ _,λhx=>?_⟩;go_simp;apply hK;clear hK K;iterate 1 (apply ay rfl rfl rfl;(focus intro u hc' hf';go_simp<;>rfl);intro K hK;go_simp;apply hK;clear hK K)
  refine aK ?_;go_wp2;go_ret
  exact⟨by rw[aV];simp only[HA.out,HQ.out,Bool.false_and,Bool.true_and,Bool.false_or,Bool.true_or,Bool.or_false,Bool.or_true,Bool.and_false,Bool.and_true];rfl,hB1.trans ((Below.refl w1.heap.size w1).drew.trans ((hx.toBelow).mono (by simp)) |>.mono (by have:=hB1.size;omega))⟩
 ·have HQ:=Lib.hid hq;have HA:Hid (True=True):=Lib.hid rfl;clear hq;go_enter Tryz.func42,Tryz.ntmps42;go_wp2_with (first|(go_at_call 42;refine(iha _).mono ?_;rintro e w1⟨rfl,hb1⟩;obtain⟨hc1,hf1,hs1⟩:=bH hb1;have hzz:w.heap.size<w1.heap.size:=by(have:=hb1.size;simp at this;omega))|(go_at_call 84;refine(yj _).mono ?_;rintro e TB⟨rfl,TD⟩;rw[HA.out];obtain⟨agx,agy,agz⟩:=bH TD;have hzb:w.heap.size<TB.heap.size:=by omega)|(go_at_call 85;refine(Ip _).mono ?_;rintro e w1c⟨rfl,TF⟩;obtain⟨agA,agB,agC⟩:=bH TF)|(go_at_call 83;refine(sZ _ _ _ (by omega)).mono ?_;rintro e w2⟨rfl,rfl⟩))
  have hz1:=hb1.size;have c1:w1.cell? ⟨w.heap.size,1,none⟩=some (.iface Tb (.agg xb)):=by rw[hc1 _ _ (by simp)];simp
  have hz:w.heap.size<w1.heap.size:=by simp at hz1;omega
  have hB1:Below w.heap.size w w1:=(aj _ _).trans (hb1.mono (by simp));clear hc1 hf1 hs1 hb1 hz1;refine bC (C:=ah (aQ) _) 6 [0,1,2,3,4,5,6,7,8,9,10,11,12,13,14,15,16] (by kernel_rfl) (by kernel_rfl) (ah.grows _ _) (ah.refl _ _) ?_;iterate 3 (apply ay rfl rfl rfl;(focus intro u hc' hf';go_simp<;>rfl);intro K hK;go_simp;apply hK;clear hK K)
  refine aX rfl rfl rfl (ah.grows _ _) (ah.refl _ _) 42 (λK hK=>?_);apply Exists.intro;refine⟨λw' hw'=>?_,λwa dU dS=>?_⟩;(focus go_simp;rfl);refine(ihb _).mono ?_;rintro e w3⟨rfl,hb3⟩;refine⟨_,rfl,hb3,λhx=>?_⟩;go_simp;apply hK;clear hK K;iterate 2 (apply ay rfl rfl rfl;(focus intro u hc' hf';go_simp<;>rfl);intro K hK;go_simp;apply hK;clear hK K)
  refine aX rfl rfl rfl (ah.grows _ _) (hx) 84 (λK hK=>?_);apply Exists.intro;refine⟨λw' hw'=>?_,λwb hwb fB=>?_⟩;(focus go_simp;rfl);refine(yt _).mono ?_;rintro e w4⟨rfl,hb4⟩;refine⟨_,rfl,hb4,λhx=>?_⟩;go_simp;apply hK;clear hK K;rw[HQ.out];iterate 1 (apply ay rfl rfl rfl;(focus intro u hc' hf';go_simp<;>rfl);intro K hK;go_simp;apply hK;clear hK K)
  iterate 6 (refine oJ rfl λK hK=>⟨by first|rfl|(simp[Region.wanted,yielded,go_sem]),?_⟩;go_simp;apply hK;clear hK K)
  iterate 1 (apply ay rfl rfl rfl;(focus intro u hc' hf';go_simp<;>rfl);intro K hK;go_simp;apply hK;clear hK K)
  refine aX rfl rfl rfl (ah.grows _ _) (hx) 83 (λK hK=>?_);apply Exists.intro;refine⟨λw' hw'=>?_,λwc hwc kG=>?_⟩;(focus go_simp;rfl);refine(sZ _ _ _ (by omega)).mono ?_;rintro e w5⟨rfl,rfl⟩;refine⟨_,rfl,Below.refl _ _,λhx=>?_⟩;go_simp;apply hK;clear hK K;iterate 1 (apply ay rfl rfl rfl;(focus intro u hc' hf';go_simp<;>rfl);intro K hK;go_simp;apply hK;clear hK K)
  refine aK ?_;go_wp2;go_ret
  exact⟨by rw[aV];simp only[HA.out,HQ.out,Bool.false_and,Bool.true_and,Bool.false_or,Bool.true_or,Bool.or_false,Bool.or_true,Bool.and_false,Bool.and_true];rfl,hB1.trans ((Below.refl w1.heap.size w1).drew.trans ((hx.toBelow).mono (by simp)) |>.mono (by have:=hB1.size;omega))⟩
theorem agD (a b:Tr) (w:World) (iha:∀w,Calls Tryz.prog 42 #[fD a,.bool false] w λe w'=>e=.returned (.string (aV false a))/\Below w.heap.size w w')
  (ihb:∀w,Calls Tryz.prog 42 #[fD b,.bool false] w λe w'=>e=.returned (.string (aV false b))/\Below w.heap.size w w')
  (hsa:(aV false a).size<=65536) (hsb:(aV false b).size<=65536) :
  Calls Tryz.prog 42 #[fD (.par a b),.bool false] w λe w'=>e=.returned (.string (aV false (.par a b)))/\Below w.heap.size w w':=by
 have h1:=aal;have h2:=aan;rw[fD];obtain⟨Ta,xa,ha⟩:=qG a;obtain⟨Tb,xb,hb⟩:=qG b;have yj:=MI a;have Ip:=MJ a;have yt:=MI b;have Iq:=MJ b;rw[ha]at iha yj Ip ⊢;rw[hb]at ihb yt Iq ⊢;clear ha hb;have za1:=mD (aV false a) true;have za2:=mD (aV false a) false;have za3:=mD (aV false a) a.iy;have AU:=mD (aV false b) true;have zb2:=mD (aV false b) false;have zb3:=mD (aV false b) b.iy;have zs:BJ.size=3:=rfl;have zc1:(brk (aV false a) true++BJ).size<=65541:=by rw[bsize];omega
 have zc2:(brk (aV false a) false++BJ).size<=65541:=by rw[bsize];omega
 have zc3:(brk (aV false a) a.iy++BJ).size<=65541:=by rw[bsize];omega
 clear zs;cases hp:a.iP<;>cases hq:b.iP
 ·have HQ:=Lib.hid hq;have HA:=Lib.hid hp;clear hq hp;go_enter Tryz.func42,Tryz.ntmps42;go_wp2_with fail
  have c0:(w.alloc (.cells #[.iface Ta (.agg xa),.iface Tb (.agg xb)] 142)).cell? ⟨w.heap.size,0,none⟩=some (.iface Ta (.agg xa)):=by simp
  have c1:(w.alloc (.cells #[.iface Ta (.agg xa),.iface Tb (.agg xb)] 142)).cell? ⟨w.heap.size,1,none⟩=some (.iface Tb (.agg xb)):=by simp
  have hz:w.heap.size<(w.alloc (.cells #[.iface Ta (.agg xa),.iface Tb (.agg xb)] 142)).heap.size:=by simp
  have hB0:Below w.heap.size w (w.alloc (.cells #[.iface Ta (.agg xa),.iface Tb (.agg xb)] 142)):=aj _ _;generalize w.alloc (.cells #[.iface Ta (.agg xa),.iface Tb (.agg xb)] 142)=w0 at *;refine bC (C:=ah (aQ) _) 6 [0,1,2,3,4,5,6,7,8,9,10,11,12,13,14,15,16] (by kernel_rfl) (by kernel_rfl) (ah.grows _ _) (ah.refl _ _) ?_;iterate 3 (apply ay rfl rfl rfl;(focus intro u hc' hf';go_simp<;>rfl);intro K hK;go_simp;apply hK;clear hK K)
  refine aX rfl rfl rfl (ah.grows _ _) (ah.refl _ _) 42 (λK hK=>?_);apply Exists.intro;refine⟨λw' hw'=>?_,λwa dU dS=>?_⟩;(focus go_simp;rfl);refine(iha _).mono ?_;rintro e w3⟨rfl,hb3⟩;refine⟨_,rfl,hb3,λhx=>?_⟩;go_simp;apply hK;clear hK K;iterate 2 (apply ay rfl rfl rfl;(focus intro u hc' hf';go_simp<;>rfl);intro K hK;go_simp;apply hK;clear hK K)
  refine aX rfl rfl rfl (ah.grows _ _) (hx) 84 (λK hK=>?_);apply Exists.intro;refine⟨λw' hw'=>?_,λwb hwb fB=>?_⟩;(focus go_simp;rfl);refine(yj _).mono ?_;rintro e w4⟨rfl,hb4⟩;refine⟨_,rfl,hb4,λhx=>?_⟩;go_simp;apply hK;clear hK K;rw[HA.out];iterate 1 (apply ay rfl rfl rfl;(focus intro u hc' hf';go_simp<;>rfl);intro K hK;go_simp;apply hK;clear hK K)
  iterate 2 (apply dR rfl rfl (by first|rfl|(simp[Region.wanted,yielded,go_sem]));(focus intro u hc' hf';go_simp<;>rfl);intro K hK;go_simp;apply hK;clear hK K)
  iterate 3 (refine oJ rfl λK hK=>⟨by first|rfl|(simp[Region.wanted,yielded,go_sem]),?_⟩;go_simp;apply hK;clear hK K)
  iterate 1 (apply dR rfl rfl (by first|rfl|(simp[Region.wanted,yielded,go_sem]));(focus intro u hc' hf';go_simp<;>rfl);intro K hK;go_simp;apply hK;clear hK K)
  iterate 1 (apply ay rfl rfl rfl;(focus intro u hc' hf';go_simp<;>rfl);intro K hK;go_simp;apply hK;clear hK K)
  refine aX rfl rfl rfl (ah.grows _ _) (hx) 83 (λK hK=>?_);apply Exists.intro;refine⟨λw' hw'=>?_,λwc hwc kG=>?_⟩;(focus go_simp;rfl);refine(sZ _ _ _ (by omega)).mono ?_;rintro e w5⟨rfl,rfl⟩;refine⟨_,rfl,Below.refl _ _,λhx=>?_⟩;go_simp;apply hK;clear hK K;iterate 1 (apply ay rfl rfl rfl;(focus intro u hc' hf';go_simp<;>rfl);intro K hK;go_simp;apply hK;clear hK K)
  refine aK ?_;have hB:Below w0.heap.size w0 wc:=(Below.refl w0.heap.size w0).drew.trans ((hx.toBelow).mono (by simp));have TG:=ak hB c1;have hzb:w.heap.size<wc.heap.size:=by have:=hB.size;omega
  have hB1:Below w.heap.size w wc:=hB0.trans (hB.mono (by omega));clear hx hwc kG hwb fB dU dS c0 c1 hz hB0 hB hb3 hb4;go_wp2_with fail
  refine bC (C:=ah (aQ) _) 6 [0,1,2,3,4,5,6,7,8,9,10,11,12,13] (by kernel_rfl) (by kernel_rfl) (ah.grows _ _) (ah.refl _ _) ?_;iterate 3 (apply ay rfl rfl rfl;(focus intro u hc' hf';go_simp<;>rfl);intro K hK;go_simp;apply hK;clear hK K)
  refine aX rfl rfl rfl (ah.grows _ _) (ah.refl _ _) 42 (λK hK=>?_);apply Exists.intro;refine⟨λw' hw'=>?_,λwd hwd TI=>?_⟩;(focus go_simp;rfl);refine(ihb _).mono ?_;rintro e w3⟨rfl,hb3⟩;refine⟨_,rfl,hb3,λhx=>?_⟩;go_simp;apply hK;clear hK K;iterate 2 (apply ay rfl rfl rfl;(focus intro u hc' hf';go_simp<;>rfl);intro K hK;go_simp;apply hK;clear hK K)
  refine aX rfl rfl rfl (ah.grows _ _) (hx) 84 (λK hK=>?_);apply Exists.intro;refine⟨λw' hw'=>?_,λwe hwe kH=>?_⟩;(focus go_simp;rfl);refine(yt _).mono ?_;rintro e w4⟨rfl,hb4⟩;refine⟨_,rfl,hb4,λhx=>?_⟩;go_simp;apply hK;clear hK K;rw[HQ.out];iterate 1 (apply ay rfl rfl rfl;(focus intro u hc' hf';go_simp<;>rfl);intro K hK;go_simp;apply hK;clear hK K)
  iterate 2 (apply dR rfl rfl (by first|rfl|(simp[Region.wanted,yielded,go_sem]));(focus intro u hc' hf';go_simp<;>rfl);intro K hK;go_simp;apply hK;clear hK K)
  refine pR rfl rfl (ah.grows _ _) (hx) 85 (λK hK=>?_);refine⟨by first|rfl|(simp[Region.wanted,yielded,go_sem]),?_⟩;apply Exists.intro;refine⟨λw' hw'=>?_,λw' hw' hbw=>?_⟩;(focus go_simp;rfl);refine(Iq _).mono ?_;rintro e w6⟨rfl,hb6⟩;refine⟨_,rfl,hb6,λhx=>?_⟩;go_simp;apply hK;clear hK K;iterate 1 (apply ay rfl rfl rfl;(focus intro u hc' hf';go_simp<;>rfl);intro K hK;go_simp;apply hK;clear hK K)
  refine aX rfl rfl rfl (ah.grows _ _) (hx) 83 (λK hK=>?_);apply Exists.intro;refine⟨λw' hw'=>?_,λwf hwf TJ=>?_⟩;(focus go_simp;rfl);refine(sZ _ _ _ (by omega)).mono ?_;rintro e w5⟨rfl,rfl⟩;refine⟨_,rfl,Below.refl _ _,λhx=>?_⟩;go_simp;apply hK;clear hK K;iterate 1 (apply ay rfl rfl rfl;(focus intro u hc' hf';go_simp<;>rfl);intro K hK;go_simp;apply hK;clear hK K)
  refine aK ?_;go_wp2;go_ret
  exact⟨by rw[aV];simp only[HA.out,HQ.out,Bool.false_and,Bool.true_and,Bool.false_or,Bool.true_or,Bool.or_false,Bool.or_true,Bool.and_false,Bool.and_true];rfl,hB1.trans ((Below.refl wc.heap.size wc).drew.trans ((hx.toBelow).mono (by simp)) |>.mono (by have:=hB1.size;omega))⟩
 ·have HQ:=Lib.hid hq;have HA:=Lib.hid hp;clear hq hp;go_enter Tryz.func42,Tryz.ntmps42;go_wp2_with fail
  have c0:(w.alloc (.cells #[.iface Ta (.agg xa),.iface Tb (.agg xb)] 142)).cell? ⟨w.heap.size,0,none⟩=some (.iface Ta (.agg xa)):=by simp
  have c1:(w.alloc (.cells #[.iface Ta (.agg xa),.iface Tb (.agg xb)] 142)).cell? ⟨w.heap.size,1,none⟩=some (.iface Tb (.agg xb)):=by simp
  have hz:w.heap.size<(w.alloc (.cells #[.iface Ta (.agg xa),.iface Tb (.agg xb)] 142)).heap.size:=by simp
  have hB0:Below w.heap.size w (w.alloc (.cells #[.iface Ta (.agg xa),.iface Tb (.agg xb)] 142)):=aj _ _;generalize w.alloc (.cells #[.iface Ta (.agg xa),.iface Tb (.agg xb)] 142)=w0 at *;refine bC (C:=ah (aQ) _) 6 [0,1,2,3,4,5,6,7,8,9,10,11,12,13,14,15,16] (by kernel_rfl) (by kernel_rfl) (ah.grows _ _) (ah.refl _ _) ?_;iterate 3 (apply ay rfl rfl rfl;(focus intro u hc' hf';go_simp<;>rfl);intro K hK;go_simp;apply hK;clear hK K)
  refine aX rfl rfl rfl (ah.grows _ _) (ah.refl _ _) 42 (λK hK=>?_);apply Exists.intro;refine⟨λw' hw'=>?_,λwa dU dS=>?_⟩;(focus go_simp;rfl);refine(iha _).mono ?_;rintro e w3⟨rfl,hb3⟩;refine⟨_,rfl,hb3,λhx=>?_⟩;go_simp;apply hK;clear hK K;iterate 2 (apply ay rfl rfl rfl;(focus intro u hc' hf';go_simp<;>rfl);intro K hK;go_simp;apply hK;clear hK K)
  refine aX rfl rfl rfl (ah.grows _ _) (hx) 84 (λK hK=>?_);apply Exists.intro;refine⟨λw' hw'=>?_,λwb hwb fB=>?_⟩;(focus go_simp;rfl);refine(yj _).mono ?_;rintro e w4⟨rfl,hb4⟩;refine⟨_,rfl,hb4,λhx=>?_⟩;go_simp;apply hK;clear hK K;rw[HA.out];iterate 1 (apply ay rfl rfl rfl;(focus intro u hc' hf';go_simp<;>rfl);intro K hK;go_simp;apply hK;clear hK K)
  iterate 2 (apply dR rfl rfl (by first|rfl|(simp[Region.wanted,yielded,go_sem]));(focus intro u hc' hf';go_simp<;>rfl);intro K hK;go_simp;apply hK;clear hK K)
  iterate 3 (refine oJ rfl λK hK=>⟨by first|rfl|(simp[Region.wanted,yielded,go_sem]),?_⟩;go_simp;apply hK;clear hK K)
  iterate 1 (apply dR rfl rfl (by first|rfl|(simp[Region.wanted,yielded,go_sem]));(focus intro u hc' hf';go_simp<;>rfl);intro K hK;go_simp;apply hK;clear hK K)
  iterate 1 (apply ay rfl rfl rfl;(focus intro u hc' hf';go_simp<;>rfl);intro K hK;go_simp;apply hK;clear hK K)
  refine aX rfl rfl rfl (ah.grows _ _) (hx) 83 (λK hK=>?_);apply Exists.intro;refine⟨λw' hw'=>?_,λwc hwc kG=>?_⟩;(focus go_simp;rfl);refine(sZ _ _ _ (by omega)).mono ?_;rintro e w5⟨rfl,rfl⟩;refine⟨_,rfl,Below.refl _ _,λhx=>?_⟩;go_simp;apply hK;clear hK K;iterate 1 (apply ay rfl rfl rfl;(focus intro u hc' hf';go_simp<;>rfl);intro K hK;go_simp;apply hK;clear hK K)
  refine aK ?_;have hB:Below w0.heap.size w0 wc:=(Below.refl w0.heap.size w0).drew.trans ((hx.toBelow).mono (by simp));have TG:=ak hB c1;have hzb:w.heap.size<wc.heap.size:=by have:=hB.size;omega
  have hB1:Below w.heap.size w wc:=hB0.trans (hB.mono (by omega));clear hx hwc kG hwb fB dU dS c0 c1 hz hB0 hB hb3 hb4;go_wp2_with fail
  refine bC (C:=ah (aQ) _) 6 [0,1,2,3,4,5,6,7,8,9,10,11,12,13] (by kernel_rfl) (by kernel_rfl) (ah.grows _ _) (ah.refl _ _) ?_;iterate 3 (apply ay rfl rfl rfl;(focus intro u hc' hf';go_simp<;>rfl);intro K hK;go_simp;apply hK;clear hK K)
  refine aX rfl rfl rfl (ah.grows _ _) (ah.refl _ _) 42 (λK hK=>?_);apply Exists.intro;refine⟨λw' hw'=>?_,λwd hwd TI=>?_⟩;(focus go_simp;rfl);refine(ihb _).mono ?_;rintro e w3⟨rfl,hb3⟩;refine⟨_,rfl,hb3,λhx=>?_⟩;go_simp;apply hK;clear hK K;iterate 2 (apply ay rfl rfl rfl;(focus intro u hc' hf';go_simp<;>rfl);intro K hK;go_simp;apply hK;clear hK K)
  refine aX rfl rfl rfl (ah.grows _ _) (hx) 84 (λK hK=>?_);apply Exists.intro;refine⟨λw' hw'=>?_,λwe hwe kH=>?_⟩;(focus go_simp;rfl);refine(yt _).mono ?_;rintro e w4⟨rfl,hb4⟩;refine⟨_,rfl,hb4,λhx=>?_⟩;go_simp;apply hK;clear hK K;rw[HQ.out];iterate 1 (apply ay rfl rfl rfl;(focus intro u hc' hf';go_simp<;>rfl);intro K hK;go_simp;apply hK;clear hK K)
  iterate 3 (refine oJ rfl λK hK=>⟨by first|rfl|(simp[Region.wanted,yielded,go_sem]),?_⟩;go_simp;apply hK;clear hK K)
  iterate 1 (apply ay rfl rfl rfl;(focus intro u hc' hf';go_simp<;>rfl);intro K hK;go_simp;apply hK;clear hK K)
  refine aX rfl rfl rfl (ah.grows _ _) (hx) 83 (λK hK=>?_);apply Exists.intro;refine⟨λw' hw'=>?_,λwf hwf TJ=>?_⟩;(focus go_simp;rfl);refine(sZ _ _ _ (by omega)).mono ?_;rintro e w5⟨rfl,rfl⟩;refine⟨_,rfl,Below.refl _ _,λhx=>?_⟩;go_simp;apply hK;clear hK K;iterate 1 (apply ay rfl rfl rfl;(focus intro u hc' hf';go_simp<;>rfl);intro K hK;go_simp;apply hK;clear hK K)
  refine aK ?_;go_wp2;go_ret
  exact⟨by rw[aV];simp only[HA.out,HQ.out,Bool.false_and,Bool.true_and,Bool.false_or,Bool.true_or,Bool.or_false,Bool.or_true,Bool.and_false,Bool.and_true];rfl,hB1.trans ((Below.refl wc.heap.size wc).drew.trans ((hx.toBelow).mono (by simp)) |>.mono (by have:=hB1.size;omega))⟩
 ·have HQ:=Lib.hid hq;have HA:=Lib.hid hp;clear hq hp;go_enter Tryz.func42,Tryz.ntmps42;go_wp2_with fail
  have c0:(w.alloc (.cells #[.iface Ta (.agg xa),.iface Tb (.agg xb)] 142)).cell? ⟨w.heap.size,0,none⟩=some (.iface Ta (.agg xa)):=by simp
  have c1:(w.alloc (.cells #[.iface Ta (.agg xa),.iface Tb (.agg xb)] 142)).cell? ⟨w.heap.size,1,none⟩=some (.iface Tb (.agg xb)):=by simp
  have hz:w.heap.size<(w.alloc (.cells #[.iface Ta (.agg xa),.iface Tb (.agg xb)] 142)).heap.size:=by simp
  have hB0:Below w.heap.size w (w.alloc (.cells #[.iface Ta (.agg xa),.iface Tb (.agg xb)] 142)):=aj _ _;generalize w.alloc (.cells #[.iface Ta (.agg xa),.iface Tb (.agg xb)] 142)=w0 at *;refine bC (C:=ah (aQ) _) 6 [0,1,2,3,4,5,6,7,8,9,10,11,12,13,14,15,16] (by kernel_rfl) (by kernel_rfl) (ah.grows _ _) (ah.refl _ _) ?_;iterate 3 (apply ay rfl rfl rfl;(focus intro u hc' hf';go_simp<;>rfl);intro K hK;go_simp;apply hK;clear hK K)
  refine aX rfl rfl rfl (ah.grows _ _) (ah.refl _ _) 42 (λK hK=>?_);apply Exists.intro;refine⟨λw' hw'=>?_,λwa dU dS=>?_⟩;(focus go_simp;rfl);refine(iha _).mono ?_;rintro e w3⟨rfl,hb3⟩;refine⟨_,rfl,hb3,λhx=>?_⟩;go_simp;apply hK;clear hK K;iterate 2 (apply ay rfl rfl rfl;(focus intro u hc' hf';go_simp<;>rfl);intro K hK;go_simp;apply hK;clear hK K)
  refine aX rfl rfl rfl (ah.grows _ _) (hx) 84 (λK hK=>?_);apply Exists.intro;refine⟨λw' hw'=>?_,λwb hwb fB=>?_⟩;(focus go_simp;rfl);refine(yj _).mono ?_;rintro e w4⟨rfl,hb4⟩;refine⟨_,rfl,hb4,λhx=>?_⟩;go_simp;apply hK;clear hK K;rw[HA.out];iterate 1 (apply ay rfl rfl rfl;(focus intro u hc' hf';go_simp<;>rfl);intro K hK;go_simp;apply hK;clear hK K)
  iterate 6 (refine oJ rfl λK hK=>⟨by first|rfl|(simp[Region.wanted,yielded,go_sem]),?_⟩;go_simp;apply hK;clear hK K)
  iterate 1 (apply ay rfl rfl rfl;(focus intro u hc' hf';go_simp<;>rfl);intro K hK;go_simp;apply hK;clear hK K)
  refine aX rfl rfl rfl (ah.grows _ _) (hx) 83 (λK hK=>?_);apply Exists.intro;refine⟨λw' hw'=>?_,λwc hwc kG=>?_⟩;(focus go_simp;rfl);refine(sZ _ _ _ (by omega)).mono ?_;rintro e w5⟨rfl,rfl⟩;refine⟨_,rfl,Below.refl _ _,λhx=>?_⟩;go_simp;apply hK;clear hK K;iterate 1 (apply ay rfl rfl rfl;(focus intro u hc' hf';go_simp<;>rfl);intro K hK;go_simp;apply hK;clear hK K)
  refine aK ?_;have hB:Below w0.heap.size w0 wc:=(Below.refl w0.heap.size w0).drew.trans ((hx.toBelow).mono (by simp));have TG:=ak hB c1;have hzb:w.heap.size<wc.heap.size:=by have:=hB.size;omega
  have hB1:Below w.heap.size w wc:=hB0.trans (hB.mono (by omega));clear hx hwc kG hwb fB dU dS c0 c1 hz hB0 hB hb3 hb4;go_wp2_with fail
  refine bC (C:=ah (aQ) _) 6 [0,1,2,3,4,5,6,7,8,9,10,11,12,13] (by kernel_rfl) (by kernel_rfl) (ah.grows _ _) (ah.refl _ _) ?_;iterate 3 (apply ay rfl rfl rfl;(focus intro u hc' hf';go_simp<;>rfl);intro K hK;go_simp;apply hK;clear hK K)
  refine aX rfl rfl rfl (ah.grows _ _) (ah.refl _ _) 42 (λK hK=>?_);apply Exists.intro;refine⟨λw' hw'=>?_,λwd hwd TI=>?_⟩;(focus go_simp;rfl);refine(ihb _).mono ?_;rintro e w3⟨rfl,hb3⟩;refine⟨_,rfl,hb3,λhx=>?_⟩;go_simp;apply hK;clear hK K;iterate 2 (apply ay rfl rfl rfl;(focus intro u hc' hf';go_simp<;>rfl);intro K hK;go_simp;apply hK;clear hK K)
  refine aX rfl rfl rfl (ah.grows _ _) (hx) 84 (λK hK=>?_);apply Exists.intro;refine⟨λw' hw'=>?_,λwe hwe kH=>?_⟩;(focus go_simp;rfl);refine(yt _).mono ?_;rintro e w4⟨rfl,hb4⟩;refine⟨_,rfl,hb4,λhx=>?_⟩;go_simp;apply hK;clear hK K;rw[HQ.out];iterate 1 (apply ay rfl rfl rfl;(focus intro u hc' hf';go_simp<;>rfl);intro K hK;go_simp;apply hK;clear hK K)
  iterate 2 (apply dR rfl rfl (by first|rfl|(simp[Region.wanted,yielded,go_sem]));(focus intro u hc' hf';go_simp<;>rfl);intro K hK;go_simp;apply hK;clear hK K)
  refine pR rfl rfl (ah.grows _ _) (hx) 85 (λK hK=>?_);refine⟨by first|rfl|(simp[Region.wanted,yielded,go_sem]),?_⟩;apply Exists.intro;refine⟨λw' hw'=>?_,λw' hw' hbw=>?_⟩;(focus go_simp;rfl);refine(Iq _).mono ?_;rintro e w6⟨rfl,hb6⟩;refine⟨_,rfl,hb6,λhx=>?_⟩;go_simp;apply hK;clear hK K;iterate 1 (apply ay rfl rfl rfl;(focus intro u hc' hf';go_simp<;>rfl);intro K hK;go_simp;apply hK;clear hK K)
  refine aX rfl rfl rfl (ah.grows _ _) (hx) 83 (λK hK=>?_);apply Exists.intro;refine⟨λw' hw'=>?_,λwf hwf TJ=>?_⟩;(focus go_simp;rfl);refine(sZ _ _ _ (by omega)).mono ?_;rintro e w5⟨rfl,rfl⟩;refine⟨_,rfl,Below.refl _ _,λhx=>?_⟩;go_simp;apply hK;clear hK K;iterate 1 (apply ay rfl rfl rfl;(focus intro u hc' hf';go_simp<;>rfl);intro K hK;go_simp;apply hK;clear hK K)
  refine aK ?_;go_wp2;go_ret
  exact⟨by rw[aV];simp only[HA.out,HQ.out,Bool.false_and,Bool.true_and,Bool.false_or,Bool.true_or,Bool.or_false,Bool.or_true,Bool.and_false,Bool.and_true];rfl,hB1.trans ((Below.refl wc.heap.size wc).drew.trans ((hx.toBelow).mono (by simp)) |>.mono (by have:=hB1.size;omega))⟩
 ·have HQ:=Lib.hid hq;have HA:=Lib.hid hp;clear hq hp;go_enter Tryz.func42,Tryz.ntmps42;go_wp2_with fail
  have c0:(w.alloc (.cells #[.iface Ta (.agg xa),.iface Tb (.agg xb)] 142)).cell? ⟨w.heap.size,0,none⟩=some (.iface Ta (.agg xa)):=by simp
  have c1:(w.alloc (.cells #[.iface Ta (.agg xa),.iface Tb (.agg xb)] 142)).cell? ⟨w.heap.size,1,none⟩=some (.iface Tb (.agg xb)):=by simp
  have hz:w.heap.size<(w.alloc (.cells #[.iface Ta (.agg xa),.iface Tb (.agg xb)] 142)).heap.size:=by simp
  have hB0:Below w.heap.size w (w.alloc (.cells #[.iface Ta (.agg xa),.iface Tb (.agg xb)] 142)):=aj _ _;generalize w.alloc (.cells #[.iface Ta (.agg xa),.iface Tb (.agg xb)] 142)=w0 at *;refine bC (C:=ah (aQ) _) 6 [0,1,2,3,4,5,6,7,8,9,10,11,12,13,14,15,16] (by kernel_rfl) (by kernel_rfl) (ah.grows _ _) (ah.refl _ _) ?_;iterate 3 (apply ay rfl rfl rfl;(focus intro u hc' hf';go_simp<;>rfl);intro K hK;go_simp;apply hK;clear hK K)
  refine aX rfl rfl rfl (ah.grows _ _) (ah.refl _ _) 42 (λK hK=>?_);apply Exists.intro;refine⟨λw' hw'=>?_,λwa dU dS=>?_⟩;(focus go_simp;rfl);refine(iha _).mono ?_;rintro e w3⟨rfl,hb3⟩;refine⟨_,rfl,hb3,λhx=>?_⟩;go_simp;apply hK;clear hK K;iterate 2 (apply ay rfl rfl rfl;(focus intro u hc' hf';go_simp<;>rfl);intro K hK;go_simp;apply hK;clear hK K)
  refine aX rfl rfl rfl (ah.grows _ _) (hx) 84 (λK hK=>?_);apply Exists.intro;refine⟨λw' hw'=>?_,λwb hwb fB=>?_⟩;(focus go_simp;rfl);refine(yj _).mono ?_;rintro e w4⟨rfl,hb4⟩;refine⟨_,rfl,hb4,λhx=>?_⟩;go_simp;apply hK;clear hK K;rw[HA.out];iterate 1 (apply ay rfl rfl rfl;(focus intro u hc' hf';go_simp<;>rfl);intro K hK;go_simp;apply hK;clear hK K)
  iterate 6 (refine oJ rfl λK hK=>⟨by first|rfl|(simp[Region.wanted,yielded,go_sem]),?_⟩;go_simp;apply hK;clear hK K)
  iterate 1 (apply ay rfl rfl rfl;(focus intro u hc' hf';go_simp<;>rfl);intro K hK;go_simp;apply hK;clear hK K)
  refine aX rfl rfl rfl (ah.grows _ _) (hx) 83 (λK hK=>?_);apply Exists.intro;refine⟨λw' hw'=>?_,λwc hwc kG=>?_⟩;(focus go_simp;rfl);refine(sZ _ _ _ (by omega)).mono ?_;rintro e w5⟨rfl,rfl⟩;refine⟨_,rfl,Below.refl _ _,λhx=>?_⟩;go_simp;apply hK;clear hK K;iterate 1 (apply ay rfl rfl rfl;(focus intro u hc' hf';go_simp<;>rfl);intro K hK;go_simp;apply hK;clear hK K)
  refine aK ?_;have hB:Below w0.heap.size w0 wc:=(Below.refl w0.heap.size w0).drew.trans ((hx.toBelow).mono (by simp));have TG:=ak hB c1;have hzb:w.heap.size<wc.heap.size:=by have:=hB.size;omega
  have hB1:Below w.heap.size w wc:=hB0.trans (hB.mono (by omega));clear hx hwc kG hwb fB dU dS c0 c1 hz hB0 hB hb3 hb4;go_wp2_with fail
  refine bC (C:=ah (aQ) _) 6 [0,1,2,3,4,5,6,7,8,9,10,11,12,13] (by kernel_rfl) (by kernel_rfl) (ah.grows _ _) (ah.refl _ _) ?_;iterate 3 (apply ay rfl rfl rfl;(focus intro u hc' hf';go_simp<;>rfl);intro K hK;go_simp;apply hK;clear hK K)
  refine aX rfl rfl rfl (ah.grows _ _) (ah.refl _ _) 42 (λK hK=>?_);apply Exists.intro;refine⟨λw' hw'=>?_,λwd hwd TI=>?_⟩;(focus go_simp;rfl);refine(ihb _).mono ?_;rintro e w3⟨rfl,hb3⟩;refine⟨_,rfl,hb3,λhx=>?_⟩;go_simp;apply hK;clear hK K;iterate 2 (apply ay rfl rfl rfl;(focus intro u hc' hf';go_simp<;>rfl);intro K hK;go_simp;apply hK;clear hK K)
  refine aX rfl rfl rfl (ah.grows _ _) (hx) 84 (λK hK=>?_);apply Exists.intro;refine⟨λw' hw'=>?_,λwe hwe kH=>?_⟩;(focus go_simp;rfl);refine(yt _).mono ?_;rintro e w4⟨rfl,hb4⟩;refine⟨_,rfl,hb4,λhx=>?_⟩;go_simp;apply hK;clear hK K;rw[HQ.out];iterate 1 (apply ay rfl rfl rfl;(focus intro u hc' hf';go_simp<;>rfl);intro K hK;go_simp;apply hK;clear hK K)
  iterate 3 (refine oJ rfl λK hK=>⟨by first|rfl|(simp[Region.wanted,yielded,go_sem]),?_⟩;go_simp;apply hK;clear hK K)
  iterate 1 (apply ay rfl rfl rfl;(focus intro u hc' hf';go_simp<;>rfl);intro K hK;go_simp;apply hK;clear hK K)
  refine aX rfl rfl rfl (ah.grows _ _) (hx) 83 (λK hK=>?_);apply Exists.intro;refine⟨λw' hw'=>?_,λwf hwf TJ=>?_⟩;(focus go_simp;rfl);refine(sZ _ _ _ (by omega)).mono ?_;rintro e w5⟨rfl,rfl⟩;refine⟨_,rfl,Below.refl _ _,λhx=>?_⟩;go_simp;apply hK;clear hK K;iterate 1 (apply ay rfl rfl rfl;(focus intro u hc' hf';go_simp<;>rfl);intro K hK;go_simp;apply hK;clear hK K)
  refine aK ?_;go_wp2;go_ret
  exact⟨by rw[aV];simp only[HA.out,HQ.out,Bool.false_and,Bool.true_and,Bool.false_or,Bool.true_or,Bool.or_false,Bool.or_true,Bool.and_false,Bool.and_true];rfl,hB1.trans ((Below.refl wc.heap.size wc).drew.trans ((hx.toBelow).mono (by simp)) |>.mono (by have:=hB1.size;omega))⟩
theorem Ir:∀(t:Tr) (w:World),t.Ok->t.count<=4000->Calls Tryz.prog 42 #[fD t,.bool false] w λe w'=>e=.returned (.string (aV false t))/\Below w.heap.size w w'
 | .leaf n,w,h,_=>agv n false w h
 | .seq a b,w,h,hc=>by
  simp only[Tr.count]at hc;have ha:=ou false a h.1;have hb:=ou false b h.2;exact agw a b w (λw=>Ir a w h.1 (by omega)) (λw=>Ir b w h.2 (by omega)) (by omega) (by omega)
 | .par a b,w,h,hc=>by
  simp only[Tr.count]at hc;have ha:=ou false a h.1;have hb:=ou false b h.2;exact agD a b w (λw=>Ir a w h.1 (by omega)) (λw=>Ir b w h.2 (by omega)) (by omega) (by omega)
end Go.Proofs.YtikgblkfmpecfaaGreatDoor
