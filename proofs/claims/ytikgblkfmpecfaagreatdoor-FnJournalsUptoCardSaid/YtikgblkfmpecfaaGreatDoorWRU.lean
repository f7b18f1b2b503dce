/-
  The reference's RecoverLibrary. Own work.
-/
import Derived.Test.YtikgblkfmpecfaaGreatDoorWRS
import Derived.Test.YtikgblkfmpecfaaGreatDoorWRI
import Derived.Test.YtikgblkfmpecfaaGreatDoorWNH
import Derived.Test.YtikgblkfmpecfaaGreatDoorWJ
set_option linter.all false
set_option maxRecDepth 100000
set_option maxHeartbeats 8000000
namespace Go.Proofs.YtikgblkfmpecfaaGreatDoor
open Go.RowKit
theorem aeF (s:ByteArray) (w:World) (hs:s.size<=4194304) :
  Calls Tryz.prog 26 #[.string s] w (Z9 (gG s).1.1 (gG s).1.2.1 (gG s).1.2.2 (gG s).2 w):=by
 by_cases h6:s.size<=60000
 ·have hrc:=λ(w1:World)=>Jy s w1 h6;have e:gG s=(aT s,true):=by unfold gG;rw[if_pos h6]
  rw[e];obtain⟨R,hR⟩:∃R,aT s=R:=⟨_,rfl⟩
  rw[hR]at hrc ⊢;obtain⟨L,n,k⟩:=R;have g6:¬(60000:Int)<s.size:=by omega
  have HC:=Lib.hid hrc;clear hR e hrc;go_enter Tryz.func26,Tryz.ntmps26;go_wp2_with (go_at_call 66;refine(HC.out _).mono ?_;rintro e w2⟨v2,rfl,ho2,hb2⟩;simp only at ho2 ⊢)
  obtain⟨a2,c2,rfl,_,_⟩:=id ho2.at
  go_wp2_with fail
  go_region
  go_wp2;refine bodyPost_ret (v:=.tuple #[.slice a2 L.length c2,.int .i64 (n:Int),.int .i64 (k:Int),.bool true]) (by simp[results,Tryz.results26,go_sem]) rfl ?_;refine⟨_,rfl,?_,?_⟩
  ·first|exact ho2.keep (aj _ _)|exact ho2.keep ((aj _ _).drew)
  ·first|exact hb2.alloc hb2.size _|exact(hb2.alloc hb2.size _).drew
 ·have e:gG s=(([],0,0),false):=by unfold gG;rw[if_neg h6]
  rw[e];have g6:(60000:Int)<s.size:=by omega
  clear e h6;go_enter Tryz.func26,Tryz.ntmps26;go_wp2;refine bodyPost_ret (v:=.tuple #[.slice none 0 0,.int .i64 0,.int .i64 0,.bool false]) (by simp[results,Tryz.results26,go_sem]) rfl ?_;exact⟨_,rfl,IU _ _,Below.refl _ _⟩
def BO (s:ByteArray):Option ByteArray:=if s.size<=60000 then iI ((aT s).1.map iw)else none
theorem aeA (s:ByteArray) (w:World) (ht:dF w) (hp:iM w) (hs:s.size<=4194304) :
  Calls Tryz.prog 20 #[.string s] w (wu (BO s) w):=by
 by_cases h6:s.size<=60000
 ·have hrc:=λ(w1:World) (h1:dF w1) (h2:iM w1)=>FN s w1 h1 h2 h6;have hgd:=(qQ s).1;have e:BO s=iI ((aT s).1.map iw):=by unfold BO;rw[if_pos h6]
  rw[e];obtain⟨R,hR⟩:∃R,aT s=R:=⟨_,rfl⟩
  rw[hR]at hrc hgd ⊢;obtain⟨L,n,k⟩:=R;simp only at hgd ⊢;obtain⟨hes,hel⟩:=afd hgd;have hLn:=tK hgd;obtain⟨J,hJ⟩:∃J,iI (L.map iw)=J:=⟨_,rfl⟩
  have hjo:=λ(v1:Value) (w1:World) (h1:iM w1) (h2:tu w1 v1 (L.map iw))=>Xy v1 (L.map iw) w1 h1 h2 hel hes;rw[hJ]at hjo ⊢;have HD:=Lib.hid (show decide (s.size<=60000)=true by simpa using h6);have HC:=Lib.hid hrc;have HJ:=Lib.hid hjo;have hfd:∀(v:Value) (w1:World),(Instr.field 97 (.agg #[v,.int .i64 (n:Int),.int .i64 (k:Int)]) 0).run Tryz.prog w1=.ok v w1:=λ_ _=>by kernel_rfl
  clear hR e hrc h6 hjo hJ hes hel;go_enter Tryz.func20,Tryz.ntmps20;go_wp2_with (go_at_call 55;refine(FM s _ (by omega)).mono ?_;rintro r w1⟨rfl,rfl⟩;rw[HD.out])
  go_wp2_with fail
  refine(HC.out _ ht hp).mono ?_;rintro e w2⟨v2,rfl,ho2,hb2⟩;simp only at ho2 ⊢;go_wp2_with fail
  refine(afc _ L _ ho2.at (by omega)).mono ?_;rintro e w3⟨v3,rfl,ho3,hb3⟩;have hB3:=hb2.trans (hb3.mono hb2.size);go_wp2_with fail
  refine(HJ.out _ _ (hp.keep hB3) ho3).mono ?_;rintro e w4⟨rfl,hb4⟩;go_wp2;go_ret2
  exact⟨rfl,hB3.trans (hb4.mono hB3.size)⟩
 ·have e:BO s=none:=by unfold BO;rw[if_neg h6]
  rw[e];have HD:=Lib.hid (show decide (s.size<=60000)=false by simpa using h6);clear e h6;go_enter Tryz.func20,Tryz.ntmps20;go_wp2_with (go_at_call 55;refine(FM s _ (by omega)).mono ?_;rintro r w1⟨rfl,rfl⟩;rw[HD.out])
  go_ret2
  exact⟨rfl,Below.refl _ _⟩
theorem aey (v:Value) (es:List En) (w:World) (hv:tu w v es) (hn:es.length<=1048576) (hs:∀e∈es,dW e) :
  Calls Tryz.prog 18 #[v] w (wu (iI es) w):=by
 obtain⟨a,cap,rfl,hc,hat⟩:=hv;by_cases h60:es.length<=60
 ·have g1:¬(60:Int)<es.length:=by omega
  go_enter Tryz.func18,Tryz.ntmps18;go_wp2;go_loopw [5,4,15] (λv4 v5 i wr=>∃(k:Nat) (L:List Df) (s:ByteArray),k<=es.length/\i=.int .i64 k/\v5=.string s/\Kr es w wr v4 s k L) (λ_ _ i _=>es.length-(intOf i).toNat)
  case atStart=>exact⟨0,[],⟨#[]⟩,Nat.zero_le _,rfl,rfl,Xx _ _ _,Xt,(rfl:Hid (j_ [] ⟨#[]⟩ es=j_ [] ⟨#[]⟩ (es.drop 0))),Below.refl _ _,Nat.zero_le _⟩
  case round =>
   obtain⟨k,L,s,hk,rfl,rfl,hst⟩:=hrel
   obtain⟨q_,hgd,hgo,hbel,hsz⟩:=hst
   obtain⟨a4,c4,rfl⟩:=q_.shape
   by_cases hlt:k<es.length
   ·obtain⟨b,o,rfl,_,hnd⟩:=hat k hlt
    obtain⟨c0,c1,c2,vb,c3,hvb⟩:=hnd.keep hbel
    obtain⟨ab,cb,rfl⟩:=hvb.slice
    have hek:=hs es[k] (List.getElem_mem _)
    obtain⟨hLo,hLn⟩:=wo hgd
    have hdrop:=List.drop_eq_getElem_cons hlt
    clear hat hnd
    cases hap:aJ L es[k]with
    | none =>
     have HA:=Lib.hid (show(aJ L es[k]).isSome=false by rw[hap];rfl)
     have HJ:Hid (iI es=none):=(show _=_ by unfold iI;rw[if_pos h60,hgo.out,hdrop,Xu hap])
     clear hap hdrop hgo hgd
     go_wp2_with (go_at_call 56;refine(oQ _ _ L es[k] _ ((q_.keep (aj _ _))) hLn hLo (hvb.keep (aj _ _)) hek).mono ?_;rintro r w1⟨v1,rfl,ho1,hb1⟩;rw[HA.out];obtain⟨a5,c5,rfl⟩:=ho1.at.shape)
     go_ret2
     exact⟨by rw[HJ.out];rfl,(hbel.alloc hbel.size _).trans (hb1.mono (by simp;have:=hbel.size;omega))⟩
    | some R =>
     have HP:=Lib.hid hap
     have hgR:=xE hap
     have htz:=FP hek hap
     have hrz:=OV (aH es[k])
     have mX:Hid (j_ [] ⟨#[]⟩ es=j_ R (s++dV (aH es[k])) (es.drop (k+1))):=(show _=_ by rw[hgo.out,hdrop,Xv hap])
     have hsz2:(s++dV (aH es[k])).size<=(k+1)*4194400:=by rw[bsize];omega
     clear hap hdrop hgo hgd
     have Qa:s.size<=251664000:=by have:k*4194400<=60*4194400:=Nat.mul_le_mul_right _ (by omega);omega
     go_wp2_with fail
     refine(oQ _ _ L es[k] _ ((q_.keep (aj _ _))) hLn hLo (hvb.keep (aj _ _)) hek).mono ?_
     rintro r w1⟨v1,rfl,ho1,hb1⟩
     rw[HP.out]at ho1 ⊢
     simp only[Option.isSome_some,Option.getD_some]at ho1 ⊢
     obtain⟨a5,c5,rfl⟩:=ho1.at.shape
     have hB1:Below (wr.heap.size+1) (wr.alloc (.cells #[.int .i64 es[k].kind,.string es[k].name,.string es[k].to,.slice ab es[k].body.length cb] 45)) w1:=hb1.mono (by simp)
     obtain⟨x0,x1,x2,x3,z1,nS⟩:=kX hB1
     clear hb1
     go_wp2_with (first|(go_at_call 58;refine(DL DN _ L R es[k] _ (hvb.keep nS) hek HP.out).mono ?_;rintro r w2⟨rfl,hb2⟩)|(go_at_call 57;refine(FT (aH es[k]) _ htz).mono ?_;rintro r w3⟨rfl,hb3⟩))
     have Gs:Below w.heap.size w w3:=hbel.trans ((nS.trans ((hb2.trans (hb3.mono hb2.size)).mono nS.size)).mono hbel.size)
     have hst2:Kr es w w3 _ (s++dV (aH es[k])) (k+1) R:=⟨ho1.at.keep (hb2.trans (hb3.mono hb2.size)),hgR,mX,Gs,hsz2⟩
     clear mX ho1 Gs hB1 nS hb2 hb3 q_ hgR
     go_roundw
     case rel=>exact⟨k+1,R,_,by omega,by go_num,rfl,hst2⟩
     case measure=>simp[intOf];omega
   ·obtain rfl:k=es.length:=by omega
    have h0:=hgo.out
    rw[List.drop_length,j_]at h0
    have Qa:s.size<=251664000:=by have:es.length*4194400<=60*4194400:=Nat.mul_le_mul_right _ (by omega);omega
    by_cases hz:s.size<=60000
    ·have HJ:Hid (iI es=some s):=(show _=_ by unfold iI;rw[if_pos h60,h0];simp[hz])
     have hz2:¬(60000:Int)<s.size:=by omega
     clear h0 hgo hat
     go_wp2
     go_ret2
     exact⟨by rw[HJ.out];rfl,hbel⟩
    ·have HJ:Hid (iI es=none):=(show _=_ by unfold iI;rw[if_pos h60,h0];simp[hz])
     have hz2:(60000:Int)<s.size:=by omega
     clear h0 hgo hat
     go_wp2
     go_ret2
     exact⟨by rw[HJ.out];rfl,hbel⟩
 ·have g1:(60:Int)<es.length:=by omega
  have HJ:Hid (iI es=none):=(show _=_ by unfold iI;rw[if_neg h60])
  clear hat
  go_enter Tryz.func18,Tryz.ntmps18;go_wp2;go_ret2
  exact⟨by rw[HJ.out];rfl,Below.refl _ _⟩
end Go.Proofs.YtikgblkfmpecfaaGreatDoor
