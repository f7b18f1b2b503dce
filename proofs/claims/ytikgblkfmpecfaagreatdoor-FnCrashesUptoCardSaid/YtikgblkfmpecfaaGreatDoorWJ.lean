/-
  JournalOf, the program's and the reference's. Own work.
-/
import Derived.Test.YtikgblkfmpecfaaGreatDoorWY
set_option linter.all false
set_option maxRecDepth 100000
set_option maxHeartbeats 8000000
namespace Go.Proofs.YtikgblkfmpecfaaGreatDoor
open Go.RowKit
theorem wo {L:List Df} (h:good L=true):(∀x∈L,dN x)/\L.length<=1048576:=by
 have h1:=yE h;have h2:=tK h;refine⟨λx hx=>?_,by omega⟩;obtain⟨q1,q2,q3⟩:=h1 x hx;exact⟨by omega,λn hn=>by have:=q3 n hn;omega,by omega⟩
theorem Xt:good []=true:=by decide
theorem Xu {L:List Df} {out:ByteArray} {e:En} {r:List En} (h:aJ L e=none):j_ L out (e::r)=none:=by
 unfold j_;rw[h]
theorem Xv {L R:List Df} {out:ByteArray} {e:En} {r:List En} (h:aJ L e=some R):j_ L out (e::r)=j_ R (out++dV (aH e)) r:=by
 conv=>lhs;unfold j_
 rw[h]
theorem Xw (s:ByteArray) (w:World) (hs:s.size<=9223372036854775807) :
  Calls Tryz.prog 55 #[.string s] w λe w'=>e=.returned (.bool (decide (s.size<=60000)))/\w=w':=by
 by_cases h:s.size<=60000
 ·have HH:=Lib.hid h;have h2:(s.size:Int)<=60000:=by omega
  clear h;go_enter Tryz.func55,Tryz.ntmps55;go_wp2;go_ret
  exact⟨Dw HH.out,rfl⟩
 ·have HH:=Lib.hid h;have h2:¬(s.size:Int)<=60000:=by omega
  clear h;go_enter Tryz.func55,Tryz.ntmps55;go_wp2;go_ret
  exact⟨yO HH.out,rfl⟩
structure Kr (es:List En) (w wr:World) (v:Value) (s:ByteArray) (k:Nat) (L:List Df):Prop where
 lib:aG wr v L
 gd:good L=true
 go:Hid (j_ [] ⟨#[]⟩ es=j_ L s (es.drop k))
 bel:Below w.heap.size w wr
 sz:s.size<=k*4194400
theorem aG.shape {w:World} {v:Value} {L:List Df} (h:aG w v L):∃a c,v=.slice a L.length c:=by
 obtain⟨a,cap,rfl,_⟩:=h;exact⟨a,cap,rfl⟩
theorem Xx (w:World) (a:Option Addr) (c:Nat):aG w (.slice a 0 c) []:=⟨a,c,rfl,Nat.zero_le _,λi hi=>absurd hi (Nat.not_lt_zero _)⟩
theorem Xy (v:Value) (es:List En) (w:World) (ht:iM w) (hv:tu w v es) (hn:es.length<=1048576) (hs:∀e∈es,dW e) :
  Calls Tryz.prog 17 #[v] w (wu (iI es) w):=by
 obtain⟨a,cap,rfl,hc,hat⟩:=hv;by_cases h60:es.length<=60
 ·have g1:¬(60:Int)<es.length:=by omega
  go_enter Tryz.func17,Tryz.ntmps17;go_wp2;go_loopw [4,5,16] (λv4 v5 i wr=>∃(k:Nat) (L:List Df) (s:ByteArray),k<=es.length/\i=.int .i64 k/\v5=.string s/\Kr es w wr v4 s k L) (λ_ _ i _=>es.length-(intOf i).toNat)
  case atStart=>exact⟨0,[],⟨#[]⟩,Nat.zero_le _,rfl,rfl,Xx _ _ _,Xt,(rfl:Hid (j_ [] ⟨#[]⟩ es=j_ [] ⟨#[]⟩ (es.drop 0))),aj _ _,Nat.zero_le _⟩
  case round =>
   obtain⟨k,L,s,hk,rfl,rfl,hst⟩:=hrel
   obtain⟨q_,hgd,hgo,hbel,hsz⟩:=hst
   obtain⟨a4,c4,rfl⟩:=q_.shape
   by_cases hlt:k<es.length
   ·obtain⟨b,o,rfl,_,hnd⟩:=hat k hlt
    obtain⟨c0,c1,c2,vb,c3,hvb⟩:=hnd.keep hbel
    obtain⟨ab,cb,rfl⟩:=hvb.slice
    have hek:=hs es[k] (List.getElem_mem _)
    obtain⟨hLo,hLn⟩:=wo hgd
    have hdrop:=List.drop_eq_getElem_cons hlt
    clear hat hnd
    cases hap:aJ L es[k]with
    | none =>
     have HA:=Lib.hid (show kD L es[k]=none by simp[kD,Ap hap])
     have HJ:Hid (iI es=none):=(show _=_ by unfold iI;rw[if_pos h60,hgo.out,hdrop,Xu hap])
     clear hap hdrop hgo hgd
     go_wp2_with (go_at_call 35;refine(Jz _ _ L es[k] _ (ht.keep (hbel.alloc hbel.size _)) ((q_.keep (aj _ _))) hLn hLo (hvb.keep (aj _ _)) hek).mono ?_;rintro r w1⟨rfl,hb1⟩;rw[HA.out];simp only[Option.isSome_none,Option.getD_none])
     go_ret2
     exact⟨by rw[HJ.out];rfl,(hbel.alloc hbel.size _).trans (hb1.mono (by simp;have:=hbel.size;omega))⟩
    | some R =>
     have HA:=Lib.hid (show kD L es[k]=some (dV (aH es[k]))by simp[kD,vN hap])
     have HP:=Lib.hid hap
     have hgR:=xE hap
     have htz:=FP hek hap
     have hrz:=OV (aH es[k])
     have mX:Hid (j_ [] ⟨#[]⟩ es=j_ R (s++dV (aH es[k])) (es.drop (k+1))):=(show _=_ by rw[hgo.out,hdrop,Xv hap])
     have hsz2:(s++dV (aH es[k])).size<=(k+1)*4194400:=by rw[bsize];omega
     clear hap hdrop hgo hgd
     have Qa:s.size<=251664000:=by have:k*4194400<=60*4194400:=Nat.mul_le_mul_right _ (by omega);omega
     go_wp2_with fail
     refine(Jz _ _ L es[k] _ (ht.keep (hbel.alloc hbel.size _)) ((q_.keep (aj _ _))) hLn hLo (hvb.keep (aj _ _)) hek).mono ?_
     rintro r w1⟨rfl,hb1⟩
     rw[HA.out]
     simp only[Option.isSome_some,Option.getD_some]
     have hB1:Below (wr.heap.size+1) (wr.alloc (.cells #[.int .i64 es[k].kind,.string es[k].name,.string es[k].to,.slice ab es[k].body.length cb] 45)) w1:=hb1.mono (by simp)
     obtain⟨x0,x1,x2,x3,z1,nS⟩:=kX hB1
     clear hb1
     go_wp2_with fail
     refine(zC _ _ L es[k] _ (q_.keep nS) hLn hLo (hvb.keep nS) hek).mono ?_
     rintro r w2⟨v2,rfl,ho2,hb2⟩
     rw[HP.out]at ho2 ⊢
     simp only[Option.isSome_some,Option.getD_some]at ho2 ⊢
     have Gs:Below w.heap.size w w2:=hbel.trans ((nS.trans (hb2.mono nS.size)).mono hbel.size)
     have hst2:Kr es w w2 v2 (s++dV (aH es[k])) (k+1) R:=⟨ho2.at,hgR,mX,Gs,hsz2⟩
     obtain⟨a5,c5,rfl⟩:=ho2.at.shape
     clear mX ho2 Gs hB1 nS hb2 q_ hgR
     go_wp2
     go_roundw
     case rel=>exact⟨k+1,R,_,by omega,by go_num,rfl,hst2⟩
     case measure=>simp[intOf];omega
   ·obtain rfl:k=es.length:=by omega
    have h0:=hgo.out
    rw[List.drop_length,j_]at h0
    have Qa:s.size<=251664000:=by have:es.length*4194400<=60*4194400:=Nat.mul_le_mul_right _ (by omega);omega
    by_cases hz:s.size<=60000
    ·have HJ:Hid (iI es=some s):=(show _=_ by unfold iI;rw[if_pos h60,h0];simp[hz])
     have HD:=Lib.hid (show decide (s.size<=60000)=true by simpa using hz)
     clear h0 hz hgo hat
     go_wp2_with (go_at_call 55;refine(Xw s _ (by omega)).mono ?_;rintro r w1⟨rfl,rfl⟩;rw[HD.out])
     go_ret2
     exact⟨by rw[HJ.out];rfl,hbel⟩
    ·have HJ:Hid (iI es=none):=(show _=_ by unfold iI;rw[if_pos h60,h0];simp[hz])
     have HD:=Lib.hid (show decide (s.size<=60000)=false by simpa using hz)
     clear h0 hz hgo hat
     go_wp2_with (go_at_call 55;refine(Xw s _ (by omega)).mono ?_;rintro r w1⟨rfl,rfl⟩;rw[HD.out])
     go_ret2
     exact⟨by rw[HJ.out];rfl,hbel⟩
 ·have g1:(60:Int)<es.length:=by omega
  have HJ:Hid (iI es=none):=(show _=_ by unfold iI;rw[if_neg h60])
  clear hat
  go_enter Tryz.func17,Tryz.ntmps17;go_wp2;go_ret2
  exact⟨by rw[HJ.out];rfl,Below.refl _ _⟩
end Go.Proofs.YtikgblkfmpecfaaGreatDoor
