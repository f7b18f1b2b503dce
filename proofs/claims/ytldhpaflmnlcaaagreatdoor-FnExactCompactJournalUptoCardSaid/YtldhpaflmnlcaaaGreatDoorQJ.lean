/-
  JournalOf, the program's and the reference's. Own work.
-/
import Derived.Test.YtldhpaflmnlcaaaGreatDoorQY
set_option linter.all false
set_option maxRecDepth 100000
set_option maxHeartbeats 8000000
namespace Go.Proofs.YtldhpaflmnlcaaaGreatDoor
open Go.RowKit
theorem goodLib_ok {L:List Df} (h:good L=true):(∀ x ∈ L,DfOk x)∧L.length≤1048576:=by
 have h1:=good_bnd h
 have h2:=good_len h
 refine ⟨fun x hx=>?_,by omega⟩
 obtain ⟨q1,q2,q3⟩:=h1 x hx
 exact ⟨by omega,fun n hn=>by have:=q3 n hn;omega,by omega⟩
theorem good_nil:good []=true:=by decide
theorem journ_no {L:List Df} {out:ByteArray} {e:En} {r:List En} (h:applyE L e=none):journ L out (e :: r)=none:=by
 unfold journ;rw [h]
theorem journ_yes {L R:List Df} {out:ByteArray} {e:En} {r:List En} (h:applyE L e=some R):journ L out (e :: r)=journ R (out ++ recT (txtE e)) r:=by
 conv=>lhs;unfold journ
 rw [h]
theorem isJournal_any (s:ByteArray) (w:World) (hs:s.size≤9223372036854775807) :
  Calls Tryz.prog 90 #[.string s] w fun e w'=>e=.returned (.bool (decide (s.size≤60000)))∧w=w':=by
 by_cases h:s.size≤60000
 ·have HH:=Lib.hid h
  have h2:(s.size:Int)≤60000:=by omega
  clear h
  go_enter Tryz.func90,Tryz.ntmps90
  go_wp2
  go_ret
  exact ⟨yes_bool HH.out,rfl⟩
 ·have HH:=Lib.hid h
  have h2:¬ (s.size:Int)≤60000:=by omega
  clear h
  go_enter Tryz.func90,Tryz.ntmps90
  go_wp2
  go_ret
  exact ⟨no_bool HH.out,rfl⟩
structure JoSt (es:List En) (w wr:World) (v:Value) (s:ByteArray) (k:Nat) (L:List Df):Prop where
 lib:DfsAt wr v L
 gd:good L=true
 go:Hid (journ [] ⟨#[]⟩ es=journ L s (es.drop k))
 bel:Below w.heap.size w wr
 sz:s.size≤k * 4194400
theorem DfsAt.shape {w:World} {v:Value} {L:List Df} (h:DfsAt w v L):∃ a c,v=.slice a L.length c:=by
 obtain ⟨a,cap,rfl,_⟩:=h;exact ⟨a,cap,rfl⟩
theorem dfsAt_nil (w:World) (a:Option Addr) (c:Nat):DfsAt w (.slice a 0 c) []:=⟨a,c,rfl,Nat.zero_le _,fun i hi=>absurd hi (Nat.not_lt_zero _)⟩
theorem implJournal_any (v:Value) (es:List En) (w:World) (ht:PowTab w) (hv:EnsAt w v es) (hn:es.length≤1048576) (hs:∀ e ∈ es,EnOk e) :
  Calls Tryz.prog 44 #[v] w (TxtPost (journal es) w):=by
 obtain ⟨a,cap,rfl,hc,hat⟩:=hv
 by_cases h60:es.length≤60
 ·have g1:¬ (60:Int)<es.length:=by omega
  go_enter Tryz.func44,Tryz.ntmps44
  go_wp2
  go_loopw [4,5,16] (fun v4 v5 i wr=>∃ (k:Nat) (L:List Df) (s:ByteArray),k≤es.length∧i=.int .i64 k∧v5=.string s∧JoSt es w wr v4 s k L) (fun _ _ i _=>es.length - (intOf i).toNat)
  case atStart=>exact ⟨0,[],⟨#[]⟩,Nat.zero_le _,rfl,rfl,dfsAt_nil _ _ _,good_nil,(rfl:Hid (journ [] ⟨#[]⟩ es=journ [] ⟨#[]⟩ (es.drop 0))),alloc_below _ _,Nat.zero_le _⟩
  case round =>
   obtain ⟨k,L,s,hk,rfl,rfl,hst⟩:=hrel
   obtain ⟨hlib,hgd,hgo,hbel,hsz⟩:=hst
   obtain ⟨a4,c4,rfl⟩:=hlib.shape
   by_cases hlt:k<es.length
   ·obtain ⟨b,o,rfl,_,hnd⟩:=hat k hlt
    obtain ⟨c0,c1,c2,vb,c3,hvb⟩:=hnd.keep hbel
    obtain ⟨ab,cb,rfl⟩:=hvb.slice
    have hek:=hs es[k] (List.getElem_mem _)
    obtain ⟨hLo,hLn⟩:=goodLib_ok hgd
    have hdrop:=List.drop_eq_getElem_cons hlt
    clear hat hnd
    cases hap:applyE L es[k] with
    | none =>
     have HA:=Lib.hid (show recO L es[k]=none by simp [recO,textO_none hap])
     have HJ:Hid (journal es=none):=(show _=_ by unfold journal;rw [if_pos h60,hgo.out,hdrop,journ_no hap])
     clear hap hdrop hgo hgd
     go_wp2_with (go_at_call 47;refine (implRec_any _ _ L es[k] _ (ht.keep (hbel.alloc hbel.size _)) ((hlib.keep (alloc_below _ _))) hLn hLo (hvb.keep (alloc_below _ _)) hek).mono ?_;rintro r w1 ⟨rfl,hb1⟩;rw [HA.out];simp only [Option.isSome_none,Option.getD_none])
     go_ret2
     exact ⟨by rw [HJ.out];rfl,(hbel.alloc hbel.size _).trans (hb1.mono (by simp;have:=hbel.size;omega))⟩
    | some R =>
     have HA:=Lib.hid (show recO L es[k]=some (recT (txtE es[k])) by simp [recO,textO_some hap])
     have HP:=Lib.hid hap
     have hgR:=applyE_good hap
     have htz:=txt_size hek hap
     have hrz:=recT_size (txtE es[k])
     have hgo2:Hid (journ [] ⟨#[]⟩ es=journ R (s ++ recT (txtE es[k])) (es.drop (k+1))):=(show _=_ by rw [hgo.out,hdrop,journ_yes hap])
     have hsz2:(s ++ recT (txtE es[k])).size≤(k+1) * 4194400:=by rw [bsize];omega
     clear hap hdrop hgo hgd
     have hs60:s.size≤251664000:=by have:k * 4194400≤60 * 4194400:=Nat.mul_le_mul_right _ (by omega);omega
     go_wp2_with fail
     refine (implRec_any _ _ L es[k] _ (ht.keep (hbel.alloc hbel.size _)) ((hlib.keep (alloc_below _ _))) hLn hLo (hvb.keep (alloc_below _ _)) hek).mono ?_
     rintro r w1 ⟨rfl,hb1⟩
     rw [HA.out]
     simp only [Option.isSome_some,Option.getD_some]
     have hB1:Below (wr.heap.size+1) (wr.alloc (.cells #[.int .i64 es[k].kind,.string es[k].name,.string es[k].to,.slice ab es[k].body.length cb] 54)) w1:=hb1.mono (by simp)
     obtain ⟨x0,x1,x2,x3,z1,hB1'⟩:=box4 hB1
     clear hb1
     go_wp2_with fail
     refine (implApply_any _ _ L es[k] _ (hlib.keep hB1') hLn hLo (hvb.keep hB1') hek).mono ?_
     rintro r w2 ⟨v2,rfl,ho2,hb2⟩
     rw [HP.out] at ho2 ⊢
     simp only [Option.isSome_some,Option.getD_some] at ho2 ⊢
     have hbel2:Below w.heap.size w w2:=hbel.trans ((hB1'.trans (hb2.mono hB1'.size)).mono hbel.size)
     have hst2:JoSt es w w2 v2 (s ++ recT (txtE es[k])) (k+1) R:=⟨ho2.at,hgR,hgo2,hbel2,hsz2⟩
     obtain ⟨a5,c5,rfl⟩:=ho2.at.shape
     clear hgo2 ho2 hbel2 hB1 hB1' hb2 hlib hgR
     go_wp2
     go_roundw
     case rel=>exact ⟨k+1,R,_,by omega,by go_num,rfl,hst2⟩
     case measure=>simp [intOf];omega
   ·obtain rfl:k=es.length:=by omega
    have h0:=hgo.out
    rw [List.drop_length,journ] at h0
    have hs60:s.size≤251664000:=by have:es.length * 4194400≤60 * 4194400:=Nat.mul_le_mul_right _ (by omega);omega
    by_cases hz:s.size≤60000
    ·have HJ:Hid (journal es=some s):=(show _=_ by unfold journal;rw [if_pos h60,h0];simp [hz])
     have HD:=Lib.hid (show decide (s.size≤60000)=true by simpa using hz)
     clear h0 hz hgo hat
     go_wp2_with (go_at_call 90;refine (isJournal_any s _ (by omega)).mono ?_;rintro r w1 ⟨rfl,rfl⟩;rw [HD.out])
     go_ret2
     exact ⟨by rw [HJ.out];rfl,hbel⟩
    ·have HJ:Hid (journal es=none):=(show _=_ by unfold journal;rw [if_pos h60,h0];simp [hz])
     have HD:=Lib.hid (show decide (s.size≤60000)=false by simpa using hz)
     clear h0 hz hgo hat
     go_wp2_with (go_at_call 90;refine (isJournal_any s _ (by omega)).mono ?_;rintro r w1 ⟨rfl,rfl⟩;rw [HD.out])
     go_ret2
     exact ⟨by rw [HJ.out];rfl,hbel⟩
 ·have g1:(60:Int)<es.length:=by omega
  have HJ:Hid (journal es=none):=(show _=_ by unfold journal;rw [if_neg h60])
  clear hat
  go_enter Tryz.func44,Tryz.ntmps44
  go_wp2
  go_ret2
  exact ⟨by rw [HJ.out];rfl,Below.refl _ _⟩
end Go.Proofs.YtldhpaflmnlcaaaGreatDoor
/-
  The reference's JournalOf. Own work.
-/
namespace Go.Proofs.YtldhpaflmnlcaaaGreatDoor
open Go.RowKit
theorem specJournal_any (v:Value) (es:List En) (w:World) (hv:EnsAt w v es) (hn:es.length≤1048576) (hs:∀ e ∈ es,EnOk e) :
  Calls Tryz.prog 42 #[v] w (TxtPost (journal es) w):=by
 obtain ⟨a,cap,rfl,hc,hat⟩:=hv
 by_cases h60:es.length≤60
 ·have g1:¬ (60:Int)<es.length:=by omega
  go_enter Tryz.func42,Tryz.ntmps42
  go_wp2
  go_loopw [5,4,15] (fun v4 v5 i wr=>∃ (k:Nat) (L:List Df) (s:ByteArray),k≤es.length∧i=.int .i64 k∧v5=.string s∧JoSt es w wr v4 s k L) (fun _ _ i _=>es.length - (intOf i).toNat)
  case atStart=>exact ⟨0,[],⟨#[]⟩,Nat.zero_le _,rfl,rfl,dfsAt_nil _ _ _,good_nil,(rfl:Hid (journ [] ⟨#[]⟩ es=journ [] ⟨#[]⟩ (es.drop 0))),Below.refl _ _,Nat.zero_le _⟩
  case round =>
   obtain ⟨k,L,s,hk,rfl,rfl,hst⟩:=hrel
   obtain ⟨hlib,hgd,hgo,hbel,hsz⟩:=hst
   obtain ⟨a4,c4,rfl⟩:=hlib.shape
   by_cases hlt:k<es.length
   ·obtain ⟨b,o,rfl,_,hnd⟩:=hat k hlt
    obtain ⟨c0,c1,c2,vb,c3,hvb⟩:=hnd.keep hbel
    obtain ⟨ab,cb,rfl⟩:=hvb.slice
    have hek:=hs es[k] (List.getElem_mem _)
    obtain ⟨hLo,hLn⟩:=goodLib_ok hgd
    have hdrop:=List.drop_eq_getElem_cons hlt
    clear hat hnd
    cases hap:applyE L es[k] with
    | none =>
     have HA:=Lib.hid (show (applyE L es[k]).isSome=false by rw [hap];rfl)
     have HJ:Hid (journal es=none):=(show _=_ by unfold journal;rw [if_pos h60,hgo.out,hdrop,journ_no hap])
     clear hap hdrop hgo hgd
     go_wp2_with (go_at_call 38;refine (specApply_any _ _ L es[k] _ ((hlib.keep (alloc_below _ _))) hLn hLo (hvb.keep (alloc_below _ _)) hek).mono ?_;rintro r w1 ⟨v1,rfl,ho1,hb1⟩;rw [HA.out];obtain ⟨a5,c5,rfl⟩:=ho1.at.shape)
     go_ret2
     exact ⟨by rw [HJ.out];rfl,(hbel.alloc hbel.size _).trans (hb1.mono (by simp;have:=hbel.size;omega))⟩
    | some R =>
     have HP:=Lib.hid hap
     have hgR:=applyE_good hap
     have htz:=txt_size hek hap
     have hrz:=recT_size (txtE es[k])
     have hgo2:Hid (journ [] ⟨#[]⟩ es=journ R (s ++ recT (txtE es[k])) (es.drop (k+1))):=(show _=_ by rw [hgo.out,hdrop,journ_yes hap])
     have hsz2:(s ++ recT (txtE es[k])).size≤(k+1) * 4194400:=by rw [bsize];omega
     clear hap hdrop hgo hgd
     have hs60:s.size≤251664000:=by have:k * 4194400≤60 * 4194400:=Nat.mul_le_mul_right _ (by omega);omega
     go_wp2_with fail
     refine (specApply_any _ _ L es[k] _ ((hlib.keep (alloc_below _ _))) hLn hLo (hvb.keep (alloc_below _ _)) hek).mono ?_
     rintro r w1 ⟨v1,rfl,ho1,hb1⟩
     rw [HP.out] at ho1 ⊢
     simp only [Option.isSome_some,Option.getD_some] at ho1 ⊢
     obtain ⟨a5,c5,rfl⟩:=ho1.at.shape
     have hB1:Below (wr.heap.size+1) (wr.alloc (.cells #[.int .i64 es[k].kind,.string es[k].name,.string es[k].to,.slice ab es[k].body.length cb] 54)) w1:=hb1.mono (by simp)
     obtain ⟨x0,x1,x2,x3,z1,hB1'⟩:=box4 hB1
     clear hb1
     go_wp2_with (first|(go_at_call 82;refine (joText_any numOk _ L R es[k] _ (hvb.keep hB1') hek HP.out).mono ?_;rintro r w2 ⟨rfl,hb2⟩)|(go_at_call 89;refine (joRecord_any (txtE es[k]) _ htz).mono ?_;rintro r w3 ⟨rfl,hb3⟩))
     have hbel2:Below w.heap.size w w3:=hbel.trans ((hB1'.trans ((hb2.trans (hb3.mono hb2.size)).mono hB1'.size)).mono hbel.size)
     have hst2:JoSt es w w3 _ (s ++ recT (txtE es[k])) (k+1) R:=⟨ho1.at.keep (hb2.trans (hb3.mono hb2.size)),hgR,hgo2,hbel2,hsz2⟩
     clear hgo2 ho1 hbel2 hB1 hB1' hb2 hb3 hlib hgR
     go_roundw
     case rel=>exact ⟨k+1,R,_,by omega,by go_num,rfl,hst2⟩
     case measure=>simp [intOf];omega
   ·obtain rfl:k=es.length:=by omega
    have h0:=hgo.out
    rw [List.drop_length,journ] at h0
    have hs60:s.size≤251664000:=by have:es.length * 4194400≤60 * 4194400:=Nat.mul_le_mul_right _ (by omega);omega
    by_cases hz:s.size≤60000
    ·have HJ:Hid (journal es=some s):=(show _=_ by unfold journal;rw [if_pos h60,h0];simp [hz])
     have hz2:¬ (60000:Int)<s.size:=by omega
     clear h0 hgo hat
     go_wp2
     go_ret2
     exact ⟨by rw [HJ.out];rfl,hbel⟩
    ·have HJ:Hid (journal es=none):=(show _=_ by unfold journal;rw [if_pos h60,h0];simp [hz])
     have hz2:(60000:Int)<s.size:=by omega
     clear h0 hgo hat
     go_wp2
     go_ret2
     exact ⟨by rw [HJ.out];rfl,hbel⟩
 ·have g1:(60:Int)<es.length:=by omega
  have HJ:Hid (journal es=none):=(show _=_ by unfold journal;rw [if_neg h60])
  clear hat
  go_enter Tryz.func42,Tryz.ntmps42
  go_wp2
  go_ret2
  exact ⟨by rw [HJ.out];rfl,Below.refl _ _⟩
end Go.Proofs.YtldhpaflmnlcaaaGreatDoor
