/-
  Disks: which are valid, and equal ones; CountAcknowledged, the program's, the reference's and its law. Own work.
-/
import Derived.Test.YtikgblkfmpecfaaGreatDoorWRS
import Derived.Test.YtikgblkfmpecfaaGreatDoorWRI
import Derived.Test.YtikgblkfmpecfaaGreatDoorWT
import Derived.Test.YtikgblkfmpecfaaGreatDoorWA
import Derived.Test.YtikgblkfmpecfaaGreatDoorWC
import Derived.Test.YtikgblkfmpecfaaGreatDoorWY
import Derived.Test.YtikgblkfmpecfaaGreatDoorWX
set_option linter.all false
set_option maxRecDepth 100000
set_option maxHeartbeats 8000000
namespace Go.Proofs.YtikgblkfmpecfaaGreatDoor
open Go.RowKit
theorem OM (s t:ByteArray) (w:World) (hs:s.size<=4194304) (ht:t.size<=9999999) :
  Calls Tryz.prog 69 #[.agg #[.string s,.string t]] w λe w'=>e=.returned (.bool (decide (s.size+t.size<=60000)))/\Below w.heap.size w w':=by
 have hz:=bsize s t;have hlim:¬9223372036854775807<s.size+t.size:=by omega
 go_enter Tryz.func69,Tryz.ntmps69;go_wp2_with (go_at_call 55;refine(FM (s++t) _ (by omega)).mono ?_;rintro r w1⟨rfl,rfl⟩;rw[hz])
 go_ret
 exact⟨rfl,aj _ _⟩
theorem OO (s t:ByteArray) (w:World) (hs:s.size<=4194304) (ht:t.size<=9999999) :
  Calls Tryz.prog 70 #[.agg #[.string s,.string t]] w λe w'=>e=.returned (.bool (decide (s.size+t.size<=60000)))/\Below w.heap.size w w':=by
 by_cases h1:s.size<=60000
 ·by_cases h2:s.size+t.size<=60000
  ·have HH:=Lib.hid h2;have g1:(s.size:Int)<=60000:=by omega
   have g2:(t.size:Int)<=60000-s.size:=by omega
   clear h1 h2;go_enter Tryz.func70,Tryz.ntmps70;go_wp2;go_ret
   exact⟨Dw HH.out,aj _ _⟩
  ·have HH:=Lib.hid h2;have g1:(s.size:Int)<=60000:=by omega
   have g2:¬(t.size:Int)<=60000-s.size:=by omega
   clear h1 h2;go_enter Tryz.func70,Tryz.ntmps70;go_wp2;go_ret
   exact⟨yO HH.out,aj _ _⟩
 ·have HH:=Lib.hid (show ¬s.size+t.size<=60000 by omega);have g1:¬(s.size:Int)<=60000:=by omega
  clear h1;go_enter Tryz.func70,Tryz.ntmps70;go_wp2;go_ret
  exact⟨yO HH.out,aj _ _⟩
theorem Aw {w:World} {s t:ByteArray} {d:Bool} (hd:decide (s.size+t.size<=60000)=d) (hs:s.size<=4194304) (ht:t.size<=9999999) :
  Calls Tryz.prog 69 #[.agg #[.string s,.string t]] w (λe w'=>e=.returned (.bool d)/\Below w.heap.size w w') /\
  Calls Tryz.prog 70 #[.agg #[.string s,.string t]] w (λe w'=>e=.returned (.bool d)/\Below w.heap.size w w'):=by
 subst hd;exact⟨OM s t w hs ht,OO s t w hs ht⟩
theorem V5 (b:Bool):(b != b)=false:=by cases b<;>rfl
theorem DJ {w W:World} {a b:Value} {t:TypeId} (hB:Below (w.heap.size+1) (w.alloc (.cells #[a,b] t)) W) :
  W.cell? ⟨w.heap.size,0,none⟩=some a/\W.cell? ⟨w.heap.size,1,none⟩=some b/\(∀j,W.frozen? ⟨w.heap.size,j,none⟩=false)/\w.heap.size<W.heap.size/\Below w.heap.size w W:=by
 refine⟨?_,?_,λj=>?_,by have:=hB.size;simp at this;omega,(aj _ _).trans (hB.mono (by omega))⟩
 ·rw[hB.cell (p:=⟨w.heap.size,0,none⟩) (by simp)];simp
 ·rw[hB.cell (p:=⟨w.heap.size,1,none⟩) (by simp)];simp
 ·rw[hB.frozen (p:=⟨w.heap.size,j,none⟩) (by simp)];simp
def oP (s t:ByteArray):Nat×Bool:=if s.size+t.size<=60000 then((aT s).2.1,true)else(0,false)
def OQ (R:Nat×Bool) (w:World) (e:Ending) (w':World):Prop:=e=.returned (.tuple #[.int .i64 (R.1:Int),.bool R.2])/\Below w.heap.size w w'
theorem V6 (s t:ByteArray) (w:World) (ht:dF w) (hp:iM w) (hs:s.size<=1048576) (hs2:t.size<=1048576) :
  Calls Tryz.prog 31 #[.agg #[.string s,.string t]] w (OQ (oP s t) w):=by
 by_cases h6:s.size+t.size<=60000
 ·have hrc:=λ(w1:World) (h1:dF w1) (h2:iM w1)=>FN s w1 h1 h2 (by omega);have e:oP s t=((aT s).2.1,true):=by unfold oP;rw[if_pos h6]
  rw[e];obtain⟨R,hR⟩:∃R,aT s=R:=⟨_,rfl⟩
  rw[hR]at hrc ⊢;obtain⟨L,n,k⟩:=R;have hD:=λ(w1:World)=>(Aw (w:=w1) (show decide (s.size+t.size<=60000)=true by simpa using h6) (by omega) (by omega)).1;have HC:=Lib.hid hrc;have hfd:∀(v:Value) (w1:World),(Instr.field 97 (.agg #[v,.int .i64 (n:Int),.int .i64 (k:Int)]) 1).run Tryz.prog w1=.ok (.int .i64 (n:Int)) w1:=λ_ _=>by kernel_rfl
  clear hR e hrc h6;go_enter Tryz.func31,Tryz.ntmps31;go_wp2_with (go_at_call 69;refine(hD _).mono ?_;rintro r w1⟨rfl,hb1⟩;obtain⟨c0,c1,cf,hz1,hb1'⟩:=DJ (hb1.mono (by simp)))
  go_wp2_with (go_at_call 59;refine(HC.out _ (ht.keep hb1') (hp.keep hb1')).mono ?_;rintro e w2⟨v2,rfl,ho2,hb2⟩;simp only at ho2 ⊢;obtain⟨a2,c2,rfl,_,_⟩:=id ho2.at)
  go_ret2
  exact⟨rfl,hb1'.trans (hb2.mono hb1'.size)⟩
 ·have e:oP s t=(0,false):=by unfold oP;rw[if_neg h6]
  rw[e];have hD:=λ(w1:World)=>(Aw (w:=w1) (show decide (s.size+t.size<=60000)=false by simpa using h6) (by omega) (by omega)).1;clear e h6;go_enter Tryz.func31,Tryz.ntmps31;go_wp2_with (go_at_call 69;refine(hD _).mono ?_;rintro r w1⟨rfl,hb1⟩;obtain⟨c0,c1,cf,hz1,hb1'⟩:=DJ (hb1.mono (by simp)))
  go_ret2
  exact⟨rfl,hb1'⟩
theorem aci (s t:ByteArray) (w:World) (hs:s.size<=1048576) (hs2:t.size<=1048576) :
  Calls Tryz.prog 32 #[.agg #[.string s,.string t]] w (OQ (oP s t) w):=by
 by_cases h6:s.size+t.size<=60000
 ·have hrc:=λ(w1:World)=>Jy s w1 (by omega);have e:oP s t=((aT s).2.1,true):=by unfold oP;rw[if_pos h6]
  rw[e];obtain⟨R,hR⟩:∃R,aT s=R:=⟨_,rfl⟩
  rw[hR]at hrc ⊢;obtain⟨L,n,k⟩:=R;have hD:=λ(w1:World)=>(Aw (w:=w1) (show decide (s.size+t.size<=60000)=true by simpa using h6) (by omega) (by omega)).2;have HC:=Lib.hid hrc;have hfd:∀(v:Value) (w1:World),(Instr.field 114 (.agg #[v,.int .i64 (n:Int),.int .i64 (k:Int)]) 1).run Tryz.prog w1=.ok (.int .i64 (n:Int)) w1:=λ_ _=>by kernel_rfl
  clear hR e hrc h6;go_enter Tryz.func32,Tryz.ntmps32;go_wp2_with (go_at_call 70;refine(hD _).mono ?_;rintro r w1⟨rfl,hb1⟩;obtain⟨c0,c1,cf,hz1,hb1'⟩:=DJ (hb1.mono (by simp)))
  go_wp2_with (go_at_call 66;refine(HC.out _).mono ?_;rintro e w2⟨v2,rfl,ho2,hb2⟩;simp only at ho2 ⊢;obtain⟨a2,c2,rfl,_,_⟩:=id ho2.at)
  go_ret2
  exact⟨rfl,hb1'.trans (hb2.mono hb1'.size)⟩
 ·have e:oP s t=(0,false):=by unfold oP;rw[if_neg h6]
  rw[e];have hD:=λ(w1:World)=>(Aw (w:=w1) (show decide (s.size+t.size<=60000)=false by simpa using h6) (by omega) (by omega)).2;clear e h6;go_enter Tryz.func32,Tryz.ntmps32;go_wp2_with (go_at_call 70;refine(hD _).mono ?_;rintro r w1⟨rfl,hb1⟩;obtain⟨c0,c1,cf,hz1,hb1'⟩:=DJ (hb1.mono (by simp)))
  go_ret2
  exact⟨rfl,hb1'⟩
def xw (s t:ByteArray):ByteArray×List Df×Bool:=if s.size+t.size<=60000 then((s++t).extract 0 (aT (s++t)).2.2,(aT (s++t)).1,true)else(⟨#[]⟩,[],false)
def V7 (R:ByteArray×List Df×Bool) (w:World) (e:Ending) (w':World):Prop :=
 ∃v',e=.returned (.tuple #[.agg #[.string R.1,.string ⟨#[]⟩],v',.bool R.2.2])/\cu w' w.heap.size v' R.2.1/\Below w.heap.size w w'
theorem OT {w W:World} {a b c d:Value} {t u:TypeId} (hB:Below (w.heap.size+1+1) ((w.alloc (.cells #[a,b] t)).alloc (.cells #[c,d] u)) W) :
  (W.cell? ⟨w.heap.size,0,none⟩=some a/\W.cell? ⟨w.heap.size,1,none⟩=some b/\∀j,W.frozen? ⟨w.heap.size,j,none⟩=false)/\(W.cell? ⟨w.heap.size+1,0,none⟩=some c/\W.cell? ⟨w.heap.size+1,1,none⟩=some d/\∀j,W.frozen? ⟨w.heap.size+1,j,none⟩=false) /\
   w.heap.size<W.heap.size/\w.heap.size+1<W.heap.size/\Below w.heap.size w W:=by
 have hz:=hB.size;simp only[World.size_alloc]at hz;refine⟨⟨?_,?_,λj=>?_⟩,⟨?_,?_,λj=>?_⟩,by omega,by omega,((aj _ _).alloc (by simp) _).trans (hB.mono (by omega))⟩
 ·rw[hB.cell (p:=⟨w.heap.size,0,none⟩) (by simp;omega)];go_simp
 ·rw[hB.cell (p:=⟨w.heap.size,1,none⟩) (by simp;omega)];go_simp
 ·rw[hB.frozen (p:=⟨w.heap.size,j,none⟩) (by simp;omega)];go_simp
 ·rw[hB.cell (p:=⟨w.heap.size+1,0,none⟩) (by simp)];go_simp
 ·rw[hB.cell (p:=⟨w.heap.size+1,1,none⟩) (by simp)];go_simp
 ·rw[hB.frozen (p:=⟨w.heap.size+1,j,none⟩) (by simp)];go_simp
theorem V8 (s t:ByteArray) (w:World) (ht:dF w) (hp:iM w) (hs:s.size<=1048576) (hs2:t.size<=1048576) :
  Calls Tryz.prog 34 #[.agg #[.string s,.string t]] w (V7 (xw s t) w):=by
 by_cases h6:s.size+t.size<=60000
 ·have hz:=bsize s t;have hrc:=λ(w1:World) (h1:dF w1) (h2:iM w1)=>FN (s++t) w1 h1 h2 (by omega);have e:xw s t=((s++t).extract 0 (aT (s++t)).2.2,(aT (s++t)).1,true):=by unfold xw;rw[if_pos h6]
  have hk:=(qQ (s++t)).2.2;rw[e];obtain⟨R,hR⟩:∃R,aT (s++t)=R:=⟨_,rfl⟩
  rw[hR]at hrc hk ⊢;obtain⟨L,n,k⟩:=R;simp only at hk ⊢;have hD:=λ(w1:World)=>(Aw (w:=w1) (show decide (s.size+t.size<=60000)=true by simpa using h6) (by omega) (by omega)).1;have HC:=Lib.hid hrc;have hlim:¬9223372036854775807<s.size+t.size:=by omega
  have hk1:(k:Int)<=(s.size:Int)+(t.size:Int):=by omega
  clear hR e hrc h6;go_enter Tryz.func34,Tryz.ntmps34;go_wp2_with fail
  refine(hD _).mono ?_;rintro r w1⟨rfl,hb1⟩;obtain⟨⟨c0,c1,cf⟩,⟨d0,d1,df⟩,hz1,hz2,hb1'⟩:=OT (hb1.mono (by simp));go_wp2_with fail
  refine(HC.out _ (ht.keep hb1') (hp.keep hb1')).mono ?_;rintro e w2⟨v2,rfl,ho2,hb2⟩;simp only at ho2 ⊢;obtain⟨a2,c2,rfl,_,_⟩:=id ho2.at
  have hB2:=hb1'.trans (hb2.mono hb1'.size);have hz3:=hb2.size;have D0:=ak hb2 d0;have D1:=ak hb2 d1;have DF:=λj=>(hb2.frozen (p:=⟨w.heap.size+1,j,none⟩) hz2).trans (df j);have iY:w.heap.size+1<w2.heap.size:=by omega
  have HZ:=Lib.hid hz2;obtain⟨be,hbe⟩:∃be,be=w.heap.size+1:=⟨_,rfl⟩
  rw[<-hbe]at D0 D1 DF iY HZ ⊢;have yY:=Lib.hid hbe;clear c0 c1 cf d0 d1 df hbe hz2 hz3;go_wp2_with fail
  go_region
  go_wp2;refine bodyPost_ret (v:=.tuple #[.agg #[.string ((s++t).extract 0 k),.string ⟨#[]⟩],.slice a2 L.length c2,.bool true]) (by simp[results,Tryz.results34,go_sem,D0,D1,DF,iY]) rfl ?_;refine⟨_,rfl,?_,?_⟩
  ·exact(((jQ (jQ ho2 HZ.out) HZ.out).keep (aj _ _)).keep (Below.refl _ _).drew).mono hb1'.size
  ·have hlow:w.heap.size<=be:=by have:=yY.out;omega
   exact(((hB2.setCell hlow _).setCell hlow _).alloc (by simpa using hB2.size) _).drew
 ·have e:xw s t=(⟨#[]⟩,[],false):=by unfold xw;rw[if_neg h6]
  rw[e];have hD:=λ(w1:World)=>(Aw (w:=w1) (show decide (s.size+t.size<=60000)=false by simpa using h6) (by omega) (by omega)).1;clear e h6;go_enter Tryz.func34,Tryz.ntmps34;go_wp2_with fail
  refine(hD _).mono ?_;rintro r w1⟨rfl,hb1⟩;obtain⟨⟨c0,c1,cf⟩,⟨d0,d1,df⟩,hz1,hz2,hb1'⟩:=OT (hb1.mono (by simp));go_wp2;refine bodyPost_ret (v:=.tuple #[.agg #[.string ⟨#[]⟩,.string ⟨#[]⟩],.slice none 0 0,.bool false]) (by simp[results,Tryz.results34,go_sem,d0,d1,df,hz2]) rfl ?_;refine⟨_,rfl,IU _ _,?_⟩;exact(hb1'.setCell (by simp) _).setCell (by simp) _
def pX (s t:ByteArray) (e:En):Option ByteArray :=
 if s.size+t.size<=60000 then
  (if(aT (s++t)).2.2=(s++t).size/\(aT (s++t)).2.1<60 then
   (match kD (aT (s++t)).1 e with
    | none=>none
    | some x=>if s.size+(t++x).size<=60000 then some (t++x)else none)
   else none)
 else none
def OU (s:ByteArray) (o:Option ByteArray) (w:World) (r:Ending) (w':World):Prop :=
 r=.returned (.tuple #[.agg #[.string (if o.isSome then s else⟨#[]⟩),.string (o.getD ⟨#[]⟩)],.bool o.isSome])/\Below w.heap.size w w'
structure DK (w:World) (s t:ByteArray) (e:En) (ve:Value) (be:Nat) (W:World):Prop where
 d0:W.cell? ⟨w.heap.size,0,none⟩=some (.string s)
 d1:W.cell? ⟨w.heap.size,1,none⟩=some (.string t)
 e0:W.cell? ⟨be,0,none⟩=some (.int .i64 e.kind)
 e1:W.cell? ⟨be,1,none⟩=some (.string e.name)
 e2:W.cell? ⟨be,2,none⟩=some (.string e.to)
 e3:W.cell? ⟨be,3,none⟩=some ve
 lo:w.heap.size<be
 bel:Below w.heap.size w W
theorem DK.keep {w:World} {s t:ByteArray} {e:En} {ve:Value} {be:Nat} {W W':World} (h:DK w s t e ve be W) (hb:Below W.heap.size W W'):DK w s t e ve be W' :=
 ⟨ak hb h.d0,ak hb h.d1,ak hb h.e0,ak hb h.e1,ak hb h.e2,ak hb h.e3,h.lo,h.bel.trans (hb.mono h.bel.size)⟩
theorem DK.zs {w:World} {s t:ByteArray} {e:En} {ve:Value} {be:Nat} {W:World} (h:DK w s t e ve be W):w.heap.size<W.heap.size/\be<W.heap.size/\¬w.heap.size=be/\¬be=w.heap.size:=by
 have:=cell_lt h.e0;have:=h.lo;omega
structure Az (w:World) (s t:ByteArray) (e:En) (ve:Value) (be br:Nat) (W:World):Prop where
 d:DK w s t e ve be W
 r0:W.cell? ⟨br,0,none⟩=some (.string ⟨#[]⟩)
 r1:W.cell? ⟨br,1,none⟩=some (.string ⟨#[]⟩)
 rf:∀j,W.frozen? ⟨br,j,none⟩=false
 lr:be<br
theorem Az.keep {w:World} {s t:ByteArray} {e:En} {ve:Value} {be br:Nat} {W W':World} (h:Az w s t e ve be br W) (hb:Below W.heap.size W W'):Az w s t e ve be br W' :=
 ⟨h.d.keep hb,ak hb h.r0,ak hb h.r1,λj=>(hb.frozen (p:=⟨br,j,none⟩) (cell_lt h.r0)).trans (h.rf j),h.lr⟩
theorem Az.zs {w:World} {s t:ByteArray} {e:En} {ve:Value} {be br:Nat} {W:World} (h:Az w s t e ve be br W):br<W.heap.size/\¬w.heap.size=br/\¬be=br/\¬br=w.heap.size/\¬br=be:=by
 have:=cell_lt h.r0;have:=h.d.lo;have:=h.lr;omega
theorem V9 {w W:World} {s t:ByteArray} {e:En} {ve:Value} (hb:Below (w.heap.size+1+1+1) (((w.alloc (.cells #[.string s,.string t] 54)).alloc (.cells #[.int .i64 e.kind,.string e.name,.string e.to,ve] 45)).alloc (.cells #[.string ⟨#[]⟩,.string ⟨#[]⟩] 54)) W):Az w s t e ve (w.heap.size+1) (w.heap.size+1+1) W:=by
 have h:Az w s t e ve (w.heap.size+1) (w.heap.size+1+1) (((w.alloc (.cells #[.string s,.string t] 54)).alloc (.cells #[.int .i64 e.kind,.string e.name,.string e.to,ve] 45)).alloc (.cells #[.string ⟨#[]⟩,.string ⟨#[]⟩] 54)):=by
  refine⟨⟨?_,?_,?_,?_,?_,?_,by omega,((aj _ _).alloc (by simp) _).alloc (by simp;omega) _⟩,?_,?_,λj=>?_,by omega⟩<;>go_simp
 exact h.keep (hb.mono (by simp))
theorem V_ {L:List Df} {e:En} {x:ByteArray} (he:dW e) (h:kD L e=some x):x.size<=4194320:=by
 cases ha:aJ L e with
 | none=>rw[kD,Ap ha]at h;cases h
 | some R =>
  rw[kD,vN ha]at h
  obtain rfl:=Option.some.inj h
  have h1:=FP he ha
  have h2:=OV (aH e)
  omega
theorem acj (s t:ByteArray) (ve:Value) (e:En) (w:World) (ht:dF w) (hp:iM w) (hs:s.size<=1048576) (hs2:t.size<=1048576) (xB:aZ w ve e.body) (hee:dW e) :
  Calls Tryz.prog 29 #[.agg #[.string s,.string t],.agg #[.int .i64 e.kind,.string e.name,.string e.to,ve]] w (OU s (pX s t e) w):=by
 obtain⟨ab,cb,rfl⟩:=xB.slice;have hz:=bsize s t;have hgd:=(qQ (s++t)).1;have hkz:=(qQ (s++t)).2.2;have hwr:pX s t e=pX s t e:=rfl;conv at hwr=>rhs;unfold pX
 have hrc:=λ(h:s.size+t.size<=60000) (w1:World) (h1:dF w1) (h2:iM w1)=>FN (s++t) w1 h1 h2 (by omega);obtain⟨R,hR⟩:∃R,aT (s++t)=R:=⟨_,rfl⟩
 rw[hR]at hrc hgd hkz hwr;obtain⟨L,n,k⟩:=R;simp only at hrc hgd hkz hwr;obtain⟨o,ho⟩:∃o,pX s t e=o:=⟨_,rfl⟩
 rw[ho]at hwr ⊢;obtain⟨hLo,hLn⟩:=mJ hgd;have HW:=Lib.hid hwr;have HC:=Lib.hid hrc;have hlim:¬9223372036854775807<s.size+t.size:=by omega
 clear hR hrc hwr ho hgd;go_enter Tryz.func29,Tryz.ntmps29;go_wp2_with fail
 refine(OM s t _ (by omega) (by omega)).mono ?_;rintro r w1⟨rfl,hb1⟩;have hx:=V9 (hb1.mono (by simp));obtain⟨be,hbe⟩:∃be,be=w.heap.size+1:=⟨_,rfl⟩
 obtain⟨br,hbr⟩:∃br,br=w.heap.size+1+1:=⟨_,rfl⟩
 rw[<-hbr,<-hbe]at hx ⊢;clear hbe hbr;by_cases h6:s.size+t.size<=60000
 ·rw[show decide (s.size+t.size<=60000)=true by simpa using h6];obtain⟨⟨d0,d1,e0,e1,e2,e3,lo,bel⟩,r0,r1,rf,lr⟩:=id hx;obtain⟨z0,z1,z3,z6⟩:=hx.d.zs;obtain⟨z2,z4,z5,z7,z8⟩:=hx.zs;go_wp2_with fail
  refine(HC.out h6 _ (ht.keep bel) (hp.keep bel)).mono ?_;rintro r w2⟨v2,rfl,ho2,hb2⟩;simp only at ho2 ⊢;obtain⟨a2,c2,rfl,_,_⟩:=id ho2.at
  have hx2:=hx.keep hb2;have OW:=ho2.at
  clear d0 d1 e0 e1 e2 e3 lo lr r0 r1 rf bel z0 z1 z2 z3 z4 z5 z6 z7 z8 ho2 hb2 hb1 hx;obtain⟨⟨d0,d1,e0,e1,e2,e3,lo,bel⟩,r0,r1,rf,lr⟩:=id hx2;obtain⟨z0,z1,z3,z6⟩:=hx2.d.zs;obtain⟨z2,z4,z5,z7,z8⟩:=hx2.zs;by_cases hk:k=(s++t).size
  ·by_cases hn:n<60
   ·have hkn:((k:Int) !=(s.size:Int)+(t.size:Int))=false:=by simp;omega
    have hn1:(n:Int)<60:=by omega
    have hn2:¬(60:Int)<=n:=by omega
    have HR:=Lib.hid (And.intro hk hn);clear hk hn;go_wp2_with fail
    refine(Jz _ _ L e _ (hp.keep (bel.alloc bel.size _)) (OW.keep (aj _ _)) hLn hLo (xB.keep (bel.alloc bel.size _)) hee).mono ?_;rintro r w4⟨rfl,hb4⟩;have hx4:=(hx2.keep (aj _ _)).keep hb4;clear d0 d1 e0 e1 e2 e3 lo lr r0 r1 rf bel z0 z1 z2 z3 z4 z5 z6 z7 z8 hx2;obtain⟨⟨d0,d1,e0,e1,e2,e3,lo,bel⟩,r0,r1,rf,lr⟩:=id hx4;obtain⟨z0,z1,z3,z6⟩:=hx4.d.zs;obtain⟨z2,z4,z5,z7,z8⟩:=hx4.zs;cases hrec:kD L e with
    | none =>
     have hO:o=none:=by rw[HW.out,if_pos h6,if_pos HR.out,hrec]
     subst hO
     simp only[Option.isSome_none,Option.getD_none]
     clear hrec
     go_wp2
     refine bodyPost_ret (v:=.tuple #[.agg #[.string ⟨#[]⟩,.string ⟨#[]⟩],.bool false]) (by simp[results,Tryz.results29,go_sem,r0,r1,rf,z2]) rfl ⟨rfl,?_⟩
     (repeat(first|(with_reducible refine Below.alloc ?_ ?_ _;rotate_left;(first|omega|(simp;done)|(simp;omega)))|(with_reducible refine Below.setCell ?_ ?_ _;rotate_left;(first|exact Nat.le_refl _|(simp;done)|(simp;omega)))|(with_reducible refine Below.drew ?_)));exact bel
    | some x =>
     have hxz:=V_ hee hrec
     have hz2:=bsize t x
     have acn:¬9223372036854775807<t.size+x.size:=by omega
     have mY:o=if s.size+(t++x).size<=60000 then some (t++x)else none:=by rw[HW.out,if_pos h6,if_pos HR.out,hrec]
     have FQ:=Lib.hid mY
     clear mY
     simp only[Option.isSome_some,Option.getD_some]
     clear hrec
     go_wp2_with fail
     refine(OM s (t++x) _ (by omega) (by omega)).mono ?_
     rintro r w5⟨rfl,hb5⟩
     obtain⟨q0,q1,qf,qz,hq⟩:=DJ (w:=w4) (hb5.mono (by simp))
     have hx5:=hx4.keep hq
     obtain⟨bo,aI⟩:∃bo,bo=w4.heap.size:=⟨_,rfl⟩
     rw[<-aI]at q0 q1 qz ⊢
     have hro:¬br=bo:=by omega
     clear d0 d1 e0 e1 e2 e3 lo lr r0 r1 rf bel z0 z1 z2 z3 z4 z5 z6 z7 z8 hx4 aI qf
     obtain⟨⟨d0,d1,e0,e1,e2,e3,lo,bel⟩,r0,r1,rf,lr⟩:=id hx5
     obtain⟨z0,z1,z3,z6⟩:=hx5.d.zs
     obtain⟨z2,z4,z5,z7,z8⟩:=hx5.zs
     by_cases h7:s.size+(t++x).size<=60000
     ·rw[show decide (s.size+(t++x).size<=60000)=true by simpa using h7]
      have mY:=FQ.out
      rw[if_pos h7]at mY
      subst mY
      go_wp2
      refine bodyPost_ret (v:=.tuple #[.agg #[.string s,.string (t++x)],.bool true]) (by simp[results,Tryz.results29,go_sem,r0,r1,rf,z2]) rfl ⟨rfl,?_⟩
      (repeat(first|(with_reducible refine Below.alloc ?_ ?_ _;rotate_left;(first|omega|(simp;done)|(simp;omega)))|(with_reducible refine Below.setCell ?_ ?_ _;rotate_left;(first|exact Nat.le_refl _|(simp;done)|(simp;omega)))|(with_reducible refine Below.drew ?_)));exact bel
     ·rw[show decide (s.size+(t++x).size<=60000)=false by simpa using h7]
      have mY:=FQ.out
      rw[if_neg h7]at mY
      subst mY
      go_wp2
      refine bodyPost_ret (v:=.tuple #[.agg #[.string ⟨#[]⟩,.string ⟨#[]⟩],.bool false]) (by simp[results,Tryz.results29,go_sem,r0,r1,rf,z2]) rfl ⟨rfl,?_⟩
      (repeat(first|(with_reducible refine Below.alloc ?_ ?_ _;rotate_left;(first|omega|(simp;done)|(simp;omega)))|(with_reducible refine Below.setCell ?_ ?_ _;rotate_left;(first|exact Nat.le_refl _|(simp;done)|(simp;omega)))|(with_reducible refine Below.drew ?_)));exact bel
   ·have hkn:((k:Int) !=(s.size:Int)+(t.size:Int))=false:=by simp;omega
    have hn1:¬(n:Int)<60:=by omega
    have hn2:(60:Int)<=n:=by omega
    have hO:o=none:=by rw[HW.out,if_pos h6,if_neg (λh=>hn h.2)]
    subst hO;clear hk hn;go_wp2;refine bodyPost_ret (v:=.tuple #[.agg #[.string ⟨#[]⟩,.string ⟨#[]⟩],.bool false]) (by simp[results,Tryz.results29,go_sem,r0,r1,rf,z2]) rfl ⟨rfl,?_⟩;(repeat(first|(with_reducible refine Below.alloc ?_ ?_ _;rotate_left;(first|omega|(simp;done)|(simp;omega)))|(with_reducible refine Below.setCell ?_ ?_ _;rotate_left;(first|exact Nat.le_refl _|(simp;done)|(simp;omega)))|(with_reducible refine Below.drew ?_)));exact bel
  ·have hkn:((k:Int) !=(s.size:Int)+(t.size:Int))=true:=by simp;omega
   have hO:o=none:=by rw[HW.out,if_pos h6,if_neg (λh=>hk h.1)]
   subst hO;clear hk;go_wp2;refine bodyPost_ret (v:=.tuple #[.agg #[.string ⟨#[]⟩,.string ⟨#[]⟩],.bool false]) (by simp[results,Tryz.results29,go_sem,r0,r1,rf,z2]) rfl ⟨rfl,?_⟩;(repeat(first|(with_reducible refine Below.alloc ?_ ?_ _;rotate_left;(first|omega|(simp;done)|(simp;omega)))|(with_reducible refine Below.setCell ?_ ?_ _;rotate_left;(first|exact Nat.le_refl _|(simp;done)|(simp;omega)))|(with_reducible refine Below.drew ?_)));exact bel
 ·rw[show decide (s.size+t.size<=60000)=false by simpa using h6];have hO:o=none:=by rw[HW.out,if_neg h6]
  subst hO;obtain⟨⟨d0,d1,e0,e1,e2,e3,lo,bel⟩,r0,r1,rf,lr⟩:=id hx;obtain⟨z0,z1,z3,z6⟩:=hx.d.zs;obtain⟨z2,z4,z5,z7,z8⟩:=hx.zs;go_wp2;refine bodyPost_ret (v:=.tuple #[.agg #[.string ⟨#[]⟩,.string ⟨#[]⟩],.bool false]) (by simp[results,Tryz.results29,go_sem,r0,r1,rf,z2]) rfl ⟨rfl,?_⟩;(repeat(first|(with_reducible refine Below.alloc ?_ ?_ _;rotate_left;(first|omega|(simp;done)|(simp;omega)))|(with_reducible refine Below.setCell ?_ ?_ _;rotate_left;(first|exact Nat.le_refl _|(simp;done)|(simp;omega)))|(with_reducible refine Below.drew ?_)));exact bel
theorem aco (s t:ByteArray) (ve:Value) (e:En) (w:World) (hs:s.size<=1048576) (hs2:t.size<=1048576) (xB:aZ w ve e.body) (hee:dW e) :
  Calls Tryz.prog 30 #[.agg #[.string s,.string t],.agg #[.int .i64 e.kind,.string e.name,.string e.to,ve]] w (OU s (pX s t e) w):=by
 obtain⟨ab,cb,rfl⟩:=xB.slice;have hz:=bsize s t;have hgd:=(qQ (s++t)).1;have hkz:=(qQ (s++t)).2.2;have hwr:pX s t e=pX s t e:=rfl;conv at hwr=>rhs;unfold pX
 have hrc:=λ(h:s.size+t.size<=60000) (w1:World)=>Jy (s++t) w1 (by omega);obtain⟨R,hR⟩:∃R,aT (s++t)=R:=⟨_,rfl⟩
 rw[hR]at hrc hgd hkz hwr;obtain⟨L,n,k⟩:=R;simp only at hrc hgd hkz hwr;obtain⟨o,ho⟩:∃o,pX s t e=o:=⟨_,rfl⟩
 rw[ho]at hwr ⊢;obtain⟨hLo,hLn⟩:=mJ hgd;have HW:=Lib.hid hwr;have HC:=Lib.hid hrc;have hlim:¬9223372036854775807<s.size+t.size:=by omega
 clear hR hrc hwr ho hgd;go_enter Tryz.func30,Tryz.ntmps30;go_wp2_with fail
 refine(OO s t _ (by omega) (by omega)).mono ?_;rintro r w1⟨rfl,hb1⟩;have hx:=V9 (hb1.mono (by simp));obtain⟨be,hbe⟩:∃be,be=w.heap.size+1:=⟨_,rfl⟩
 obtain⟨br,hbr⟩:∃br,br=w.heap.size+1+1:=⟨_,rfl⟩
 rw[<-hbr,<-hbe]at hx ⊢;clear hbe hbr;by_cases h6:s.size+t.size<=60000
 ·rw[show decide (s.size+t.size<=60000)=true by simpa using h6];obtain⟨⟨d0,d1,e0,e1,e2,e3,lo,bel⟩,r0,r1,rf,lr⟩:=id hx;obtain⟨z0,z1,z3,z6⟩:=hx.d.zs;obtain⟨z2,z4,z5,z7,z8⟩:=hx.zs;go_wp2_with fail
  refine(HC.out h6 _).mono ?_;rintro r w2⟨v2,rfl,ho2,hb2⟩;simp only at ho2 ⊢;obtain⟨a2,c2,rfl,_,_⟩:=id ho2.at
  have hx2:=hx.keep hb2;have OW:=ho2.at
  clear d0 d1 e0 e1 e2 e3 lo lr r0 r1 rf bel z0 z1 z2 z3 z4 z5 z6 z7 z8 ho2 hb2 hb1 hx;obtain⟨⟨d0,d1,e0,e1,e2,e3,lo,bel⟩,r0,r1,rf,lr⟩:=id hx2;obtain⟨z0,z1,z3,z6⟩:=hx2.d.zs;obtain⟨z2,z4,z5,z7,z8⟩:=hx2.zs;by_cases hk:k=(s++t).size
  ·by_cases hn:n<60
   ·have hkn:¬(k:Int)<(s.size:Int)+(t.size:Int):=by omega
    have e1:IntKind.i64.wrap ((s.size:Int)+(t.size:Int))=(s.size:Int)+(t.size:Int):=IntWalk.i64_in _ (by omega);have hn1:(n:Int)<60:=by omega
    have hn2:¬(60:Int)<=n:=by omega
    have HR:=Lib.hid (And.intro hk hn);clear hk hn;go_wp2_with fail
    refine(oQ _ _ L e _ (OW.keep (aj _ _)) hLn hLo (xB.keep (bel.alloc bel.size _)) hee).mono ?_;rintro r w4⟨v4,rfl,bF,hb4⟩;obtain⟨a4,c4,rfl⟩:∃a c,v4=.slice a ((aJ L e).getD []).length c:=by obtain⟨a,c,q,_⟩:=bF.at;exact⟨a,c,q⟩
    have hx4:=(hx2.keep (aj _ _)).keep hb4;clear d0 d1 e0 e1 e2 e3 lo lr r0 r1 rf bel z0 z1 z2 z3 z4 z5 z6 z7 z8 hx2;obtain⟨⟨d0,d1,e0,e1,e2,e3,lo,bel⟩,r0,r1,rf,lr⟩:=id hx4;obtain⟨z0,z1,z3,z6⟩:=hx4.d.zs;obtain⟨z2,z4,z5,z7,z8⟩:=hx4.zs;clear bF;have hy4:=xB.keep bel;cases hap:aJ L e with
    | none =>
     have hO:o=none:=by rw[HW.out,if_pos h6,if_pos HR.out,kD,Ap hap];rfl
     subst hO
     simp only[Option.isSome_none]
     clear hap
     go_wp2
     refine bodyPost_ret (v:=.tuple #[.agg #[.string ⟨#[]⟩,.string ⟨#[]⟩],.bool false]) (by simp[results,Tryz.results30,go_sem,r0,r1,rf,z2]) rfl ⟨rfl,?_⟩
     (repeat(first|(with_reducible refine Below.alloc ?_ ?_ _;rotate_left;(first|omega|(simp;done)|(simp;omega)))|(with_reducible refine Below.setCell ?_ ?_ _;rotate_left;(first|exact Nat.le_refl _|(simp;done)|(simp;omega)))|(with_reducible refine Below.drew ?_)));exact bel
    | some R =>
     have hrec:kD L e=some (dV (aH e)):=by rw[kD,vN hap];rfl
     have htz:=FP hee hap
     have hxz:=V_ hee hrec
     obtain⟨x,hxx⟩:∃x,dV (aH e)=x:=⟨_,rfl⟩
     rw[hxx]at hrec hxz
     have hz2:=bsize t x
     have acn:¬9223372036854775807<t.size+x.size:=by omega
     have mY:o=if s.size+(t++x).size<=60000 then some (t++x)else none:=by rw[HW.out,if_pos h6,if_pos HR.out,hrec]
     have FQ:=Lib.hid mY
     clear mY
     have OX:=Lib.hid hap
     simp only[Option.isSome_some]
     clear hrec hap
     go_wp2_with fail
     have Wh:∀{w':World},ah aQ w4.drew w'->Below w4.heap.size w4 w':=λh=>(Below.refl w4.heap.size w4).drew.trans (h.toBelow.mono (by simp))
     refine bC (C:=ah (aQ) _) 4 [0,1,2,3,4,5,6,7,8,9,10] (by kernel_rfl) (by kernel_rfl) (ah.grows _ _) (ah.refl _ _) ?_
     iterate 5 (apply ay rfl rfl rfl;(focus intro u hc' hf';go_simp<;>rfl);intro K hK;go_simp;apply hK;clear hK K)
     refine aX rfl rfl rfl (ah.grows _ _) (ah.refl _ _) 58 (λK hK=>?_);apply Exists.intro;refine⟨λw' hw'=>?_,λwa dU dS=>?_⟩;(focus go_simp;rfl);refine(DL DN _ L R e _ (hy4.keep (Wh dU)) hee OX.out).mono ?_;rintro e w5⟨rfl,hb5⟩;refine⟨_,rfl,hb5,λhx=>?_⟩;go_simp;apply hK;clear hK K
     refine aX rfl rfl rfl (ah.grows _ _) (hx) 57 (λK hK=>?_);apply Exists.intro;refine⟨λw' hw'=>?_,λwb hwb fB=>?_⟩;(focus go_simp;rfl);refine(FT (aH e) _ htz).mono ?_;rintro e w6⟨rfl,hb6⟩;refine⟨_,rfl,hb6,λhx=>?_⟩;go_simp;apply hK;clear hK K
     try rw[hxx]
     iterate 2 (apply ay rfl rfl rfl;(focus intro u hc' hf';go_simp<;>rfl);intro K hK;go_simp;apply hK;clear hK K)
     refine fG rfl rfl rfl (ah.grows _ _) hx (λb=>.pointer (some ⟨b,0,none⟩)) (λK hK=>?_)
     apply Exists.intro
     refine⟨λw' hw'=>?_,λbo w7 hw7 hb7 aI hNb hnb=>?_⟩
     ·go_simp
      rfl
     go_simp
     refine hK _ _ _ ?_
     clear hK K
     refine eH rfl rfl rfl (ah.grows _ _) hw7 (λK hK=>?_)
     intro w8 hw8 hb8
     obtain⟨m0,m1,m2⟩:=made_cell ((hb8.block bo (made_cell aI).2.2).trans aI)
     refine⟨(w8.setCell ⟨bo,0,none⟩ (.string s)).setCell ⟨bo,1,none⟩ (.string (t++x)),?_,⟨aB (aB hw8 (.inl hNb) _) (.inl hNb) _,by simp,λj _ hj _=>by rw[Below.heap_setCell _ _ _ _ (λh=>hj (by simp[h])),Below.heap_setCell _ _ _ _ (λh=>hj (by simp[h]))]⟩,?_⟩
     ·go_simp
     go_simp
     refine hK _ _ _ ?_
     clear hK K
     refine aK ?_
     have hbb:w4.heap.size<=bo:=by simpa using hNb
     generalize hW:(w8.setCell ⟨bo,0,none⟩ (.string s)).setCell ⟨bo,1,none⟩ (.string (t++x))=W
     have q0:W.cell? ⟨bo,0,none⟩=some (.string s):=by rw[<-hW];clear hW;go_simp
     have q1:W.cell? ⟨bo,1,none⟩=some (.string (t++x)):=by rw[<-hW];clear hW;go_simp
     have hx5:=hx4.keep (W':=W) (by rw[<-hW];exact(((Wh hw8).setCell (by simpa using hbb) _).setCell (by simpa using hbb) _))
     have hro:¬br=bo:=by omega
     clear d0 d1 e0 e1 e2 e3 lo lr r0 r1 rf bel z0 z1 z2 z3 z4 z5 z6 z7 z8 hx4 hW m0 m1 m2 hw8 hb8 hw7 hb7 aI hNb hnb hx hb5 hb6 dU hwb dS fB
     have qz:=cell_lt q0
     go_wp2_with fail
     refine(OO s (t++x) _ (by omega) (by omega)).mono ?_
     rintro r w9⟨rfl,bG⟩
     have p0:=ak bG q0
     have p1:=ak bG q1
     have pz:=cell_lt p0
     have FU:=hx5.keep bG
     clear q0 q1 qz
     obtain⟨⟨d0,d1,e0,e1,e2,e3,lo,bel⟩,r0,r1,rf,lr⟩:=id FU
     obtain⟨z0,z1,z3,z6⟩:=FU.d.zs
     obtain⟨z2,z4,z5,z7,z8⟩:=FU.zs
     by_cases h7:s.size+(t++x).size<=60000
     ·rw[show decide (s.size+(t++x).size<=60000)=true by simpa using h7]
      have mY:=FQ.out
      rw[if_pos h7]at mY
      subst mY
      go_wp2
      refine bodyPost_ret (v:=.tuple #[.agg #[.string s,.string (t++x)],.bool true]) (by simp[results,Tryz.results30,go_sem,r0,r1,rf,z2]) rfl ⟨rfl,?_⟩
      (repeat(first|(with_reducible refine Below.alloc ?_ ?_ _;rotate_left;(first|omega|(simp;done)|(simp;omega)))|(with_reducible refine Below.setCell ?_ ?_ _;rotate_left;(first|exact Nat.le_refl _|(simp;done)|(simp;omega)))|(with_reducible refine Below.drew ?_)));exact bel
     ·rw[show decide (s.size+(t++x).size<=60000)=false by simpa using h7]
      have mY:=FQ.out
      rw[if_neg h7]at mY
      subst mY
      go_wp2
      refine bodyPost_ret (v:=.tuple #[.agg #[.string ⟨#[]⟩,.string ⟨#[]⟩],.bool false]) (by simp[results,Tryz.results30,go_sem,r0,r1,rf,z2]) rfl ⟨rfl,?_⟩
      (repeat(first|(with_reducible refine Below.alloc ?_ ?_ _;rotate_left;(first|omega|(simp;done)|(simp;omega)))|(with_reducible refine Below.setCell ?_ ?_ _;rotate_left;(first|exact Nat.le_refl _|(simp;done)|(simp;omega)))|(with_reducible refine Below.drew ?_)));exact bel
   ·have hkn:¬(k:Int)<(s.size:Int)+(t.size:Int):=by omega
    have e1:IntKind.i64.wrap ((s.size:Int)+(t.size:Int))=(s.size:Int)+(t.size:Int):=IntWalk.i64_in _ (by omega);have hn1:¬(n:Int)<60:=by omega
    have hn2:(60:Int)<=n:=by omega
    have hO:o=none:=by rw[HW.out,if_pos h6,if_neg (λh=>hn h.2)]
    subst hO;clear hk hn;go_wp2;refine bodyPost_ret (v:=.tuple #[.agg #[.string ⟨#[]⟩,.string ⟨#[]⟩],.bool false]) (by simp[results,Tryz.results30,go_sem,r0,r1,rf,z2]) rfl ⟨rfl,?_⟩;(repeat(first|(with_reducible refine Below.alloc ?_ ?_ _;rotate_left;(first|omega|(simp;done)|(simp;omega)))|(with_reducible refine Below.setCell ?_ ?_ _;rotate_left;(first|exact Nat.le_refl _|(simp;done)|(simp;omega)))|(with_reducible refine Below.drew ?_)));exact bel
  ·have hkn:(k:Int)<(s.size:Int)+(t.size:Int):=by omega
   have e1:IntKind.i64.wrap ((s.size:Int)+(t.size:Int))=(s.size:Int)+(t.size:Int):=IntWalk.i64_in _ (by omega);have hO:o=none:=by rw[HW.out,if_pos h6,if_neg (λh=>hk h.1)]
   subst hO;clear hk;go_wp2;refine bodyPost_ret (v:=.tuple #[.agg #[.string ⟨#[]⟩,.string ⟨#[]⟩],.bool false]) (by simp[results,Tryz.results30,go_sem,r0,r1,rf,z2]) rfl ⟨rfl,?_⟩;(repeat(first|(with_reducible refine Below.alloc ?_ ?_ _;rotate_left;(first|omega|(simp;done)|(simp;omega)))|(with_reducible refine Below.setCell ?_ ?_ _;rotate_left;(first|exact Nat.le_refl _|(simp;done)|(simp;omega)))|(with_reducible refine Below.drew ?_)));exact bel
 ·rw[show decide (s.size+t.size<=60000)=false by simpa using h6];have hO:o=none:=by rw[HW.out,if_neg h6]
  subst hO;obtain⟨⟨d0,d1,e0,e1,e2,e3,lo,bel⟩,r0,r1,rf,lr⟩:=id hx;obtain⟨z0,z1,z3,z6⟩:=hx.d.zs;obtain⟨z2,z4,z5,z7,z8⟩:=hx.zs;go_wp2;refine bodyPost_ret (v:=.tuple #[.agg #[.string ⟨#[]⟩,.string ⟨#[]⟩],.bool false]) (by simp[results,Tryz.results30,go_sem,r0,r1,rf,z2]) rfl ⟨rfl,?_⟩;(repeat(first|(with_reducible refine Below.alloc ?_ ?_ _;rotate_left;(first|omega|(simp;done)|(simp;omega)))|(with_reducible refine Below.setCell ?_ ?_ _;rotate_left;(first|exact Nat.le_refl _|(simp;done)|(simp;omega)))|(with_reducible refine Below.drew ?_)));exact bel
def CdP (R:ByteArray) (w:World) (e:Ending) (w':World):Prop:=e=.returned (.tuple #[.agg #[.string R,.string ⟨#[]⟩],.bool true])/\Below w.heap.size w w'
theorem acp (s t:ByteArray) (k:Nat) (w:World) (hk:k<=t.size) (h6:s.size+t.size<=60000) :
  Calls Tryz.prog 33 #[.agg #[.string s,.string t],.int .i64 (k:Int)] w (CdP (s++t.extract 0 k) w):=by
 have hz:=bsize s t;have hD:=λ(w1:World)=>(Aw (w:=w1) (show decide (s.size+t.size<=60000)=true by simpa using h6) (by omega) (by omega)).1;have hk1:(k:Int)<=(t.size:Int):=by omega
 have hze:(t.extract 0 k).size<=k:=by simp[ByteArray.size_extract];omega
 have hlim:¬9223372036854775807<s.size+(t.extract 0 k).size:=by omega
 go_enter Tryz.func33,Tryz.ntmps33;go_wp2_with fail
 refine(hD _).mono ?_;rintro r w1⟨rfl,hb1⟩;obtain⟨⟨c0,c1,cf⟩,⟨d0,d1,df⟩,hz1,hz2,hb1'⟩:=OT (hb1.mono (by simp));go_wp2_with fail
 refine(pV k 0 t.size _).mono ?_;rintro e w2⟨rfl,rfl⟩;rw[show inB (k:Int) 0 (t.size:Int)=true by simp[inB];omega];obtain⟨be,hbe⟩:∃be,be=w.heap.size+1:=⟨_,rfl⟩
 rw[<-hbe]at d0 d1 df hz2 ⊢;have yY:=Lib.hid hbe;clear hbe hb1;go_wp2_with fail
 go_region
 go_wp2;refine bodyPost_ret (v:=.tuple #[.agg #[.string (s++t.extract 0 k),.string ⟨#[]⟩],.bool true]) (by simp[results,Tryz.results33,go_sem,d0,d1,df,hz2]) rfl ⟨rfl,?_⟩;have hlow:w.heap.size<=be:=by have:=yY.out;omega
 exact((hb1'.setCell hlow _).setCell hlow _).drew
end Go.Proofs.YtikgblkfmpecfaaGreatDoor
