/-
  The draws of entries for a journal. Own work.
-/
import Derived.Test.YtikgblkfmpecfaaGreatDoorWNH
import Derived.Test.YtikgblkfmpecfaaGreatDoorWNJ
import Derived.Test.YtikgblkfmpecfaaGreatDoorWX
import Derived.Test.YtikgblkfmpecfaaGreatDoorWY
set_option linter.all false
set_option maxRecDepth 100000
set_option maxHeartbeats 8000000
namespace Go.Proofs.YtikgblkfmpecfaaGreatDoor
open Go.RowKit
theorem Zu:∀(es:List En),(∀e∈es,sF e)->oq es<=3023*es.length
 | [],_=>by simp[oq]
 | e::r,h=>by
  have h1:=Zu r (λx hx=>h x (List.mem_cons_of_mem _ hx));have h2:=(h e (List.mem_cons_self ..)).2.2.2;simp only[oq,List.map_cons,List.sum_cons,List.length_cons,uX]at h1 ⊢;omega
theorem afl (es:List En) (e:En):oq (es++[e])=oq es+uX e:=by simp[oq]
def lenV:Value->Nat
 | .slice _ l _=>l
 | _=>0
def DjP (w:World) (e:Ending) (w':World):Prop:=∃v xs,e=.returned v/\lG w' w.heap.size v xs/\(∀x∈xs,sF x.1)/\xs.length<=61/\oq (xs.map Prod.fst)<=59000/\Below w.heap.size w w'
theorem aex (va:Value) (code:List UInt8) (w:World) (h:BytesAt w va code) (hl:code.length<=1048576) (hlow:∀k,va.ownBlock=some k->k<w.heap.size) :
  Calls Tryz.prog 16 #[va] w (DjP w):=by
 have hc1:=RV h hl hlow;have hb1:=aj w (.cells #[va,.int .i64 0,.int .u64 0] 67);have hbz:=hc1.lt;obtain⟨aa,ac,rfl⟩:=h.shape;go_enter Tryz.func16,Tryz.ntmps16;go_upto_if 10 with(go_at_call 39;refine(one_any w.heap.size _ 16 _ hc1 (by omega) (by omega)).mono ?_;rintro e w2⟨b,rfl,hc2,hx2⟩)
 have hB2:=sK hb1 hx2 (Nat.le_refl _);have hz2:=hc2.lt;clear hc1 hx2 hb1;cases b
 ·go_wp2_with (first
   |(go_at_call 54;refine(Zr w.heap.size _ y 5 _ hc3 (by omega) (by omega) (by omega) (by omega)).mono ?_;rintro e w4⟨v4,xs,rfl,hrow,hsm,hxl,hc4,hx4⟩)
   |(go_at_call 38;refine(pick_any w.heap.size _ 8 _ hc2 (by omega) (by omega)).mono ?_;rintro e w3⟨y,rfl,y0,y1,y2,hc3,hx3⟩;obtain⟨y,rfl⟩:=Int.eq_ofNat_of_zero_le y0))
  go_ret
  have hc:=Zu (xs.map Prod.fst) (λe he=>by obtain⟨x,hx,rfl⟩:=List.mem_map.1 he;exact hsm x hx);rw[List.length_map]at hc;have hB3:=sK hB2 hx3 (Nat.le_refl _);exact⟨_,xs,rfl,⟨yx hB3.size hrow.1,λx hx=>au.mono hB3.size (hrow.2 x hx)⟩,hsm,by omega,by omega,sK hB3 hx4 (Nat.le_refl _)⟩
 ·go_wp2_with (first
   |(go_at_call 38;refine(pick_any w.heap.size _ 3 _ (hc3 _) (by omega) (by omega)).mono ?_;rintro e w4⟨y,rfl,y0,y1,y2,hc4,hx4⟩)
   |(go_at_call 53;refine(Hf 1 _).mono ?_;rintro e w3⟨v3,rfl,ho3,hb3⟩;obtain⟨a3,c3,rfl⟩:=ho3.slice;have hc3:=λo=>(hc2.keep hb3).keep (aj w3 o)))
  have hB3:=hB2.trans (hb3.mono hB2.size);have hz3:=hB3.size;obtain⟨n,hn⟩:∃n:Nat,(n:Int)=59+y:=⟨(59+y).toNat,by omega⟩
  rw[<-hn];have ahZ:n<=61:=by omega
  clear hn;have hrow3:lG (w3.alloc (.cells #[.int .i64 1,.string ⟨#[102]⟩,.string ⟨#[]⟩,.slice a3 1 c3] 45)) (w.heap.size+1) (.slice (some ⟨w3.heap.size,0,none⟩) 1 1) [(⟨1,⟨#[102]⟩,⟨#[]⟩,[⟨1,1,ByteArray.empty⟩]⟩,.slice a3 1 c3)]:=by
   refine⟨World.ownsRow_lit (base:=w.heap.size+1) (size:=4) (e:=45) w3 #[.int .i64 1,.string ⟨#[102]⟩,.string ⟨#[]⟩,.slice a3 1 c3] 1 (by have:=hb3.size;omega) (by unfold maxLen;omega) rfl,λx hx=>?_⟩;simp at hx;subst hx;exact au.mono hz2 (au.keep (aj _ _) ho3)
  have hrow4:=hrow3.cur hx4 (Nat.lt_succ_self _);have hB4:=sK (hB3.alloc hB3.size (.cells #[.int .i64 1,.string ⟨#[102]⟩,.string ⟨#[]⟩,.slice a3 1 c3] 45)) hx4 (Nat.le_refl _);clear hrow3 hx4 hc4 hc3 ho3 hb3 hB3 hB2 hc2;go_loopw [4] (λv wr=>∃xs,lG wr (w.heap.size+1) v xs/\(∀x∈xs,sF x.1)/\1<=xs.length/\xs.length<=61/\oq (xs.map Prod.fst)<=23*xs.length+12/\Below w.heap.size w wr) (λv _=>n-lenV v)
  case atStart=>exact⟨_,hrow4,by intro x hx;simp at hx;subst hx;exact⟨(by decide:(⟨#[102]⟩:ByteArray).size<=8),(by decide:(⟨#[]⟩:ByteArray).size<=8),by simp,by simp⟩,by simp,by simp,by simp[oq,uX],hB4⟩
  case round =>
   clear hrow4 hB4
   obtain⟨xs,hrow,hsm,h1,Sl,hco,hB⟩:=hrel
   obtain⟨av,cv,rfl⟩:=hrow.shape
   by_cases hlt:xs.length<n
   ·have hlt':(xs.length:Int)<(n:Int):=by omega
    have hsz:=hB.size
    have hzz:w.heap.size+1<=wr.heap.size:=by have:=ug hrow.1 h1;obtain⟨_,_,_,_,_,q1,q2⟩:=this;omega
    go_wp2_with (at_builtin;go_must (refine LD (e:=⟨3,⟨#[102]⟩,⟨#[102]⟩,[]⟩) (ab:=none) (nb:=0) (cb:=0) (g:=wr.heap.size) rfl (.tmp 21) (.tmp 23) rfl (w.heap.size+1) _ xs.length (xs.flatMap jA) rfl rfl rfl hrow.1 ?e1 ?e2 ?_;(case e1=>omega);(case e2=>omega);intro v' w' h1' h2';have hrow':=lG.snoc (e:=⟨3,⟨#[102]⟩,⟨#[102]⟩,[]⟩) (vb:=.slice none 0 0) hrow ⟨rfl,.inl ⟨rfl,rfl⟩⟩ h1' h2';have hB':=(hB.alloc hB.size (.cells #[.int .i64 3,.string ⟨#[102]⟩,.string ⟨#[102]⟩,.slice none 0 0] 45)).grown h2' (by simp;omega) (λj hj=>by have:=(World.ownsRow.lt hrow.1 j hj).1;omega);obtain⟨ao',cp',rfl⟩:=jW h1';clear h1' h2'))
    go_roundw
    case rel=>exact⟨_,hrow',by intro x hx;rcases List.mem_append.1 hx with hx|hx;exact hsm x hx;simp at hx;subst hx;exact⟨(by decide:(⟨#[102]⟩:ByteArray).size<=8),(by decide:(⟨#[102]⟩:ByteArray).size<=8),by simp,by simp⟩,by simp,by simp;omega,by rw[List.map_append,List.map_cons,List.map_nil,afl];simp[uX];omega,hB'⟩
    case measure=>simp[lenV];omega
   ·have hlt':¬(xs.length:Int)<(n:Int):=by omega
    go_wp2_with fail
    go_ret
    exact⟨_,xs,rfl,⟨yx (by omega) hrow.1,λx hx=>au.mono (by omega) (hrow.2 x hx)⟩,hsm,Sl,by omega,hB⟩
theorem YG {L R:List Df} {e:En} (h:aJ L e=some R) (hs:sF e):(dV (aH e)).size<=3031/\(aH e).size<=3031:=by
 have h1:=Zv h;have h2:=hs.2.2.2;have h3:(dV (aH e)).data.toList.length=(dV (aH e)).size:=by simp
 have h4:=afm (aH e);rw[Jt,List.length_append,List.length_singleton]at h3;unfold uX at h1;omega
theorem YE {w:World} {v:Value} {es:List En} (h:tu w v es) (k:Nat) (hk:k<es.length):∃a c b o,v=.slice a es.length c/\a=some ⟨b,o,none⟩/\ER w es[k] b (o+k*4):=by
 obtain⟨a,cap,rfl,_,hat⟩:=h;obtain⟨b,o,e,_,hx⟩:=hat k hk;exact⟨a,cap,b,o,rfl,e,hx⟩
theorem Zw (bc m:Nat) (p:Int) (w:World) (h:aW bc m w) (hm:m+21000<=1099511627776) (hp:1<p) (hp2:p<=97) :
  Calls Tryz.prog 64 #[.pointer (some ⟨bc,0,none⟩),.int .i64 p] w (Zi bc (m+21000) 22000 w):=by
 have hbz:=h.lt;go_enter Tryz.func64,Tryz.ntmps64;go_wp2_with (first
  |(go_at_call 54;refine(Zr bc _ y p _ hc2 (by omega) hp hp2 (by omega)).mono ?_;rintro e w3⟨v3,xs,rfl,hrow,hsm,hxl,hc3,hx3⟩;obtain⟨a3,c3,rfl⟩:=hrow.shape)
  |(go_at_call 38;refine(pick_any bc m 7 _ h (by omega) (by omega)).mono ?_;rintro e w2⟨y,rfl,y0,y1,y2,hc2,hx2⟩;obtain⟨y,rfl⟩:=Int.eq_ofNat_of_zero_le y0;have y7:y<=6:=by omega))
 have zK:ah (λk=>k=bc) w w3:=hx2.trans hx3;have hat:=hrow.at
 obtain⟨es,hes⟩:∃es,es=xs.map Prod.fst:=⟨_,rfl⟩
 have hel:es.length=xs.length:=by rw[hes,List.length_map]
 have yQ:∀e∈es,sF e:=λe he=>by rw[hes]at he;obtain⟨x,hx,rfl⟩:=List.mem_map.1 he;exact hsm x hx
 have uY:xs.length<=7:=by omega
 rw[<-hes]at hat
 obtain⟨n,hn⟩:∃n,n=xs.length:=⟨_,rfl⟩
 rw[<-hn]at hel uY ⊢;clear hes hrow hsm hx2 hx3 hc2 hxl y1 y2 y7 hn;go_loopw [5,6,17] (λlv sv iv wr=>∃(k:Nat) (L:List Df) (s:ByteArray),iv=.int .i64 (k:Int)/\k<=n/\sv=.string s/\cu wr w3.heap.size lv L/\good L=true/\s.size<=3031*k/\Below w3.heap.size w3 wr) (λ_ _ iv _=>n-(intOf iv).toNat)
 case atStart=>exact⟨0,[],⟨#[]⟩,rfl,by omega,rfl,gY _ _,by decide,(by decide:ByteArray.size _<=0),Below.refl _ _⟩
 case round =>
  obtain⟨k,L,s,rfl,hk,rfl,hlv,hg,hs,hB⟩:=hrel
  by_cases hlt:k<n
  ·have hlt':(k:Int)<(n:Int):=by omega
   have gl:=wo hg
   obtain⟨_,_,b,o,e,ha,c0,c1,c2,vb,c3,hvb⟩:=YE hat k (by omega)
   simp only[Value.slice.injEq]at e
   obtain⟨rfl,_,rfl⟩:=e
   subst ha
   have c0:=ak hB c0
   have c1:=ak hB c1
   have c2:=ak hB c2
   have c3:=ak hB c3
   have hvb:=hvb.keep hB
   have z0:=cell_lt c0
   have hes:=yQ es[k] (List.getElem_mem _)
   obtain⟨ab,cb,rfl⟩:=hvb.slice
   obtain⟨en,hen⟩:∃en,en=es[k]'(by omega):=⟨_,rfl⟩
   rw[<-hen]at c0 c1 c2 c3 hvb hes
   clear hat hen
   have hsz:=hB.size
   have hal:=aj wr (.cells #[.int .i64 en.kind,.string en.name,.string en.to,.slice ab en.body.length cb] 45)
   have Bf:aG (wr.alloc (.cells #[.int .i64 en.kind,.string en.name,.string en.to,.slice ab en.body.length cb] 45)) u5 L:=by
    obtain⟨zs,rfl,hz⟩:=cu.row hlv;exact(hz.keep hal).at
   have hap:=oQ u5 _ L en _ Bf gl.2 gl.1 (hvb.keep hal) (Eo hes)
   cases hae:aJ L en with
   | none =>
    rw[hae]at hap
    clear hae
    go_wp2_with (go_at_call 56;refine hap.mono ?_;rintro e w4⟨v4,rfl,bF,hb4⟩)
    go_roundw
    case rel=>exact⟨k+1,L,s,by go_num,by omega,rfl,by(obtain⟨zs,rfl,hz⟩:=cu.row hlv);exact(hz.keep (hal.trans (hb4.mono hal.size))).own,hg,by omega,hB.trans ((hal.trans (hb4.mono hal.size)).mono hsz)⟩
    case measure=>simp[intOf];omega
   | some R =>
    rw[hae]at hap
    have hgR:=xE hae
    obtain⟨r1,r2⟩:=YG hae hes
    have hjt:=λW (hh:aZ W (.slice ab en.body.length cb) en.body)=>DL DN _ L R en W hh (Eo hes) hae
    have n1:¬9223372036854775807<s.size+(dV (aH en)).size:=by omega
    clear hae
    go_wp2_with (first
     |(go_at_call 57;refine(FT _ _ (by omega)).mono ?_;rintro e w6⟨rfl,hb6⟩)
     |(go_at_call 58;refine(hjt _ ((hvb.keep hal).keep hb4)).mono ?_;rintro e w5⟨rfl,hb5⟩)
     |(go_at_call 56;refine hap.mono ?_;rintro e w4⟨v4,rfl,bF,hb4⟩;have t0:=(hb4.cell (p:=⟨wr.heap.size,0,none⟩) (by simp)).trans (show _=some (Value.int .i64 en.kind)by simp[go_sem]);have t1:=(hb4.cell (p:=⟨wr.heap.size,1,none⟩) (by simp)).trans (show _=some (Value.string en.name)by simp[go_sem]);have t2:=(hb4.cell (p:=⟨wr.heap.size,2,none⟩) (by simp)).trans (show _=some (Value.string en.to)by simp[go_sem]);have t3:=(hb4.cell (p:=⟨wr.heap.size,3,none⟩) (by simp)).trans (show _=some (Value.slice ab en.body.length cb)by simp[go_sem]);have zt:=cell_lt t0))
    have Zx:=hb5.trans (hb6.mono hb5.size)
    have afn:=hb4.trans (Zx.mono hb4.size)
    go_roundw
    case rel=>exact⟨k+1,R,_,by go_num,by omega,rfl,by(obtain⟨zs,hz,hr⟩:=cu.row bF);(have e:zs.map Prod.fst=R:=hz);rw[<-e];exact((hr.keep Zx).mono (by simp;omega)).own,hgR,by rw[bsize];omega,hB.trans ((hal.trans (afn.mono hal.size)).mono hsz)⟩
    case measure=>simp[intOf];omega
  ·go_wp2_with fail
   go_ret
   exact⟨s,rfl,by omega,(hc3.keep hB).mono (by omega),zK.below hB⟩
def Zy:Value->Nat
 | .string s=>s.size
 | _=>0
def DkP (w:World) (e:Ending) (w':World):Prop:=∃s:ByteArray,e=.returned (.string s)/\s.size<=70000/\Below w.heap.size w w'
theorem aeD (va:Value) (code:List UInt8) (w:World) (h:BytesAt w va code) (hl:code.length<=1048576) (hlow:∀k,va.ownBlock=some k->k<w.heap.size) :
  Calls Tryz.prog 25 #[va] w (DkP w):=by
 have hc1:=RV h hl hlow;have hb1:=aj w (.cells #[va,.int .i64 0,.int .u64 0] 67);have hbz:=hc1.lt;obtain⟨aa,ac,rfl⟩:=h.shape;go_enter Tryz.func25,Tryz.ntmps25;go_upto_region 3 with(go_at_call 64;refine(Zw w.heap.size 0 5 _ hc1 (by omega) (by omega) (by omega)).mono ?_;rintro e w2⟨s,rfl,hs,hc2,hx2⟩)
 have hB2:=sK hb1 hx2 (Nat.le_refl _);clear hc1 hx2 hb1;go_cut [16] (λs16 wx=>∃b,s16=.bool b/\aW w.heap.size (0+21000+2) wx/\Below w.heap.size w wx)
 case first =>
  by_cases h0:s.size=0
  ·have h0':¬(0:Int)<s.size:=by omega
   clear h0
   go_wp2_with fail
   go_meet
   case rel=>exact⟨_,rfl,hc2.mono (by omega),hB2⟩
  ·have h0':(0:Int)<s.size:=by omega
   go_wp2_with (go_at_call 39;refine(one_any w.heap.size _ 3 _ hc2 (by omega) (by omega)).mono ?_;rintro e w3⟨b,rfl,hc3,hx3⟩)
   all_goals
    go_meet
    case rel=>exact⟨_,rfl,hc3,sK hB2 hx3 (Nat.le_refl _)⟩
 case rest =>
  obtain⟨b,rfl,hc3,hB3⟩:=hcut
  clear hc2 hB2
  go_upto_if 16 with fail
  go_cut [4] (λs4 wx=>∃s:ByteArray,s4=.string s/\s.size<=22000/\aW w.heap.size (0+21000+4) wx/\Below w.heap.size w wx)
  case first =>
   have e1:IntKind.i64.wrap ((s.size:Int)+1)=(s.size:Int)+1:=IntWalk.i64_in _ (by omega)
   cases b
   ·go_wp2_with fail
    go_meet
    case rel=>exact⟨s,rfl,hs,hc3.mono (by omega),hB3⟩
   ·go_wp2_with (go_at_call 38;refine(pick_any w.heap.size _ (s.size+1) _ hc3 (by omega) (by omega)).mono ?_;rintro e w4⟨y,rfl,y0,y1,y2,hc4,hx4⟩;obtain⟨y,rfl⟩:=Int.eq_ofNat_of_zero_le y0;have hy:(y:Int)<=s.size:=by omega)
    go_meet
    case rel=>exact⟨_,rfl,by simp[ByteArray.size_extract];omega,hc4.mono (by omega),sK hB3 hx4 (Nat.le_refl _)⟩
  case rest =>
   obtain⟨t,rfl,ht,hc4,hB4⟩:=hcut
   clear hc3 hB3 hs
   go_upto_if 25 with(go_at_call 39;refine(one_any w.heap.size _ 4 _ hc4 (by omega) (by omega)).mono ?_;rintro e w5⟨b,rfl,hc5,hx5⟩)
   have gX:=sK hB4 hx5 (Nat.le_refl _)
   clear hc4 hB4 hx5
   cases b
   ·go_upto_if 30 with(go_at_call 39;refine(one_any w.heap.size _ 20 _ hc5 (by omega) (by omega)).mono ?_;rintro e w6⟨b,rfl,hc6,hx6⟩)
    have dH:=sK gX hx6 (Nat.le_refl _)
    cases b
    ·go_wp2_with fail
     go_ret
     exact⟨t,rfl,by omega,dH⟩
    ·go_wp2_with fail
     go_loopw [4] (λsv wr=>∃s:ByteArray,sv=.string s/\s.size<=60100/\wr=w6) (λsv _=>60200-Zy sv)
     case atStart=>exact⟨t,rfl,by omega,by first|rfl|trivial⟩
     case round =>
      obtain⟨s,rfl,hs,rfl⟩:=hrel
      by_cases hk:(s.size:Int)<59990
      ·have n1:¬9223372036854775807<s.size+29:=by omega
       go_wp2_with fail
       go_roundw
       case rel=>exact⟨_,rfl,by(have u1:(⟨#[100,114,111,112,32,102,32,35,49,50,51,52,53,54,55,56,57,48,49,50,51,52,53,54,55,56,57,48,10]⟩:ByteArray).size=29:=rfl);simp only[bsize,u1];omega,by first|rfl|trivial⟩
       case measure=>(have u1:(⟨#[100,114,111,112,32,102,32,35,49,50,51,52,53,54,55,56,57,48,49,50,51,52,53,54,55,56,57,48,10]⟩:ByteArray).size=29:=rfl);simp only[Zy,bsize,u1];omega
      ·go_wp2_with fail
       go_ret
       exact⟨s,rfl,by omega,dH⟩
   ·go_wp2_with (go_at_call 65;refine(Zj w.heap.size _ t _ _ hc5 (by omega) (by omega) (by decide) (by decide)).mono ?_;rintro e w6⟨u,rfl,hu,hc6,hx6⟩)
    go_ret
    exact⟨u,rfl,by omega,sK gX hx6 (Nat.le_refl _)⟩
end Go.Proofs.YtikgblkfmpecfaaGreatDoor
