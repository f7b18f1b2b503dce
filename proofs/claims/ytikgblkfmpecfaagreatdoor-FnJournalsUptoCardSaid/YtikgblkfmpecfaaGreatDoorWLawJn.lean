/-
  The law of journals, walked. Own work.
-/
import Derived.Test.YtikgblkfmpecfaaGreatDoorWNI
import Derived.Test.YtikgblkfmpecfaaGreatDoorWJlC
import Derived.Test.YtikgblkfmpecfaaGreatDoorWNK
import Derived.Test.YtikgblkfmpecfaaGreatDoorWRS
import Derived.Test.YtikgblkfmpecfaaGreatDoorWRU
import Derived.Test.YtikgblkfmpecfaaGreatDoorWPeJ
import Derived.Test.YtikgblkfmpecfaaGreatDoorWW
import Derived.Test.YtikgblkfmpecfaaGreatDoorWH
import Derived.Lib.ConvBytes
import Derived.Deep.DeepCutAuto
set_option linter.all false
set_option maxRecDepth 100000
set_option maxHeartbeats 8000000
namespace Go.Proofs.YtikgblkfmpecfaaGreatDoor
open Go.RowKit
def BlJ (w:World) (e:Ending) (w':World):Prop:=e=.returned (.bool true)/\Below w.heap.size w w'
theorem aer {es:List En}:∀{L R:List Df},fK L es=some R->∀{k:Nat} {S:List Df} (hk:k<es.length),fK L (es.take k)=some S->∃S',aJ S es[k]=some S'/\fK L (es.take (k+1))=some S':=by
 induction es with
 | nil=>intro L R _ k S hk;cases hk
 | cons e r ih =>
  intro L R h k S hk hS
  simp only[fK]at h
  cases ha:aJ L e with
  | none=>rw[ha]at h;cases h
  | some R1 =>
   rw[ha]at h
   cases k with
   | zero =>
    simp only[List.take_zero,fK,Option.some.injEq]at hS
    subst hS
    exact⟨R1,ha,by simp[fK,ha]⟩
   | succ k =>
    simp only[List.take_succ_cons,fK,ha]at hS
    obtain⟨S',h1,h2⟩:=ih h (by simpa using hk) hS
    exact⟨S',by simpa using h1,by simp only[List.take_succ_cons,fK,ha];exact h2⟩
theorem Yv:∀(es:List En) (L R:List Df),good L=true->fK L es=some R->good R=true
 | [],L,R,hg,h=>by simp only[fK,Option.some.injEq]at h;subst h;exact hg
 | e::r,L,R,hg,h=>by
  simp only[fK]at h;cases ha:aJ L e with
  | none=>rw[ha]at h;cases h
  | some R1=>rw[ha]at h;exact Yv r R1 R (xE ha) h
theorem aes (a b:Nat) (ha:a<256) (hb:b<256):bits .xor .u8 (a:Int) (b:Int)=((a ^^^ b:Nat):Int)/\a ^^^ b<256:=by
 have hx:a ^^^ b<2 ^ 8:=Nat.xor_lt_two_pow (by omega) (by omega);have h1:(BitVec.ofInt 8 (a:Int)).toNat=a:=by
  rw[BitVec.ofInt_natCast,BitVec.toNat_ofNat];exact Nat.mod_eq_of_lt (by omega)
 have h2:(BitVec.ofInt 8 (b:Int)).toNat=b:=by
  rw[BitVec.ofInt_natCast,BitVec.toNat_ofNat];exact Nat.mod_eq_of_lt (by omega)
 refine⟨?_,by omega⟩;show IntKind.u8.wrap ((BitVec.ofInt 8 (a:Int) ^^^ BitVec.ofInt 8 (b:Int)).toNat:Int)=_;rw[BitVec.toNat_xor,h1,h2];exact IntWalk.u8_in _ (by omega)
theorem aeu (a b:Nat) (h:b≠0):a ^^^ b≠a:=by
 intro e;have:=congrArg (a ^^^ ·) e;simp only[<-Nat.xor_assoc,Nat.xor_self,Nat.zero_xor]at this;exact h this
theorem aev (s:ByteArray) (i:Nat) (hi:i<s.size) (y:Nat) (hy:0<y) (hy2:y<256):∃c:UInt8,bits .xor .u8 (((s.data[i]?.getD 0).toNat:Nat):Int) (y:Int)=(c.toNat:Int)/\s.data.toList[i]?≠some c:=by
 obtain⟨h1,h2⟩:=aes (s.data[i]?.getD 0).toNat y (s.data[i]?.getD 0).toNat_lt hy2;refine⟨UInt8.ofNat ((s.data[i]?.getD 0).toNat ^^^ y),by rw[h1,UInt8.toNat_ofNat_of_lt' (by have:UInt8.size=256:=rfl;omega)],λe=>?_⟩;have e2:s.data[i]?.getD 0=UInt8.ofNat ((s.data[i]?.getD 0).toNat ^^^ y):=by
  have:s.data[i]?=s.data.toList[i]?:=by simp
  conv=>lhs;rw[this,e]
  rfl
 have e3:=congrArg UInt8.toNat e2;rw[UInt8.toNat_ofNat_of_lt' (by have:UInt8.size=256:=rfl;omega)]at e3;exact aeu _ _ (by omega) e3.symm
theorem aew (W:World) (b gc:Nat) (l:List UInt8) (n:Nat) (hn:l.length=n) (hc:∀j (hj:j<l.length),W.cell? ⟨b,j,none⟩=some (.int .u8 (l[j].toNat:Int))):(convert 22 9 (.slice (some ⟨b,0,none⟩) n gc)).run Tryz.prog W=.ok (.string (bytesOf l)) W:=by
 subst hn;exact run_convert_bytes_back (P:=Tryz.prog) W 22 9 5 ⟨b,0,none⟩ gc l Tryz.underlying22 Tryz.underlying5 Tryz.underlying9 (λj hj=>by
  have:=hc j hj;by_cases hj0:j=0
  ·subst hj0;simpa[Addr.add]using this
  ·simpa[Addr.add,hj0]using this)
theorem abP (va vb:Value) (xs ys:List UInt8) (w:World) (ha:BytesAt w va xs) (hb:BytesAt w vb ys) (la:∀k,va.ownBlock=some k->k<w.heap.size) (lb:∀k,vb.ownBlock=some k->k<w.heap.size)
  (hx:xs.length<=1099511627776) (hy:ys.length<=1099511627776) (hct:dF w) (hpt:iM w) :
  Calls Tryz.prog 4 #[va,vb] w (BlJ w):=by
 obtain⟨aa,ca,rfl⟩:=ha.shape;obtain⟨ab,cb,rfl⟩:=hb.shape;go_enter Tryz.func4,Tryz.ntmps4;go_wp2_with fail
 refine(Yc _ _ xs ys w ha hb hx hy).mono ?_;rintro e w0⟨b,rfl,hbg,hw0⟩;obtain rfl:w=w0:=hw0.symm;cases b
 ·obtain⟨hx1,hy1⟩:=hbg rfl;go_wp2_with fail
  refine(aex _ xs w ha hx1 la).mono ?_;rintro e w1⟨v1,zs,rfl,hrow,hsm,hzl,hco,hB1⟩;obtain⟨es,hes⟩:∃es,es=zs.map Prod.fst:=⟨_,rfl⟩
  have hat:=hrow.at
  have hel:es.length<=61:=by rw[hes];simpa using hzl
  have hse:∀e∈es,sF e:=λe he=>by rw[hes]at he;obtain⟨x,hx,rfl⟩:=List.mem_map.1 he;exact hsm x hx
  rw[<-hes]at hat hco;clear hrow hsm hzl hes;have heo:∀e∈es,dW e:=λe he=>Eo (hse e he);obtain⟨a1,c1,rfl⟩:∃a c,v1=.slice a es.length c:=by obtain⟨a,c,rfl,_⟩:=hat;exact⟨a,c,rfl⟩
  have GZ:=hct.keep hB1;have G5:=hpt.keep hB1;have j0:=λW (hb:Below w1.heap.size w1 W)=>Xy _ es W (G5.keep hb) (hat.keep hb) (by omega) heo;have j1:=λW (hb:Below w1.heap.size w1 W)=>aey _ es W (hat.keep hb) (by omega) heo;obtain⟨J,hJ⟩:∃J,iI es=J:=⟨_,rfl⟩
  rw[hJ]at j0 j1;obtain⟨s0,hs0⟩:∃s,J.getD ⟨#[]⟩=s:=⟨_,rfl⟩
  obtain⟨b0,hb0⟩:∃b,J.isSome=b:=⟨_,rfl⟩
  unfold wu at j0 j1;rw[hs0,hb0]at j0 j1;have J0:=Lib.hid j0;have J1:=Lib.hid j1;clear j0 j1;go_wp2_with fail
  refine(J0.out _ (Below.refl _ _)).mono ?_;rintro e w2⟨rfl,hb2⟩;go_wp2_with fail
  refine(J1.out _ hb2).mono ?_;rintro e w3⟨rfl,hb3⟩;have B3:=hb2.trans (hb3.mono hb2.size);clear J0 J1 hb2 hb3;go_upto_if 67 with fail
  go_cut [20] (λs20 wx=>Below w.heap.size w wx)
  case first =>
   cases b0
   ·go_wp2_with fail
    go_meet
    case rel=>exact hB1.trans (B3.mono hB1.size)
   ·obtain⟨s,rfl⟩:=Option.isSome_iff_exists.1 hb0
    simp only[Option.getD_some]at hs0
    subst hs0
    obtain⟨h60,hs6,R,hR,Yw⟩:=Yx hJ
    have hgR:=Yv es [] R (by decide) hR
    have hrl:=OB hR h60
    rw[<-Yw]at hrl
    have Yy:=Yz es [] R hR
    obtain⟨c,hc,hc2,hcf⟩:=aez hgR (by simp[n_]at Yy;simp only[n_];omega)
    obtain⟨YA,hcs,_⟩:=Yx hc
    have hrc:=OB hcf YA
    rw[<-hc2,List.length_map]at hrc
    have hr1:gG s=((R,es.length,s.size),true):=by unfold gG;rw[if_pos hs6,hrl]
    have hr2:gG c=((R,R.length,c.size),true):=by unfold gG;rw[if_pos hcs,hrc]
    have hcm:BO s=some c:=by unfold BO;rw[if_pos hs6,hrl];exact hc
    have q0:=λW (hb:Below w1.heap.size w1 W)=>Eh s W (GZ.keep hb) (G5.keep hb) (by omega)
    have q1:=λW (hb:Below w1.heap.size w1 W)=>aeA s W (GZ.keep hb) (G5.keep hb) (by omega)
    have q2:=λW (hb:Below w1.heap.size w1 W)=>Eh c W (GZ.keep hb) (G5.keep hb) (by omega)
    rw[hr1]at q0
    rw[hcm]at q1
    rw[hr2]at q2
    simp only at q0 q2
    have q1':∀W,Below w1.heap.size w1 W->Calls Tryz.prog 20 #[.string s] W (λr w'=>r=.returned (.tuple #[.string c,.bool true])/\Below W.heap.size W w'):=q1
    have Q0:=Lib.hid q0
    have Q1:=Lib.hid q1'
    have Q2:=Lib.hid q2
    have HR:=Lib.hid hR
    have Le:=wo hgR
    clear q0 q1 q1' q2 hr1 hr2 hcm hrl hrc Yy hc hc2 hcf YA hJ hR Yw hco
    go_wp2_with fail
    refine(Q0.out _ B3).mono ?_
    rintro e w4⟨v4,rfl,bF,hb4⟩
    have B4:=B3.trans (hb4.mono B3.size)
    go_wp2_with fail
    refine(Q1.out _ B4).mono ?_
    rintro e w5⟨rfl,hb5⟩
    have B5:=B4.trans (hb5.mono B4.size)
    go_wp2_with fail
    refine(Q2.out _ B5).mono ?_
    rintro e w6⟨v6,rfl,dK,hb6⟩
    have B6:=B5.trans (hb6.mono B5.size)
    have at4:aG w6 v4 R:=by obtain⟨ys,rfl,hr⟩:=cu.row bF;exact(hr.keep (hb5.trans (hb6.mono hb5.size))).at
    have YB:aG w6 v6 R:=by obtain⟨ys,rfl,hr⟩:=cu.row dK;exact hr.at
    clear Q0 Q1 Q2 bF dK hb4 hb5 hb6
    go_wp2_with fail
    refine(Em _ _ R _ YB at4 Le.2 Le.1).mono ?_
    rintro e w7⟨rfl,hb7⟩
    have B7:=B6.trans (hb7.mono B6.size)
    have at7:=at4.keep hb7
    clear at4 YB
    have aeB:=GZ.keep B7
    have YC:=hat.keep B7
    clear hat
    go_wp2_with fail
    go_loopw [20,123] (λlv kv wr=>∃(k:Nat) (S:List Df),kv=.int .i64 (k:Int)/\k<=es.length/\Hid (fK [] (es.take k)=some S)/\cu wr w7.heap.size lv S/\good S=true/\Below w7.heap.size w7 wr) (λ_ kv _=>es.length-(intOf kv).toNat)
    case atStart=>exact⟨0,[],rfl,by omega,(show fK [] (es.take 0)=some []from rfl),gY _ _,by decide,Below.refl _ _⟩
    case round =>
     obtain⟨k,S,rfl,hk,hf,hlv,YD,hB⟩:=hrel
     have G6:aG wr u20 S:=by obtain⟨ys,rfl,hr⟩:=cu.row hlv;exact hr.at
     have gl:=wo YD
     by_cases hlt:k<es.length
     ·have hlt':(k:Int)<(es.length:Int):=by omega
      obtain⟨S',ha',hf'⟩:=aer HR.out hlt hf.out
      obtain⟨_,_,b,o,e,he,c0,c1',c2,vb,c3,hvb⟩:=YE YC k hlt
      simp only[Value.slice.injEq]at e
      obtain⟨rfl,_,rfl⟩:=e
      subst he
      have c0:=ak hB c0
      have c1':=ak hB c1'
      have c2:=ak hB c2
      have c3:=ak hB c3
      have hvb:=hvb.keep hB
      have z0:=cell_lt c0
      have hen:=hse es[k] (List.getElem_mem _)
      obtain⟨G7,cb2,rfl⟩:=hvb.slice
      obtain⟨en,YF⟩:∃en,en=es[k]:=⟨_,rfl⟩
      rw[<-YF]at c0 c1' c2 c3 hvb hen ha'
      clear YC YF
      have hsz:=hB.size
      have QW:=Eo hen
      have hts:=(YG ha' hen).2
      have hpe:Ep S (aH en)=some en:=by unfold Ep;rw[if_pos YD];exact YH ha'
      have x0:=λW (hb:Below wr.heap.size wr W)=>sG _ _ S en W (G6.keep hb) gl.2 gl.1 (hvb.keep hb) QW
      have x1:=λW (hb:Below wr.heap.size wr W)=>QX _ S (aH en) W (G6.keep hb) gl.2 gl.1 (aeB.keep (hB.trans (hb.mono hsz))) (by omega)
      have x2:=λW (hb:Below wr.heap.size wr W)=>zC _ _ S en W (G6.keep hb) gl.2 gl.1 (hvb.keep hb) QW
      rw[vN ha']at x0
      rw[hpe]at x1
      rw[ha']at x2
      have G8:∀W,Below wr.heap.size wr W->Calls Tryz.prog 22 #[u20,.agg #[.int .i64 en.kind,.string en.name,.string en.to,.slice G7 en.body.length cb2]] W (λr w'=>r=.returned (.tuple #[.string (aH en),.bool true])/\Below W.heap.size W w'):=x0
      have x1':∀W,Below wr.heap.size wr W->Calls Tryz.prog 23 #[u20,.string (aH en)] W (xU en.kind en.name en.to en.body true W):=x1
      have X0:=Lib.hid G8
      have X1:=Lib.hid x1'
      have X2:=Lib.hid x2
      have HF:=Lib.hid hf'
      have aeC:=xE ha'
      clear x0 x1 x2 G8 x1' hf' ha' hf hpe G6 hlv gl
      have hal:=aj wr (.cells #[.int .i64 en.kind,.string en.name,.string en.to,.slice G7 en.body.length cb2] 45)
      go_wp2_with fail
      refine(X0.out _ hal).mono ?_
      rintro e w8⟨rfl,hb8⟩
      have B8:=hal.trans (hb8.mono hal.size)
      go_wp2_with fail
      refine(X1.out _ B8).mono ?_
      rintro e w9⟨v9,rfl,iL,bG⟩
      obtain⟨a9,c9,rfl⟩:=iL.slice
      have B9:=B8.trans (bG.mono B8.size)
      have Lh:=aj w9 (.cells #[.int .i64 en.kind,.string en.name,.string en.to,.slice a9 en.body.length c9] 45)
      have Es:=B9.trans (Lh.mono B9.size)
      have bx:Below (wr.alloc (.cells #[.int .i64 en.kind,.string en.name,.string en.to,.slice G7 en.body.length cb2] 45)).heap.size (wr.alloc (.cells #[.int .i64 en.kind,.string en.name,.string en.to,.slice G7 en.body.length cb2] 45)) (w9.alloc (.cells #[.int .i64 en.kind,.string en.name,.string en.to,.slice a9 en.body.length c9] 45)):=hb8.trans ((bG.trans (Lh.mono bG.size)).mono hb8.size)
      have t0:=(bx.cell (p:=⟨wr.heap.size,0,none⟩) (by simp)).trans (show _=some (Value.int .i64 en.kind)by simp[go_sem])
      have t1:=(bx.cell (p:=⟨wr.heap.size,1,none⟩) (by simp)).trans (show _=some (Value.string en.name)by simp[go_sem])
      have t2:=(bx.cell (p:=⟨wr.heap.size,2,none⟩) (by simp)).trans (show _=some (Value.string en.to)by simp[go_sem])
      have t3:=(bx.cell (p:=⟨wr.heap.size,3,none⟩) (by simp)).trans (show _=some (Value.slice G7 en.body.length cb2)by simp[go_sem])
      have s0:(w9.alloc (.cells #[.int .i64 en.kind,.string en.name,.string en.to,.slice a9 en.body.length c9] 45)).cell? ⟨w9.heap.size,0,none⟩=some (.int .i64 en.kind):=by simp[go_sem]
      have s1:(w9.alloc (.cells #[.int .i64 en.kind,.string en.name,.string en.to,.slice a9 en.body.length c9] 45)).cell? ⟨w9.heap.size,1,none⟩=some (.string en.name):=by simp[go_sem]
      have s2:(w9.alloc (.cells #[.int .i64 en.kind,.string en.name,.string en.to,.slice a9 en.body.length c9] 45)).cell? ⟨w9.heap.size,2,none⟩=some (.string en.to):=by simp[go_sem]
      have s3:(w9.alloc (.cells #[.int .i64 en.kind,.string en.name,.string en.to,.slice a9 en.body.length c9] 45)).cell? ⟨w9.heap.size,3,none⟩=some (.slice a9 en.body.length c9):=by simp[go_sem]
      have n9:=(iL.at).keep Lh
      have nv:=hvb.keep Es
      obtain⟨W9,uF⟩:∃W,W=w9.alloc (.cells #[.int .i64 en.kind,.string en.name,.string en.to,.slice a9 en.body.length c9] 45):=⟨_,rfl⟩
      rw[<-uF]at t0 t1 t2 t3 s0 s1 s2 s3 n9 nv Es
      have T4:=And.intro t0 (And.intro t1 (And.intro t2 t3))
      have S4:=And.intro s0 (And.intro s1 (And.intro s2 s3))
      have zt:=cell_lt t0
      have zs:=cell_lt s0
      clear iL bx Lh hb8 bG B8 c0 c1' c2 c3
      have Qg:w9.heap.size<W9.heap.size:=by rw[uF];simp
      have YI:=Lib.hid uF
      clear uF s0 s1 s2 s3 t0 t1 t2 t3 zt zs
      go_upto_region 20 with fail
      rw[<-YI.out]
      have t0:=T4.1
      have t1:=T4.2.1
      have t2:=T4.2.2.1
      have t3:=T4.2.2.2
      have s0:=S4.1
      have s1:=S4.2.1
      have s2:=S4.2.2.1
      have s3:=S4.2.2.2
      have zt:=cell_lt t0
      have zs:=cell_lt s0
      clear YI
      go_wp2_with fail
      refine(X2.out _ Es).mono ?_
      rintro e w10⟨v10,rfl,sH,bf⟩
      have B10:=Es.trans (bf.mono Es.size)
      have t0:=ak bf t0
      have t1:=ak bf t1
      have t2:=ak bf t2
      have t3:=ak bf t3
      have s0:=ak bf s0
      have s1:=ak bf s1
      have s2:=ak bf s2
      have s3:=ak bf s3
      have zt:=cell_lt t0
      have zs:=cell_lt s0
      clear T4 S4
      go_wp2_with fail
      refine(YJ _ _ en.body _ (n9.keep bf) (nv.keep bf) QW.2.2.2).mono ?_
      rintro e iE⟨rfl,ku⟩
      have B11:=B10.trans (ku.mono B10.size)
      go_wp2_with fail
      go_roundw
      case rel=>exact⟨k+1,S',by go_num,by omega,HF,by(obtain⟨ys,hys,hr⟩:=cu.row sH);(have e:ys.map Prod.fst=S':=hys);rw[<-e];exact((hr.keep ku).mono (by have:=Es.size;omega)).own,aeC,hB.trans (B11.mono hsz)⟩
      case measure=>simp[intOf];omega
     ·have hkk:k=es.length:=by omega
      have hf2:=hf.out
      rw[hkk,List.take_length,HR.out]at hf2
      obtain rfl:=Option.some.inj hf2
      clear hf hf2
      go_wp2_with fail
      refine(Em _ _ R _ G6 (at7.keep hB) Le.2 Le.1).mono ?_
      rintro e w8⟨rfl,hb8⟩
      go_wp2_with fail
      go_meet
      case rel=>exact hB1.trans ((B7.trans ((hB.trans (hb8.mono hB.size)).mono B7.size)).mono hB1.size)
  case rest =>
   clear B3 hb0 hs0 hJ GZ G5 hat heo hse hel hco hB1
   go_wp2_with fail
   refine(aeD _ ys wc (hb.low lb hcut) hy1 (λk hk=>Nat.lt_of_lt_of_le (lb k hk) hcut.size)).mono ?_
   rintro e w2⟨t,rfl,ht,hB2⟩
   have Lj:=hcut.trans (hB2.mono hcut.size)
   have YK:=hct.keep Lj
   have YL:=hpt.keep Lj
   have hgd:=aeE t
   have q0:=λW (hb:Below w2.heap.size w2 W)=>Eh t W (YK.keep hb) (YL.keep hb) (by omega)
   have q1:=λW (hb:Below w2.heap.size w2 W)=>aeF t W (by omega)
   obtain⟨⟨⟨L,n,k⟩,ok⟩,hR⟩:∃R,gG t=R:=⟨_,rfl⟩
   rw[hR]at q0 q1 hgd
   simp only at q0 q1 hgd
   have Q0:=Lib.hid q0
   have Q1:=Lib.hid q1
   have HR:=Lib.hid hR
   have gl:=wo hgd
   clear q0 q1 hR
   go_wp2_with fail
   refine(Q0.out _ (Below.refl _ _)).mono ?_
   rintro e w3⟨v3,rfl,ho3,hb3⟩
   go_wp2_with fail
   refine(Q1.out _ hb3).mono ?_
   rintro e w4⟨v4,rfl,bF,hb4⟩
   have B4:=hb3.trans (hb4.mono hb3.size)
   have at3:aG w4 v3 L:=by obtain⟨ys,rfl,hr⟩:=cu.row ho3;exact(hr.keep hb4).at
   have at4:aG w4 v4 L:=by obtain⟨ys,rfl,hr⟩:=cu.row bF;exact hr.at
   clear ho3 bF hb3 hb4 Q0 Q1
   go_wp2_with fail
   refine(Em _ _ L _ at3 at4 gl.2 gl.1).mono ?_
   rintro e w5⟨rfl,hb5⟩
   have B5:=B4.trans (hb5.mono B4.size)
   clear at3 at4 hb5 B4 gl hgd
   have hfin:∀W,Below w2.heap.size w2 W->Below w.heap.size w W:=λW h=>Lj.trans (h.mono Lj.size)
   cases ok
   ·go_wp2_with fail
    go_ret
    exact⟨rfl,hfin _ B5⟩
   ·by_cases hk:k=0
    ·have hk':¬(0:Int)<k:=by omega
     clear hk
     go_wp2_with fail
     go_ret
     exact⟨rfl,hfin _ B5⟩
    ·have hk':(0:Int)<k:=by omega
     have hsz:t.size<=60000/\aT t=(L,n,k):=by
      have h:=HR.out;unfold gG at h;split at h
      ·rename_i h6
       exact⟨h6,(Prod.mk.inj h).1⟩
      ·cases h
     obtain⟨h6,hrl⟩:=hsz
     have hkt:k<=t.size:=by have:=(qQ t).2.2;rw[hrl]at this;exact this
     have hcv:=Lib.run_convert_string_bytes (P:=Tryz.prog) w5 9 22 5 t (u:=.string) Tryz.underlying9 Tryz.underlying22 Tryz.underlying5
     have QY:Below w5.heap.size w5 (Lib.bytesWorld w5 5 t):=by
      refine⟨rfl,rfl,rfl,by rw[Lib.bytesWorld_size];omega,λj hj=>Lib.bytesWorld_at_old _ _ _ j hj⟩
     have uy:=Lib.bytesWorld_size w5 5 t
     have hc6:=Lib.bytesWorld_cell w5 5 t
     have hb6:=Lib.bytesWorld_at_new w5 5 t
     obtain⟨W6,G9⟩:∃W,W=Lib.bytesWorld w5 5 t:=⟨_,rfl⟩
     rw[<-G9]at hcv QY uy hc6 hb6
     clear G9
     have B6:=B5.trans (QY.mono B5.size)
     have ha6:=ha.low la (hfin _ B6)
     obtain⟨gc,hgc⟩:∃gc,gc=grownCap w5 t.size 0 5:=⟨_,rfl⟩
     rw[<-hgc]at hcv
     clear hgc
     go_wp2_with fail
     refine(Yf _ xs _ ha6 hx1).mono ?_
     rintro e w7⟨⟨q,hq,rfl⟩,hw7⟩
     subst hw7
     have e1:(q:Int).tmod (k:Int)=((q % k:Nat):Int):=by rw[Int.tmod_eq_emod_of_nonneg (by omega)];simp
     have e2:IntKind.i64.wrap ((q % k:Nat):Int)=((q % k:Nat):Int):=IntWalk.i64_in _ (by have:=Nat.mod_lt q (by omega:0<k);omega)
     obtain⟨i,hi⟩:∃i,i=q % k:=⟨_,rfl⟩
     have hik:i<k:=by rw[hi];exact Nat.mod_lt q (by omega)
     rw[<-hi]at e1 e2
     clear hi
     have hx6:=hc6 i (by omega)
     have e3:(xs.length:Int).tmod 200=(xs.length:Int) % 200:=Int.tmod_eq_emod_of_nonneg (by omega)
     have e4:IntKind.i64.wrap ((xs.length:Int) % 200)=(xs.length:Int) % 200:=IntWalk.i64_in _ (by omega)
     have e5:IntKind.i64.wrap (1+(xs.length:Int) % 200)=1+(xs.length:Int) % 200:=IntWalk.i64_in _ (by omega)
     have e6:IntKind.u8.wrap (1+(xs.length:Int) % 200)=1+(xs.length:Int) % 200:=IntWalk.u8_in _ (by omega)
     have hit:(i:Int)<t.size:=by omega
     have hfz:w7.frozen? ⟨w5.heap.size,i,none⟩=false:=by
      have hsz:t.size<=(Lib.bytesCells w5 5 t).size:=by
       unfold Lib.bytesCells;rw[Array.size_append,Array.size_map];exact Nat.le_add_right _ _
      unfold World.frozen?;rw[hb6];have:¬(Lib.bytesCells w5 5 t).size<=i:=by omega
      simp[this]
     obtain⟨c,hc,hcn⟩:=aev t i (by omega) (1+xs.length % 200) (by omega) (by omega)
     have hc':bits .xor .u8 (((t.data[i]?.getD 0).toNat:Nat):Int) (1+(xs.length:Int) % 200)=(c.toNat:Int):=by rw[<-hc];simp
     have i_:w5.heap.size<w7.heap.size:=by omega
     have hx7:w7.cell? ⟨w5.heap.size,i,none⟩=some (.int .u8 (((t.data[i]?.getD 0).toNat:Nat):Int)):=by rw[hx6];simp
     have hlen:(t.data.toList.set i c).length=t.size:=by simp
     have hcl:∀j (hj:j<(t.data.toList.set i c).length),(w7.setCell ⟨w5.heap.size,i,none⟩ (.int .u8 (c.toNat:Int))).cell? ⟨w5.heap.size,j,none⟩=some (.int .u8 ((t.data.toList.set i c)[j].toNat:Int)):=by
      intro j hj;have hj2:j<t.size:=by omega
      by_cases hji:j=i
      ·subst hji;rw[List.getElem_set_self];go_simp
      ·have h2:=hc6 j hj2;rw[List.getElem_set_ne (by omega)];have h3:t.data.toList.getD j 0=t.data.toList[j]'(by simpa using hj2):=by rw[List.getD_eq_getElem?_getD,List.getElem?_eq_getElem (by simpa using hj2)];rfl
       rw[h3]at h2;go_simp
     have hcv2:=aew (w7.setCell ⟨w5.heap.size,i,none⟩ (.int .u8 (c.toNat:Int))) w5.heap.size gc (t.data.toList.set i c) t.size hlen hcl
     obtain⟨W8,qj⟩:∃W,W=w7.setCell ⟨w5.heap.size,i,none⟩ (.int .u8 (c.toNat:Int)):=⟨_,rfl⟩
     have aeG:Below w5.heap.size w5 W8:=by rw[qj];exact QY.setCell (Nat.le_refl _) _
     have B8:=B5.trans (aeG.mono B5.size)
     obtain⟨t',ht'⟩:∃t',t'=bytesOf (t.data.toList.set i c):=⟨_,rfl⟩
     have hts:t'.size=t.size:=by rw[ht'];show(t.data.toList.set i c).toArray.size=t.size;rw[List.size_toArray,hlen]
     have hre:=adJ t hcn (by rw[hrl];exact hik)
     rw[<-ht']at hre
     have hr1:gG t'=(aT t',true):=by unfold gG;rw[if_pos (by omega)]
     have q2:=λW (hb:Below w2.heap.size w2 W)=>Eh t' W (YK.keep hb) (YL.keep hb) (by omega)
     rw[hr1]at q2
     obtain⟨⟨L',n',k'⟩,hR'⟩:∃R,aT t'=R:=⟨_,rfl⟩
     rw[hR']at q2 hre
     simp only at q2 hre
     have Q2:=Lib.hid q2
     have hle:(k':Int)<=(i:Int):=by omega
     rw[<-ht',<-qj]at hcv2
     have HC:=Lib.hid hcv2
     have YM:=Lib.hid qj
     clear q2 hR' hr1 hts ht' hcl hlen hc6 hb6 hcv hcv2 qj hx6 hc hcn hrl HR hre
     go_upto_region 36 with fail
     rw[<-YM.out]
     have hcv2:=HC.out
     clear HC YM
     go_wp2_with fail
     refine(Q2.out _ B8).mono ?_
     rintro e w9⟨v9,rfl,iL,bG⟩
     have B9:=B8.trans (bG.mono B8.size)
     go_wp2_with fail
     go_ret
     exact⟨rfl,hfin _ B9⟩
 ·go_wp2_with fail
  go_ret
  exact⟨rfl,Below.refl _ _⟩
end Go.Proofs.YtikgblkfmpecfaaGreatDoor
