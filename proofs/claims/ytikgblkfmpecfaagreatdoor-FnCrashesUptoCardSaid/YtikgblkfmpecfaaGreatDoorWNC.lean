/-
  The draws: named terms. Own work.
-/
import Derived.Test.YtikgblkfmpecfaaGreatDoorWNB
import Derived.Test.YtikgblkfmpecfaaGreatDoorWL
import Derived.Test.YtikgblkfmpecfaaGreatDoorWLW
import Derived.Deep.CutBlock
import Derived.Deep.DeepCutAuto
set_option linter.all false
set_option maxRecDepth 100000
set_option maxHeartbeats 8000000
namespace Go.Proofs.YtikgblkfmpecfaaGreatDoor
open Go.RowKit
theorem bP.cur {bc B:Nat} {w w':World} {v:Value} {xs:List (Df×Value)} (h:bP w B v xs) (hE:ah (λk=>k=bc) w w') (hB:bc<B):bP w' B v xs:=by
 have key:∀{e sz:Nat} {u:Value} {n:Nat} {cs:List Value},w.ownsRow B e sz u n cs->w'.ownsRow B e sz u n cs:=λho=>gV hE ho λj hj e=>by
  have:=(World.ownsRow.lt ho j hj).1;have:j=bc:=e;omega
 exact⟨key h.1,λx hx=>key (h.2.1 x hx),h.2.2⟩
theorem aeV {L:List Df} (h:good L=true) (ns:List Nd):Sm ((aS (aO L) ns).getD (0,0)):=by
 unfold good at h;simp only[Bool.and_eq_true]at h;cases ht:aS (aO L) ns with
 | none=>simp[Sm]
 | some x=>exact WE (λn x hk hx=>Ja (vJ h.2) ((Jj (FD h.2) n hk).trans hx)) ht
theorem aeW {bc m k B n:Nat} {w w3:World} {a:Option Addr} {c:Nat} {ns:List Nd} (hbz:bc<w.heap.size) (hE:ah (λk=>k=bc) (w.alloc (.cells #[.slice none 0 0] 27)) w3) (hc:aW bc m w3) (ho:au w3 B (.slice a n c) ns) (hB:w.heap.size<B) (hd:Dn k ns) :
  jv bc m k w w3.heap.size (w3.alloc (.cells #[.slice a n c] 27)) (.slice a n c) ns:=by
 have hs:=hE.size;simp only[World.size_alloc]at hs;have hz:w.heap.size<w3.heap.size:=by omega
 have hne:¬w.heap.size=bc:=by omega
 have q0:w3.cell? ⟨w.heap.size,0,none⟩=some (.slice none 0 0):=(hE.cell.1 _ _ (by simp) hne).trans (by simp[go_sem]);have qf:w3.frozen? ⟨w.heap.size,0,none⟩=false:=(hE.cell.2 _ _ (by simp) hne).trans (by simp[go_sem]);refine⟨by go_simp,by go_simp,hz,by go_simp,by go_simp,au.mono (by omega) (au.keep (aj _ _) ho),λj hj e=>?_,hd,hc.keep (aj _ _),?_⟩
 ·have:=(World.ownsRow.lt ho j hj).2;omega
 ·exact((((ah.refl (λk=>k=bc) w).below (aj w _)).trans hE).below (aj _ _))
theorem Y_ (v vb:Value) (L:List Df) (ns:List Nd) (w:World) (hv:aG w v L) (hg:good L=true) (hvb:aZ w vb ns) (hok:kL ns) :
  Calls Tryz.prog 75 #[v,.agg #[vb]] w λe w'=>∃(P Q:Int) (R:Bool),e=.returned (.tuple #[.int .i64 P,.int .i64 Q,.bool R])/\0<=Q/\Q<=12/\Below w.heap.size w w':=by
 have hs:=aeV hg ns;have hg2:=hg;unfold good at hg2;simp only[Bool.and_eq_true,decide_eq_true_eq]at hg2;refine(Kv v vb L ns w hv (by omega) (vJ hg2.2) hvb hok).mono ?_;rintro e w'⟨rfl,hb⟩;obtain⟨_,_,s1,s2⟩:=hs;exact⟨_,_,_,rfl,s1,s2,hb⟩
theorem RI {W:World} {B:Nat} {g n lc:Nat} {xs:List (Df×Value)} (h:bP W B (.slice (some ⟨g,0,none⟩) n lc) xs) (q:Nat) (hq:q<xs.length) :
  W.cell? ⟨g,q*4,none⟩=some (.string xs[q].1.name)/\W.cell? ⟨g,q*4+1,none⟩=some (.int .i64 xs[q].1.inn)/\W.cell? ⟨g,q*4+2,none⟩=some (.int .i64 xs[q].1.out)/\∃a c,W.cell? ⟨g,q*4+3,none⟩=some (.slice a xs[q].1.body.length c):=by
 obtain⟨a,cap,e,hc,hat⟩:=h.at
 obtain⟨b,o,e2,hq2,c0,c1,c2,vb,c3,hvb⟩:=hat q (by simpa using hq);simp only[Value.slice.injEq]at e;rw[<-e.1]at e2;simp only[Option.some.injEq,Addr.mk.injEq,and_true]at e2;obtain⟨rfl,rfl⟩:=e2;simp only[List.getElem_map]at c0 c1 c2 hvb;obtain⟨a3,c3',rfl⟩:=hvb.slice;rw[Nat.zero_add]at c0 c1 c2 c3;exact⟨c0,c1,c2,a3,c3',c3⟩
theorem aeX {w5 w6:World} {nm:ByteArray} {di dO:Int} {u:Value} (hb:Below (w5.alloc (.cells #[.string nm,.int .i64 di,.int .i64 dO,u] 101)).heap.size (w5.alloc (.cells #[.string nm,.int .i64 di,.int .i64 dO,u] 101)) w6) :
  w6.cell? ⟨w5.heap.size,0,none⟩=some (.string nm)/\w6.cell? ⟨w5.heap.size,1,none⟩=some (.int .i64 di)/\w6.cell? ⟨w5.heap.size,2,none⟩=some (.int .i64 dO) :=
 ⟨(hb.cell (p:=⟨w5.heap.size,0,none⟩) (by simp)).trans (by simp[go_sem]),(hb.cell (p:=⟨w5.heap.size,1,none⟩) (by simp)).trans (by simp[go_sem]),(hb.cell (p:=⟨w5.heap.size,2,none⟩) (by simp)).trans (by simp[go_sem])⟩
def NmP (bc m:Nat) (w:World) (e:Ending) (w':World):Prop:=∃v' ns,e=.returned (.agg #[v'])/\Dn 250 ns/\au w' (w.heap.size+1) v' ns/\aW bc m w'/\ah (λk=>k=bc) w w'
theorem aeY (bc m:Nat) (p i o:Int) (lv:Value) (xs:List (Df×Value)) (w:World) (h:aW bc m w) (hm:m+1000<=1099511627776) (hp:1<p) (hp2:p<=97) (hi0:0<=i) (hi:i<=12) (ho0:0<=o) (ho:o<=12)
  (hl:bP w (bc+1) lv xs) (hg:good (xs.map Prod.fst)=true) (hn:xs.length<=12) :
  Calls Tryz.prog 37 #[.pointer (some ⟨bc,0,none⟩),.int .i64 p,lv,.int .i64 i,.int .i64 o] w (NmP bc (m+1000) w):=by
 have hbz:=h.lt;obtain⟨la,lc,rfl⟩:=hl.shape xs.length rfl;go_enter Tryz.func37,Tryz.ntmps37;have h1:aW bc m (w.alloc (.cells #[.slice none 0 0] 27)):=h.keep (aj _ _);go_upto_block 0 with(first
  |(go_at_call 73;refine(Ro bc (m+2) p i x 2 false _ hc2 (by omega) hp hp2 hi0 hi x0 (by omega) (by omega) (by omega)).mono ?_;rintro e w3⟨v3,ns3,rfl,hd3,ho3,hc3,hx3⟩;obtain⟨a3,c3,rfl⟩:=ho3.slice;have hst:=aeW hbz (hx2.trans hx3) hc3 ho3 (by have:=hx2.size;simp only[World.size_alloc]at this;omega) hd3)
  |(go_at_call 38;refine(pick_any bc _ 4 _ hst.cur (by omega) (by omega)).mono ?_;rintro e w4⟨k,rfl,k0,k1,k2,hc4,hx4⟩;have qC:=hst.cur' hx4 hbz hc4;have k4:k<=3:=by omega)
  |(go_at_call 38;refine(pick_any bc m 4 _ h1 (by omega) (by omega)).mono ?_;rintro e w2⟨x,rfl,x0,x1,x2,hc2,hx2⟩))
 have Rq:=hst.lt;obtain⟨b13,BX⟩:∃b13,b13=w3.heap.size:=⟨_,rfl⟩
 rw[<-BX]at qC Rq;rw[<-BX];clear hst hx4 hx3 hx2 ho3 BX k2 k1 hc2 hc3 hc4 h1 x0 x1 x2 hd3;go_cut [12] (λs12 wx=>∃v ns,jv bc (m+240) 130 w b13 wx v ns)
 case first =>
  go_wp2_with fail
  go_loopw [12] (λkv wr=>∃(k:Int) (j:Nat) (v:Value) (ns:List Nd),kv=.int .i64 k/\0<=k/\k+j<=3/\jv bc (m+204+4*j) (100+6*j) w b13 wr v ns) (λkv _=>(intOf kv).toNat)
  case atStart=>exact⟨k,0,_,_,rfl,k0,by omega,by simpa using qC⟩
  case round =>
   clear qC k0 k4
   obtain⟨k,j,v,ns,rfl,hk0,hkj,hst⟩:=hrel
   by_cases hk:0<k
   ·by_cases hxe:xs.length=0
    ·go_wp2_with fail
     go_meet
     case rel=>exact⟨v,ns,hst.mono (by omega) (by omega)⟩
    ·have hlr:=hl.cur hst.ex (by omega)
     obtain⟨g,Za,e,hcap,_,hgB,hgz⟩:=Ad hlr.1 (by omega)
     simp only[Value.slice.injEq]at e
     obtain⟨rfl,_,rfl⟩:=e
     have hpick:=(pick_any bc _ xs.length _ hst.cur (by omega) (by omega)).mono (R':=λe w5=>∃q:Nat,∃hq:q<xs.length,∃(nm:ByteArray) (di dO:Int) (ba:Option Addr) (bn Ho:Nat),e=.returned (.int .i64 (q:Int))/\nm.size<=8/\0<=di/\di<=12/\0<=dO/\dO<=12 /\
       w5.cell? ⟨g,q*4,none⟩=some (.string nm)/\w5.cell? ⟨g,q*4+1,none⟩=some (.int .i64 di)/\w5.cell? ⟨g,q*4+2,none⟩=some (.int .i64 dO)/\w5.cell? ⟨g,q*4+3,none⟩=some (.slice ba bn Ho)/\aW bc (m+204+4*j+2) w5/\ah (λk=>k=bc) wr w5) (by
      rintro e w5⟨y,rfl,y0,y1,y2,hc5,hx5⟩;obtain⟨q,rfl⟩:=Int.eq_ofNat_of_zero_le y0;have hq:q<xs.length:=by omega
      obtain⟨d0,d1,d2,ba,Ho,d3⟩:=RI (hlr.cur hx5 (by omega)) q hq;have hg2:=hg;unfold good at hg2;simp only[Bool.and_eq_true,decide_eq_true_eq]at hg2;have hmem:xs[q].1∈xs.map Prod.fst:=List.mem_map_of_mem (List.getElem_mem _);obtain⟨s1,s2,s3,s4⟩:=vJ hg2.2 _ hmem;exact⟨q,hq,_,_,_,ba,_,Ho,rfl,qV (wB hg _ hmem),s1,s2,s3,s4,d0,d1,d2,d3,hc5,hx5⟩)
     go_wp2_with (first
      |(go_at_call 38;refine(pick_any bc _ (Q-di+1) _ gW.cur (by omega) (by omega)).mono ?_;rintro e w7⟨at_,rfl,t0,t1,t2,xH,hx7⟩;have Cb:=gW.cur' hx7 hbz xH;have hnb:¬w5.heap.size=bc:=(by have:=cell_lt hst5.r0;omega);have p07:=(hx7.cell.1 _ _ (cell_lt p0) hnb).trans p0;have Zb:=(hx7.cell.1 _ _ (cell_lt p1) hnb).trans p1)
      |(go_at_call 38;refine hpick.mono ?_;rintro e w5⟨q,hq,nm,di,dO,ba,bn,Ho,rfl,nm8,di0,di1,dO0,dO1,d0,d1,d2,d3,hc5,hx5⟩;have hst5:=hst.cur' hx5 hbz hc5;have hl5:=hlr.cur hx5 (by omega);obtain⟨av,cv,rfl⟩:=hst5.own.slice;have y0:=hst5.t0;have yz:=cell_lt y0;have hok:=hst5.dn.ok (by omega);have hba:=aj w5 (.cells #[.string nm,.int .i64 di,.int .i64 dO,.slice ba bn Ho] 101))
      |(go_at_call 75;refine(Y_ _ _ (xs.map Prod.fst) ns _ (hl5.keep hba).at hg (au.keep hba hst5.own).at hok).mono ?_;rintro e w6⟨P,Q,R,rfl,Q0,Q1,hb6⟩;have gW:=(hst5.keep hba hbz).keep hb6 hbz;obtain⟨p0,p1,p2⟩:=aeX hb6))
     rotate_left
     all_goals try(refine⟨⟨k-1,j+1,_,ns,rfl,by omega,by omega,gW.mono (by omega) (by omega)⟩,by simp[intOf];omega⟩)
     obtain⟨W8,qj⟩:∃W8,W8=(w7.alloc (.cells #[.int .i64 17,.int .i64 0,.string nm] 87)).alloc (.cells #[.slice (some ⟨w7.heap.size,0,none⟩) 1 1] 27):=⟨_,rfl⟩
     have Zc:Below w7.heap.size w7 W8:=by rw[qj];exact((Below.refl _ _).alloc (Nat.le_refl _) _).alloc (by simp) _
     have ji:=Cb.keep Zc hbz
     have Zd:au W8 w7.heap.size (.slice (some ⟨w7.heap.size,0,none⟩) 1 1) [⟨17,0,nm⟩]:=by
      rw[qj];exact au.keep (aj _ _) (World.ownsRow_lit (base:=w7.heap.size) (size:=3) (e:=87) w7 #[.int .i64 17,.int .i64 0,.string nm] 1 (Nat.le_refl _) (by unfold maxLen;omega) rfl)
     have q18:W8.cell? ⟨w7.heap.size+1,0,none⟩=some (.slice (some ⟨w7.heap.size,0,none⟩) 1 1):=by rw[qj];simp[go_sem]
     have p18:=ak Zc Zb
     have z18:=cell_lt q18
     have ahO:=cell_lt p18
     have g13:=ji.t0
     have ahP:=cell_lt g13
     have hQd:0<=at_/\at_<=Q-di:=by omega
     have ahQ:b13<w7.heap.size:=cell_lt Cb.t0
     have hsw:w.heap.size<w7.heap.size:=by have:=Cb.lt;omega
     rw[<-qj]
     clear qj hpick y0 yz hst hst5 gW hx5 hx7 d0 d1 d2 d3 p0 p1 p2 p07 Zb hb6 hba hlr hl5 hok hc5 xH
     refine rV (C:=ah (aQ) _) 12 [0,1,2,3,4,5,6,7,8,9,10] [11] (by kernel_rfl) (by kernel_rfl) (ah.grows _ _) (ah.refl _ _) ?_
     iterate 9 (apply ay rfl rfl rfl;(focus intro u hc' hf';go_simp<;>rfl);intro K hK;go_simp;apply hK;clear hK K)
     have Lu:∀w9,ah aQ W8.drew w9->Below W8.heap.size W8 w9:=λw9 hb=>((Below.refl _ _).drew).trans (hb.toBelow.mono (by simp))
     refine aX rfl rfl rfl (ah.grows _ _) (ah.refl _ _) 77 (λK hK=>?_);apply Exists.intro;refine⟨λw' hw'=>?_,λw9 eu ng=>?_⟩;(focus go_simp;rfl);refine(Q8 _ _ _ _ _ (au.keep (Lu _ eu) Zd).at (by simp)).mono ?_;rintro e w10⟨v10,rfl,RJ,sH,bf⟩;refine⟨_,rfl,bf,λhx=>?_⟩;go_simp;apply hK;clear hK K
     have xY:=Rl (au.keep (Lu _ eu) Zd) bf (by have:=(Lu _ eu).size;omega) RJ sH
     have B_:Dn 5 (jS at_ [⟨17,0,nm⟩] (Q-di-at_)):=Dn.lay _ _ (by omega) (by omega) (Dn.leaf (.inl ⟨rfl,nm8⟩) nm8)
     have e1:IntKind.i64.wrap (Q-di)=Q-di:=IntWalk.i64_in _ (by omega)
     have e2:IntKind.i64.wrap (Q-di-at_)=Q-di-at_:=IntWalk.i64_in _ (by omega)
     obtain⟨ys,hys⟩:∃ys,ys=jS at_ [⟨17,0,nm⟩] (Q-di-at_):=⟨_,rfl⟩
     rw[e1,e2,<-hys]at xY RJ sH
     rw[<-hys]at B_
     have ahR:ys.length<=5:=by obtain⟨_,_,_,h,_⟩:=B_;exact h
     have ahS:ns.length<=118:=by obtain⟨_,_,_,h,_⟩:=ji.dn;omega
     obtain⟨a10,c10,rfl⟩:=xY.slice
     clear hys RJ sH e1 e2
     have lD:=(ji.keep (Lu _ eu) hbz).keep bf hbz
     refine aX rfl rfl rfl (ah.grows _ _) (hx) 76 (λK hK=>?_);apply Exists.intro;refine⟨λw' hw'=>?_,λiE zM Hr=>?_⟩;(focus go_simp;rfl);refine(Q5 _ _ ns ys _ (lD.keep Hr hbz).own.at (au.keep Hr xY).at (by omega) (by omega)).mono ?_;rintro e w12⟨v12,rfl,xA,RN⟩;refine⟨_,rfl,RN,λhx=>?_⟩;go_simp;apply hK;clear hK K
     have EI:=(lD.keep Hr hbz).keep RN hbz
     have ahT:=cell_lt (lD.keep Hr hbz).t0
     have ahU:=(lD.keep Hr hbz).lt
     have dz:=(Dn.bin 15 (.inl rfl) ji.dn B_).mono (k':=100+6*(j+1)) (by omega)
     obtain⟨zs,hzs⟩:∃zs,zs=ns++ys++[(⟨15,0,ByteArray.empty⟩:Nd)]:=⟨_,rfl⟩
     rw[<-hzs]at xA dz
     clear hzs
     have aeZ:∀q,v12.ownBlock=some q->q≠b13:=λq hq=>by have:=(World.ownsRow.lt xA q hq).1;omega
     obtain⟨a12,c12,rfl⟩:=xA.slice
     refine aK ?_
     refine⟨ah (λj=>j=b13) w12,w12.heap.size,ah.grows _ _,ah.refl _ _,?_⟩
     refine eH rfl rfl rfl (ah.grows _ _) (ah.refl _ _) (λK hK=>?_)
     intro w13 ae0 Ze
     have RP:=EI.keep Ze hbz
     have g0:=RP.t0
     have gf:=RP.tf
     have gz:=cell_lt EI.t0
     refine⟨w13.setCell ⟨b13,0,none⟩ (.slice a12 zs.length c12),?_,⟨aB ae0 (.inr rfl) _,by simp,λq hq _ _=>Below.heap_setCell _ _ _ _ (λhh=>by have:q=b13:=hh;omega)⟩,?_⟩
     ·go_simp
     go_simp
     refine hK _ _ _ ?_
     clear hK K
     refine aK ?_
     have ae1:=RP.set hbz (au.mono (by omega) (au.keep Ze xA)) aeZ dz
     go_wp2
     exact⟨⟨k-1,j+1,_,zs,rfl,by omega,by omega,ae1.mono (by omega) (by omega)⟩,by simp[intOf];omega⟩
   ·go_wp2_with fail
    go_meet
    case rel=>exact⟨v,ns,hst.mono (by omega) (by omega)⟩
 case rest =>
  obtain⟨v,ns,hst⟩:=hcut
  obtain⟨av,cv,rfl⟩:=hst.own.slice
  have y0:=hst.t0
  have yz:=cell_lt y0
  have hlr:=hl.cur hst.ex (by omega)
  have hok:=hst.dn.ok (by omega)
  clear qC k0 k4
  go_wp2_with (go_at_call 75;refine(Y_ _ _ (xs.map Prod.fst) ns _ hlr.at hg hst.own.at hok).mono ?_;rintro e w5⟨P,Q,R,rfl,Q0,Q1,hb5⟩)
  have iQ:=hst.keep hb5 hbz
  clear y0 yz hst hlr hb5
  have y0:=iQ.t0
  have yz:=cell_lt y0
  have hs5:=iQ.ex.size
  have hlt:=iQ.lt
  have Y5:¬b13=bc:=by omega
  obtain⟨_,dl,dc⟩:=iQ.dn.one
  have dln:ns.length<=130:=by obtain⟨_,_,_,h,_⟩:=iQ.dn;exact h
  have xZ:∀w7,Below w5.drew.heap.size w5.drew w7->Below w5.heap.size w5 w7:=λw7 hb=>((Below.refl _ _).drew).trans (hb.mono (by simp))
  refine rV (C:=ah (λk=>k=bc) _) 12 [0,1,2,3,4,5,6] [7] (by kernel_rfl) (by kernel_rfl) (ah.grows _ _) (ah.refl _ _) ?_
  iterate 5 (apply fF rfl rfl rfl;(focus intro u hc' hf';(try simp only[World.size_drew]at hc' hf');go_simp<;>rfl);intro K hK;go_simp;apply hK;clear hK K)
  refine Eu rfl rfl rfl (ah.refl _ _) 73 (λk hk=>by have:k=bc:=hk;simp;omega) (λK hK=>?_);apply Exists.intro;refine⟨λw' hw'=>?_,λw7 hw7 jw=>?_⟩;(focus go_simp;rfl);refine(Ro bc _ p Q o 1 false _ (iQ.keep (xZ _ jw) hbz).cur (by omega) hp hp2 Q0 Q1 ho0 ho (by omega) (by omega)).mono ?_;rintro e w8⟨v8,ms,rfl,hd8,lZ,hc8,o_⟩;refine⟨_,rfl,o_,λhx=>?_⟩;go_simp;apply hK;clear hK K
  obtain⟨a8,c8,rfl⟩:=lZ.slice
  have ji:=(iQ.keep (xZ _ jw) hbz).cur' o_ hbz hc8
  have dlm:ms.length<=100:=by obtain⟨_,_,_,h,_⟩:=hd8;exact h
  refine aX rfl rfl rfl (ah.grows _ _) (hx) 76 (λK hK=>?_);apply Exists.intro;refine⟨λw' hw'=>?_,λw9 eu ng=>?_⟩;(focus go_simp;rfl);refine(Q5 _ _ ns ms _ (ji.keep ng hbz).own.at (au.keep ng lZ).at (by omega) (by omega)).mono ?_;rintro e w10⟨v10,rfl,sH,bf⟩;refine⟨_,rfl,bf,λhx=>?_⟩;go_simp;apply hK;clear hK K
  have lD:=(ji.keep ng hbz).keep bf hbz
  have hs9:w.heap.size+1<=w9.heap.size:=by have:=cell_lt (ji.keep ng hbz).r0;omega
  have dz:=Dn.bin 15 (.inl rfl) iQ.dn hd8
  obtain⟨zs,hzs⟩:∃zs,zs=ns++ms++[(⟨15,0,ByteArray.empty⟩:Nd)]:=⟨_,rfl⟩
  rw[<-hzs]at sH dz
  clear hzs
  obtain⟨a10,c10,rfl⟩:=sH.slice
  refine aK ?_
  refine⟨ah (λj=>j=w.heap.size) w10,w10.heap.size,ah.grows _ _,ah.refl _ _,?_⟩
  refine eH rfl rfl rfl (ah.grows _ _) (ah.refl _ _) (λK hK=>?_)
  intro iE zM ku
  have sJ:=lD.keep ku hbz
  have g0:=sJ.r0
  have gf:=sJ.rf
  have gz:=cell_lt lD.r0
  have gz1:=cell_lt g0
  refine⟨iE.setCell ⟨w.heap.size,0,none⟩ (.slice a10 zs.length c10),?_,⟨aB zM (.inr rfl) _,by simp,λq hq _ _=>Below.heap_setCell _ _ _ _ (λhh=>by have:q=w.heap.size:=hh;omega)⟩,?_⟩
  ·go_simp
  go_simp
  refine hK _ _ _ ?_
  clear hK K
  refine aK ?_
  go_wp2
  have i_:(iE.setCell ⟨w.heap.size,0,none⟩ (.slice a10 zs.length c10)).cell? ⟨w.heap.size,0,none⟩=some (.slice a10 zs.length c10):=by go_simp
  have hS:ah (λk=>k=w.heap.size) iE (iE.setCell ⟨w.heap.size,0,none⟩ (.slice a10 zs.length c10)):=aB (a:=⟨w.heap.size,0,none⟩) (ah.refl (λk=>k=w.heap.size) _) (.inr rfl) _
  refine bodyPost_ret (v:=.agg #[.slice a10 zs.length c10]) (by simp[results,Tryz.results37,go_sem,i_]) rfl ⟨_,zs,rfl,dz.mono (by omega),au.bY (au.mono hs9 (au.keep ku sH)) (by show w.heap.size<_;omega) _,(sJ.cur.mono (by omega)).exc (T:=λk=>k=w.heap.size) hS (λk hk=>by omega),aB sJ.ex (.inl (Nat.le_refl _)) _⟩
end Go.Proofs.YtikgblkfmpecfaaGreatDoor
