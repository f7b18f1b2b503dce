import Derived.Test.YtkhpobekconobaaGreatHBR
import Derived.Test.YtkhpobekconobaaGreatRows
import Derived.Deep.Slices
import Derived.Deep.Strs
import Derived.OpenShut
import Derived.ReadAgain
import Derived.JoinedCond
set_option linter.all false
set_option maxRecDepth 100000
set_option maxHeartbeats 0
namespace Go.Proofs.YtkhpobekconobaaGreat
open Go.RowKit
def auZ (a b:Nc) (w:World) (e:Ending) (w':World):Prop:=e=.returned (.bool (decide (a=b)))/\Below w.heap.size w w'
theorem amW (vl vr ul ur:Value) (a b:Nc) (w:World) (h1:dG w vl a.left) (h2:dG w vr a.right) (h3:dG w ul b.left) (h4:dG w ur b.right)
  (n1:a.left.length<=1048576) (n2:a.right.length<=1048576) (n3:b.left.length<=1048576) (n4:b.right.length<=1048576) :
  Calls Tryz.prog 39 #[.agg #[.string a.name,vl,vr],.agg #[.string b.name,ul,ur]] w (auZ a b w):=by
 obtain⟨p1,c1,rfl⟩:=h1.slice;obtain⟨p2,c2,rfl⟩:=h2.slice;obtain⟨p3,c3,rfl⟩:=h3.slice;obtain⟨p4,c4,rfl⟩:=h4.slice;have hB:∀o o',Below w.heap.size w ((w.alloc o).alloc o'):=λo o'=>((Zl _ _).alloc (Zj _) _).alloc (by simp) _;by_cases hn:a.name=b.name
 ·obtain⟨nm,x,x'⟩:=a;obtain⟨nm',y,y'⟩:=b;simp only at hn h1 h2 h3 h4 n1 n2 n3 n4;subst hn;by_cases hl:x=y
  ·subst hl;by_cases hr:x'=y'
   ·subst hr;go_enter Tryz.func39,Tryz.ntmps39;go_wp2_with fail
    refine(aae _ _ x x _ (h1.keep (hB _ _)) (h3.keep (hB _ _)) n1 n3).mono ?_;rintro e w2⟨rfl,hb2⟩;rw[show decide (x=x)=true by simp];obtain⟨hc2,hf2,hs2⟩:=n_ hb2;have fM:=(hB _ _).trans (hb2.mono (by simp;omega));go_wp2_with fail
    refine(aae _ _ x' x' _ (h2.keep fM) (h4.keep fM) n2 n4).mono ?_;rintro e w3⟨rfl,hb3⟩;rw[show decide (x'=x')=true by simp];go_wp2;go_ret;exact⟨by simp,fM.trans (hb3.mono fM.size)⟩
   ·go_enter Tryz.func39,Tryz.ntmps39;go_wp2_with fail
    refine(aae _ _ x x _ (h1.keep (hB _ _)) (h3.keep (hB _ _)) n1 n3).mono ?_;rintro e w2⟨rfl,hb2⟩;rw[show decide (x=x)=true by simp];obtain⟨hc2,hf2,hs2⟩:=n_ hb2;have fM:=(hB _ _).trans (hb2.mono (by simp;omega));have he:decide (x'=y')=false:=by simp[hr]
    have HR:=Za hr;clear hr;go_wp2_with fail
    refine(aae _ _ x' y' _ (h2.keep fM) (h4.keep fM) n2 n4).mono ?_;rintro e w3⟨rfl,hb3⟩;rw[he];go_wp2;go_ret;exact⟨by have:=HR.out;simp[this],fM.trans (hb3.mono fM.size)⟩
  ·have he:decide (x=y)=false:=by simp[hl]
   have HR:=Za hl;clear hl;go_enter Tryz.func39,Tryz.ntmps39;go_wp2_with fail
   refine(aae _ _ x y _ (h1.keep (hB _ _)) (h3.keep (hB _ _)) n1 n3).mono ?_;rintro e w2⟨rfl,hb2⟩;rw[he];go_wp2;go_ret;exact⟨by have:=HR.out;simp[this],(hB _ _).trans (hb2.mono (by simp;omega))⟩
 ·go_enter Tryz.func39,Tryz.ntmps39;have hne:(!a.name.toList==b.name.toList)=true:=by
   rw[JE];simp[hn]
  go_wp2;go_ret;have hab:¬a=b:=λh=>hn (by rw[h]);exact⟨by simp[hab],hB _ _⟩
theorem au0 (v v':Value) (a b:List Nc) (w:World) (hv:aei w v a) (hv':aei w v' b) (hn:a.length<=1048576) (JF:b.length<=1048576) (hm:∀d∈a,d.left.length<=1048576/\d.right.length<=1048576) (Nk:∀d∈b,d.left.length<=1048576/\d.right.length<=1048576) :
  Calls Tryz.prog 14 #[v,v'] w λe w'=>e=.returned (.bool (decide (a=b)))/\Below w.heap.size w w':=by
 obtain⟨p,cap,rfl,hc,hat⟩:=hv;obtain⟨p',cap',rfl,hc',hat'⟩:=hv';by_cases hl:a.length=b.length
 ·have iH:((a.length:Int) != b.length)=false:=by simp[hl]
  go_enter Tryz.func14,Tryz.ntmps14;have HL:=Za hl;clear hl;go_wp2;go_loopw [5] (λi wr=>∃k:Nat,k<=a.length/\i=.int .i64 k/\yH a b k/\Below w.heap.size w wr) (λi _=>a.length-(intOf i).toNat)
  case atStart=>exact⟨0,Zw _,rfl,yH.zero _ _,Zl _ _⟩
  case round =>
   obtain⟨k,hk,rfl,ht,aI⟩:=hrel;by_cases hlt:k<a.length
   ·have OW:k<b.length:=by have:=HL.out;omega
    obtain⟨g,o,rfl,_,dI⟩:=hat k hlt;obtain⟨g',o',rfl,_,Il⟩:=hat' k OW;obtain⟨c0,⟨v1,c1,CQ⟩,v3,c2,hv3⟩:=dI.keep aI;obtain⟨d0,⟨v2,d1,hv2⟩,v4,d2,hv4⟩:=Il.keep aI;obtain⟨p1,cap1,rfl⟩:=CQ.slice;obtain⟨p2,cap2,rfl⟩:=hv2.slice;obtain⟨p3,cap3,rfl⟩:=hv3.slice;obtain⟨p4,cap4,rfl⟩:=hv4.slice;obtain⟨m1,m3⟩:=hm a[k] (Zp _);obtain⟨m2,m4⟩:=Nk b[k] (Zp _);clear hat dI hat' Il hm Nk;by_cases he:a[k]=b[k]
    ·have RP:decide (a[k]=b[k])=true:=by simp[he]
     have HE:=Za he;clear he;go_wp2_with fail
     go_still_tail 8,(by kernel_rfl)
     go_wp2_with (go_at_call 39;refine(amW _ _ _ _ a[k] b[k] wr.drew CQ hv3 hv2 hv4 m1 m3 m2 m4).mono ?_;rintro e w2⟨rfl,hb2⟩)
     have hs:=aI.drew.size;go_roundw
     case rel=>exact⟨k+1,by omega,by go_num,ht.step hlt OW HE.out,aI.drew.trans (hb2.mono (by omega))⟩
     case measure=>simp[intOf];omega
    ·have RP:decide (a[k]=b[k])=false:=by simp[he]
     go_wp2_with fail
     go_still_tail 8,(by kernel_rfl)
     go_wp2_with (go_at_call 39;refine(amW _ _ _ _ a[k] b[k] wr.drew CQ hv3 hv2 hv4 m1 m3 m2 m4).mono ?_;rintro e w2⟨rfl,hb2⟩)
     have hs:=aI.drew.size;go_ret;exact⟨MG (ht.no hlt OW he),aI.drew.trans (hb2.mono (by omega))⟩
   ·go_wp2;go_ret;exact⟨abJ (ht.done (by omega) (by have:=HL.out;omega)),aI⟩
 ·have iH:((a.length:Int) != b.length)=true:=by simp;omega
  go_enter Tryz.func14,Tryz.ntmps14;go_wp2;go_ret;exact⟨MG λh=>hl (by rw[h]),Zl _ _⟩
def agM (r:dP):Nc:=⟨r.name,r.left,r.right⟩
theorem qQ.rus {w:World} {v:Value} {rs:List dP} (h:qQ w v rs):aei w v (rs.map agM):=by
 obtain⟨a,c,e,h1,h2⟩:=h;refine⟨a,c,by rw[ZG];exact e,by rw[ZG];exact h1,λi hi=>?_⟩;obtain⟨b,o,e1,hi1,g1,vl,vr,g2,g3,g4,g5⟩:=h2 i (by rw[ZG]at hi;exact hi);exact⟨b,o,e1,hi,by rw[YN];exact⟨g1,⟨vl,g2,g4⟩,vr,g3,g5⟩⟩
theorem au1 (v v':Value) (rs:List dP) (w:World) (h:qQ w v rs) (h':qQ w v' rs) (hn:rs.length<=1048576) (hz:∀r∈rs,uj r) :
  Calls Tryz.prog 14 #[v,v'] w (nH true w):=by
 have hb:∀d∈rs.map agM,d.left.length<=1048576/\d.right.length<=1048576:=λd hd=>by
  obtain⟨r,hr,rfl⟩:=ZM.1 hd;exact⟨(hz r hr).zl.2,(hz r hr).zr.2⟩
 have hl:(rs.map agM).length<=1048576:=by rw[ZG];exact hn
 refine(au0 v v' _ _ w h.rus h'.rus hl hl hb hb).mono ?_;rintro e w'⟨rfl,hb⟩;exact⟨by simp,hb⟩
def au2 (g:aF) (w:World) (e:Ending) (w':World):Prop:=∃ve vi vo,e=.returned (.agg #[.int .i64 g.aB,ve,vi,vo])/\dB w' w.heap.size ve vi vo g/\Below w.heap.size w w'
theorem au3 (g:aF) (rs:List dP) (ve vi vo v:Value) (w:World) (h:dM w ve vi vo g) (aP:nJ g) (hR:qQ w v rs) (hz:∀r∈rs,uj r) (hn:rs.length<=1048576) :
  Calls Tryz.prog 3 #[.agg #[.int .i64 g.aB,ve,vi,vo],v] w λr w'=>r=.returned (.bool true)/\Below w.heap.size w w':=by
 have PX:=Za (λ(u:World) (hu:Below w.heap.size w u)=>apN g.aB ve vi vo g 1048576 u (h.keep hu) aP (by omega) (by omega));have HSR:=Za (λ(u:World) (hu:Below w.heap.size w u) (l:Int) (a:0<=l) (b:l<=1048576)=>asT v rs l u (hR.keep hu) hz hn a b);have HTO:=Za (λ(u:World) (hu:Below w.heap.size w u)=>(anX g ve vi vo u (h.keep hu) aP).mono (R':=au2 g u) λ_ _ hq=>hq);have HTR:=Za (λ(u:World) (hu:Below w.heap.size w u)=>auY v rs u (hR.keep hu) hn hz (λr hr=>⟨(hz r hr).zl.2,(hz r hr).zr.2⟩));have hS:=λ(u:World) (ve vi vo v:Value) (hG:dM u ve vi vo g) (hV:qQ u v rs)=>atw g rs ve vi vo v u hG aP hV hz hn;have hI:=λ(u:World) (ve vi vo v:Value) (hG:dM u ve vi vo g) (hV:qQ u v rs)=>auT g rs ve vi vo v u hG aP hV hz hn;generalize(xK g rs&&abw g rs)=x at hS hI;generalize xK g rs=ok at hS hI;have HS:=Za hS;have HI:=Za hI;have HE:=Za (λ(u:World) (ve vi vo ve' lJ ig:Value) (h1:dM u ve vi vo g) (h2:dM u ve' lJ ig g)=>apQ g.aB ve vi vo ve' lJ ig g u h1 h2 aP);have HER:=Za (λ(u:World) (v v':Value) (h1:qQ u v rs) (h2:qQ u v' rs)=>au1 v v' rs u h1 h2 hn hz);obtain⟨⟨a1,c1,rfl⟩,⟨a2,c2,rfl⟩,a3,c3,rfl⟩:=h.slices;obtain⟨ra,rc,rfl⟩:=hR.slice;have aQ:=aH w (.cells #[.int .i64 g.aB,.slice a1 g.ah.length c1,.slice a2 g.aj.length c2,.slice a3 g.ay.length c3] 25);have kS:=Bk.new w 25 #[.int .i64 g.aB,.slice a1 g.ah.length c1,.slice a2 g.aj.length c2,.slice a3 g.ay.length c3];clear hS hI h aP hR hz hn;have hbn:(ok != ok)=false:=by simp
 have yY:(x != x)=false:=by simp
 go_enter Tryz.func3,Tryz.ntmps3;obtain⟨iS,-,zS⟩:=kS.cell;go_wp2_with fail
 generalize(w.alloc (.cells #[.int .i64 g.aB,.slice a1 g.ah.length c1,.slice a2 g.aj.length c2,.slice a3 g.ay.length c3] 25))=u0 at *;refine(PX.out _ aQ).mono ?_;rintro q w1⟨n1,rfl,jH,au4,hb1⟩;clear iS zS PX;replace kS:=kS.keep hb1;have aS:=aQ.trans (hb1.mono aQ.size);clear hb1 aQ;by_cases Bd:n1<0
 ·go_wp2;go_ret;exact⟨rfl,aS⟩
 go_wp2_with fail
 refine(HSR.out _ aS _ (by omega) (by omega)).mono ?_;rintro q w2⟨n2,rfl,jI,au5,hb2⟩;replace kS:=kS.keep hb2;have aZ:=aS.trans (hb2.mono aS.size);clear hb2 aS HSR Bd jH au4;by_cases Bd:n2<0
 ·go_wp2;go_ret;exact⟨rfl,aZ⟩
 obtain⟨iS,-,zS⟩:=kS.cell;go_wp2_with fail
 refine(HTO.out _ aZ).mono ?_;rintro q w3⟨ve3,vi3,vo3,rfl,hO3,hb3⟩;clear iS zS Bd jI au5;replace kS:=kS.keep hb3;have fU:=aZ.trans (hb3.mono aZ.size);clear hb3 aZ;go_wp2_with fail
 refine(HTR.out _ fU).mono ?_;rintro q w4⟨v4,rfl,hL4,hb4⟩;replace kS:=kS.keep hb4;have dZ:=fU.trans (hb4.mono fU.size);have hG4:=hO3.at.keep hb4;clear hb4 fU hO3;go_wp2_with fail
 refine(HS.out _ _ _ _ _ hG4 hL4).mono ?_;rintro q w5⟨rfl,bH⟩;replace kS:=kS.keep bH;have iV:=dZ.trans (bH.mono dZ.size);clear bH dZ hG4 hL4 HS;obtain⟨iS,-,zS⟩:=kS.cell;go_wp2_with fail
 refine(HTO.out _ iV).mono ?_;rintro q w6⟨ve6,vi6,vo6,rfl,hO6,aV⟩;obtain⟨⟨b1,d1,rfl⟩,⟨b2,d2,rfl⟩,b3,d3,rfl⟩:=hO6.slices;clear iS zS;have gK:=aH w6 (.cells #[.int .i64 g.aB,.slice b1 g.ah.length d1,.slice b2 g.aj.length d2,.slice b3 g.ay.length d3] 33);have k8:=Bk.new w6 33 #[.int .i64 g.aB,.slice b1 g.ah.length d1,.slice b2 g.aj.length d2,.slice b3 g.ay.length d3];have jQ:=aV.trans (gK.mono aV.size);replace kS:=kS.keep jQ;have eY:=iV.trans (jQ.mono iV.size);have RJ:=hO6.at.keep gK;clear gK jQ hO6 aV iV;go_wp2_with fail
 generalize(w6.alloc (.cells #[.int .i64 g.aB,.slice b1 g.ah.length d1,.slice b2 g.aj.length d2,.slice b3 g.ay.length d3] 33))=u6 at *;refine(HTR.out _ eY).mono ?_;rintro q w7⟨v7,rfl,JC,dA⟩;obtain⟨b4,d4,rfl⟩:=JC.slice;replace kS:=kS.keep dA;replace k8:=k8.keep dA;replace RJ:=RJ.keep dA;have iy:=eY.trans (dA.mono eY.size);clear dA eY;obtain⟨i8,-,z8⟩:=k8.cell;go_wp2_with fail
 clear i8 z8;refine(HI.out _ _ _ _ _ RJ JC).mono ?_;rintro q w8⟨rfl,bJ⟩;replace kS:=kS.keep bJ;replace k8:=k8.keep bJ;replace RJ:=RJ.keep bJ;replace JC:=JC.keep bJ;have sU:=iy.trans (bJ.mono iy.size);clear bJ iy HI;obtain⟨iS,-,zS⟩:=kS.cell;obtain⟨iD,-,zD⟩:=k8.cell;go_wp2_with fail
 have up:∀{w':World},aC dD w8.drew w'->Below w8.heap.size w8 w':=λh=>(Zl w8.heap.size w8).drew.trans (h.toBelow.mono (by simp));refine h_ (C:=aC (dD) _) 4 [0,1,2,3,4] (by kernel_rfl) (by kernel_rfl) (aC.aJ _ _) (aC.refl _ _) ?_;iterate 2 (apply dh rfl rfl rfl;(focus intro u hc' hf';go_simp<;>rfl);intro K hK;go_simp;apply hK;clear hK K)
 refine fD rfl rfl rfl (aC.aJ _ _) (aC.refl _ _) 10 (λK hK=>?_);apply Zq;refine⟨λw' hw'=>?_,λwa bT bZ=>?_⟩;(focus go_simp;rfl);refine(HTO.out _ (sU.trans ((up bT).mono sU.size))).mono ?_;rintro e w9⟨ve9,vi9,vo9,rfl,hO9,dX⟩;refine⟨_,rfl,dX,λhx=>?_⟩;go_simp;apply hK;clear hK K;refine fD rfl rfl rfl (aC.aJ _ _) (hx) 13 (λK hK=>?_);apply Zq;refine⟨λw' hw'=>?_,λwb dJ dH=>?_⟩;(focus go_simp;rfl);refine(HE.out _ _ _ _ _ _ _ (RJ.keep (up dJ)) (hO9.at.keep dH)).mono ?_;rintro e w10⟨rfl,abu⟩;refine⟨_,rfl,abu,λhx=>?_⟩;go_simp;apply hK;clear hK K;iterate 1 (apply dh rfl rfl rfl;(focus intro u hc' hf';go_simp<;>rfl);intro K hK;go_simp;apply hK;clear hK K)
 refine dR ?_;have hb:=up hx;clear up iS zS iD zD;have agN:=sU.trans (hb.mono sU.size);replace JC:=JC.keep hb;clear hb sU RJ kS k8;go_wp2_with fail
 refine(HTR.out _ agN).mono ?_;rintro q Uf⟨v11,rfl,au6,ES⟩;have amX:=agN.trans (ES.mono agN.size);go_wp2_with fail
 refine(HER.out _ _ _ (JC.keep ES) au6).mono ?_;rintro q w12⟨rfl,zh⟩;have au7:=amX.trans (zh.mono amX.size);go_wp2;go_ret;exact⟨rfl,au7⟩
end Go.Proofs.YtkhpobekconobaaGreat
namespace Go.Proofs.YtkhpobekconobaaGreat.bulks
theorem one_le {H:Type} (d:DataW H):1<=Rows.uptoBulk d:=by
 cases d with
 | lit l=>cases l<;>simp[Rows.uptoBulk]
 | nil=>simp[Rows.uptoBulk]
 | ptr d=>simp[Rows.uptoBulk]
 | slice elems spare=>simp[Rows.uptoBulk]
 | agg parts=>simp[Rows.uptoBulk]
 | iface t d=>simp[Rows.uptoBulk]
 | map entries=>simp[Rows.uptoBulk]
 | held h=>simp[Rows.uptoBulk]
theorem part_le {H:Type} {d:DataW H} {l:List (DataW H)} (h:d∈l):Rows.uptoBulk d<=Rows.uptoBulkAll l:=by
 induction l with
 | nil=>cases h
 | cons x r ih =>
  simp only[Rows.uptoBulkAll];cases ZU.1 h with
  | inl e=>subst e;omega
  | inr e=>have:=ih e;omega
theorem append {H:Type} (l r:List (DataW H)):Rows.uptoBulkAll (l++r)=Rows.uptoBulkAll l+Rows.uptoBulkAll r:=by
 induction l with
 | nil=>simp[Rows.uptoBulkAll]
 | cons x l ih=>simp only[Xb,Rows.uptoBulkAll,ih];omega
theorem length_le {H:Type} (l:List (DataW H)):l.length<=Rows.uptoBulkAll l:=by
 induction l with
 | nil=>simp[Rows.uptoBulkAll]
 | cons x r ih=>have:=one_le x;simp only[Rows.uptoBulkAll,Yv];omega
theorem slice_le {H:Type} (elems spare:List (DataW H)):elems.length+spare.length+1<=Rows.uptoBulk (.slice elems spare):=by
 have h1:=length_le elems;have h2:=length_le spare;simp only[Rows.uptoBulk];omega
theorem slice_elems {H:Type} (elems spare:List (DataW H)):Rows.uptoBulkAll elems+1<=Rows.uptoBulk (.slice elems spare):=by
 simp only[Rows.uptoBulk];omega
theorem bound {H:Type} {l:List (DataW H)} (hk:Rows.uptoSmall H l=true):Rows.uptoBulkAll l<=1048576:=by
 simpa[Rows.uptoSmall]using hk
end Go.Proofs.YtkhpobekconobaaGreat.bulks
namespace Go.Proofs.YtkhpobekconobaaGreat
open Go.ChangeShapes Go.WideShapes Go.Deep
section
variable {H:Type} {enc:TypeId × Value -> H} {w:World} {base:Nat} {spare:Nat -> Bool} {held:Bool}
theorem au8 {w:World} {base n:Nat} {a:Addr} {cs:List Value} (hn:0<n) (h:w.cells? base (a.add 0) n=some cs):a.spot=none:=by
 obtain⟨_,hlen,hcell⟩:=World.cells?_some h;have g0:=hcell 0 hn;rw[add_add,Zi (by omega)]at g0;simpa[Addr.add]using World.cell?_spot g0
theorem trod_struct4 {P:Program} {t:TypeId} {f0 f1 f2 f3:Field} {fuel:Nat} {cs:List Value} {x:DataW H×List MemPlace} (ht:P.underlying t=some (.struct #[f0,f1,f2,f3])) (h:DataW.trod enc P w base spare held fuel t cs=some x) :
  ∃y0 y1 y2 y3 n,x.1=.agg [y0.1,y1.1,y2.1,y3.1]/\cs.length=P.cellsOf t/\DataW.trod enc P w base spare held n f0.type ((cs.drop f0.offset).take (P.cellsOf f0.type))=some y0 /\
   DataW.trod enc P w base spare held n f1.type ((cs.drop f1.offset).take (P.cellsOf f1.type))=some y1/\DataW.trod enc P w base spare held n f2.type ((cs.drop f2.offset).take (P.cellsOf f2.type))=some y2 /\
   DataW.trod enc P w base spare held n f3.type ((cs.drop f3.offset).take (P.cellsOf f3.type))=some y3:=by
 obtain⟨xs,n,_,rfl,hl,hlen,hf⟩:=DataW.trod_struct ht h;match xs,hlen with
 | [y0,y1,y2,y3],_=>exact⟨y0,y1,y2,y3,n,by simp,hl,by simpa using hf 0 f0 rfl,by simpa using hf 1 f1 rfl,by simpa using hf 2 f2 rfl,by simpa using hf 3 f3 rfl⟩
theorem list4 {cs:List Value} (h:cs.length=4):∃a b c d,cs=[a,b,c,d]:=by
 match cs,h with
 | [a,b,c,d],_=>exact⟨a,b,c,d,rfl⟩
end
section
variable {H:Type} {enc:TypeId × Value -> H} {w:World} {base:Nat} {spare:Nat -> Bool} {held:Bool}
theorem open_list {β:Type} [Inhabited β] {t e sz:Nat} (hu:Tryz.prog.underlying t=some (.slice e)) (hsz:Tryz.prog.cellsOf e=sz) (h0:0<sz) (Rel:β->Nat->Nat->Prop) (Pr:β->Nat->Prop)
  (each:∀{fuel:Nat} {cs:List Value} {x:DataW H×List MemPlace},DataW.trod enc Tryz.prog w base spare held fuel e cs=some x->∃d:β,(∀b o,(∀j,j<sz->w.cell? ⟨b,o+j,none⟩=cs[j]?)->Rel d b o)/\Pr d (Rows.uptoBulk x.1))
  {fuel:Nat} {cs:List Value} {x:DataW H×List MemPlace} (h:DataW.trod enc Tryz.prog w base spare held fuel t cs=some x) :
  ∃(v:Value) (L:List β),cs=[v]/\(nD sz v L.length λi b o=>∃h:i<L.length,Rel L[i] b o)/\(∀d∈L,∃n,n<=Rows.uptoBulk x.1/\Pr d n)/\L.length+1<=Rows.uptoBulk x.1:=by
 rcases open_slice hu h with⟨rfl,rfl⟩|⟨a,len,cap,m,n,D,Pl,rfl,hb,hl,hm,xW,rfl,hx⟩
 ·exact⟨_,[],rfl,⟨none,0,rfl,Zj _,λi hi=>absurd hi (VL _)⟩,(λ_ h=>by cases h),by simp[Rows.uptoBulk]⟩
 have hlm:len<=m:=by rw[xW];split<;>omega
 rw[hsz]at hx;have au9:∀i,i<len->∃d:β,(∃b o,a=⟨b,o,none⟩/\Rel d b (o+i*sz))/\Pr d (Rows.uptoBulk (D i)):=by
  intro i hi;obtain⟨cs',h1,h2⟩:=hx i (by omega);obtain⟨d,hd,hp⟩:=each h2;obtain⟨_,hlen,hcell⟩:=World.cells?_some h1;obtain⟨b,o,sp⟩:=a;obtain rfl:sp=none:=by
   obtain⟨_,z1,_⟩:=hx 0 (by omega);exact au8 (a:=⟨b,o,sp⟩) (n:=sz) h0 (by simpa using z1)
  refine⟨d,⟨b,o,rfl,hd b (o+i*sz) λj hj=>?_⟩,hp⟩;have g:=hcell j hj;rw[add_add,add_plain]at g;rw[Vs];exact g
 obtain⟨f,hf⟩:=choose_lt au9;have hs:=bulks.slice_elems (H:=H) ((List.range len).map D) ((List.range (m-len)).map λj=>D (len+j));have hln:=bulks.slice_le (H:=H) ((List.range len).map D) ((List.range (m-len)).map λj=>D (len+j));refine⟨_,(List.range len).map f,rfl,⟨some a,cap,by simp,by simpa using hl,λi hi=>?_⟩,?_,?_⟩
 ·simp at hi;obtain⟨b,o,rfl,hd⟩:=(hf i hi).1;exact⟨b,o,rfl,by simpa using hi,by simpa using hd⟩
 ·intro d hd;obtain⟨i,hi,rfl⟩:=ZM.1 hd;have jy:=ZW.1 hi;have:=bulks.part_le (H:=H) (d:=D i) (l:=(List.range len).map D) (ZM.2 ⟨i,hi,rfl⟩);exact⟨_,by simp only;omega,(hf i jy).2⟩
 ·simp only[ZG,List.length_range]at hln ⊢;omega
theorem open_ints {fuel:Nat} {cs:List Value} {x:DataW H×List MemPlace} (h:DataW.trod enc Tryz.prog w base spare held fuel 23 cs=some x) :
  ∃(v:Value) (L:List Int),cs=[v]/\aU w v L/\L.length+1<=Rows.uptoBulk x.1:=by
 obtain⟨v,L,e,h1,-,h3⟩:=open_list (β:=Int) Tryz.underlying23 (show Tryz.prog.cellsOf 3=1 by kernel_rfl) (by omega) (λd b o=>w.cell? ⟨b,o,none⟩=some (.int .i64 d)) (λ_ _=>True)
  (λ{fuel cs x} h=>by
   obtain⟨k,e0,-,-⟩:=Wc Tryz.underlying3 h;exact⟨k,λb o hc=>by have:=hc 0 (by omega);rw[e0]at this;simpa using this,trivial⟩) h
 exact⟨v,L,e,h1,h3⟩
structure RN (n:Nat) (e:aO):Prop where
 inn:e.aj.length<=n
 out:e.ay.length<=n
structure GrN (n:Nat) (g:aF):Prop where
 ed:g.ah.length<=n
 xO:∀e∈g.ah,RN n e
 inn:g.aj.length<=n
 out:g.ay.length<=n
theorem RN.mono {n m:Nat} {e:aO} (h:RN n e) (hm:n<=m):RN m e:=⟨ZI h.1 hm,ZI h.2 hm⟩
theorem GrN.ok {n:Nat} {g:aF} (h:GrN n g) (hn:n<=1048576):nJ g:=⟨ZI h.1 hn,λe he=>⟨ZI (h.2 e he).1 hn,ZI (h.2 e he).2 hn⟩,ZI h.3 hn,ZI h.4 hn⟩
instance:Inhabited aO:=⟨⟨0,0,[],[]⟩⟩
instance:Inhabited aF:=⟨⟨0,[],[],[]⟩⟩
theorem ava {fuel:Nat} {cs:List Value} {x:DataW H×List MemPlace} (h:DataW.trod enc Tryz.prog w base spare held fuel 91 cs=some x) :
  ∃(d:aO) (vi vo:Value),cs=[.int .i64 d.kind,.int .i64 d.value,vi,vo]/\aU w vi d.aj/\aU w vo d.ay/\RN (Rows.uptoBulk x.1) d:=by
 obtain⟨y0,y1,y2,y3,n,hx,hl,h0,h1,h2,h3⟩:=trod_struct4 Tryz.underlying91 h;rw[hx];rw[show Tryz.prog.cellsOf 91=4 by kernel_rfl]at hl;obtain⟨a,b,c,v0,rfl⟩:=list4 hl;simp only[show Tryz.prog.cellsOf 3=1 by kernel_rfl,show Tryz.prog.cellsOf 23=1 by kernel_rfl,List.drop,List.take]at h0 h1 h2 h3;obtain⟨k,e0,q0,_⟩:=Wc Tryz.underlying3 h0;obtain⟨o,e1,q1,_⟩:=Wc Tryz.underlying3 h1;obtain⟨v2,l2,e2,i2,n2⟩:=open_ints h2;obtain⟨v3,l3,e3,i3,n3⟩:=open_ints h3;simp at e0 e1 e2 e3;subst e0 e1 e2 e3;refine⟨⟨k,o,l2,l3⟩,_,_,rfl,i2,i3,?_,?_⟩;all_goals
  simp only[Rows.uptoBulkAll,Rows.uptoBulk]at n2 n3 ⊢;omega
theorem avb {fuel:Nat} {cs:List Value} {x:DataW H×List MemPlace} (h:DataW.trod enc Tryz.prog w base spare held fuel 22 cs=some x) :
  ∃(v:Value) (L:List aO),cs=[v]/\oM w v L/\(∀d∈L,RN (Rows.uptoBulk x.1) d)/\L.length+1<=Rows.uptoBulk x.1:=by
 obtain⟨v,L,e,h1,h2,h3⟩:=open_list (β:=aO) Tryz.underlying22 (show Tryz.prog.cellsOf 91=4 by kernel_rfl) (by omega) (λd b o=>aag w d b o) (λd n=>RN n d)
  (λ{fuel cs x} h=>by
   obtain⟨d,vi,vo,e0,i1,i2,i3⟩:=ava h;refine⟨d,λb o hc=>?_,i3⟩;have g0:=hc 0 (by omega);have g1:=hc 1 (by omega);have g2:=hc 2 (by omega);have g3:=hc 3 (by omega);rw[e0]at g0 g1 g2 g3;exact⟨by simpa using g0,by simpa using g1,vi,vo,by simpa using g2,by simpa using g3,i1,i2⟩) h
 exact⟨v,L,e,h1,λd hd=>by obtain⟨n,hn,hp⟩:=h2 d hd;exact hp.mono hn,h3⟩
theorem avd {fuel:Nat} {cs:List Value} {x:DataW H×List MemPlace} (h:DataW.trod enc Tryz.prog w base spare held fuel 25 cs=some x) :
  ∃(g:aF) (ve vi vo:Value),cs=[.int .i64 g.aB,ve,vi,vo]/\dM w ve vi vo g/\GrN (Rows.uptoBulk x.1) g:=by
 obtain⟨y0,y1,y2,y3,n,hx,hl,h0,h1,h2,h3⟩:=trod_struct4 Tryz.underlying25 h;rw[hx];rw[show Tryz.prog.cellsOf 25=4 by kernel_rfl]at hl;obtain⟨a,b,c,v0,rfl⟩:=list4 hl;simp only[show Tryz.prog.cellsOf 3=1 by kernel_rfl,show Tryz.prog.cellsOf 23=1 by kernel_rfl,show Tryz.prog.cellsOf 22=1 by kernel_rfl,List.drop,List.take]at h0 h1 h2 h3;obtain⟨k,e0,q0,_⟩:=Wc Tryz.underlying3 h0;obtain⟨v1,l1,e1,i1,m1,n1⟩:=avb h1;obtain⟨v2,l2,e2,i2,n2⟩:=open_ints h2;obtain⟨v3,l3,e3,i3,n3⟩:=open_ints h3;simp at e0 e1 e2 e3;subst e0 e1 e2 e3;refine⟨⟨k,l1,l2,l3⟩,_,_,_,rfl,⟨i1,i2,i3⟩,?_,λe he=>(m1 e he).mono ?_,?_,?_⟩;all_goals
  simp only[Rows.uptoBulkAll,Rows.uptoBulk]at n1 n2 n3 ⊢;omega
end
open Go.RowKit
theorem amY {cs:List Value} (h:cs.length=3):∃a b c,cs=[a,b,c]:=by
 match cs,h with
 | [a,b,c],_=>exact⟨a,b,c,rfl⟩
section
variable {H:Type} {enc:TypeId × Value -> H} {w:World} {base:Nat} {spare:Nat -> Bool} {held:Bool}
structure OU (n:Nat) (r:dP):Prop where
 nm:r.name.size<=n
 sl:∀d∈r.left,d.name.size<=n
 sr:∀d∈r.right,d.name.size<=n
 ll:r.left.length<=n
 lr:r.right.length<=n
theorem OU.mono {n m:Nat} {r:dP} (h:OU n r) (hm:n<=m):OU m r :=
 ⟨ZI h.nm hm,λd hd=>ZI (h.sl d hd) hm,λd hd=>ZI (h.sr d hd) hm,ZI h.ll hm,ZI h.lr hm⟩
theorem OU.z {n:Nat} {r:dP} (h:OU n r) (hn:n<=1048576):uj r :=
 ⟨⟨λd hd=>ZI (h.sl d hd) hn,ZI h.ll hn⟩,⟨λd hd=>ZI (h.sr d hd) hn,ZI h.lr hn⟩,ZI h.nm hn⟩
instance:Inhabited dP:=⟨abo⟩
theorem amZ (s:ByteArray):Rows.uptoBulk (DataW.lit (H:=H) (.string s.data.toList))=s.size+1:=by
 simp only[Rows.uptoBulk,Wp];rfl
theorem ave {fuel:Nat} {cs:List Value} {x:DataW H×List MemPlace} (h:DataW.trod enc Tryz.prog w base spare held fuel 161 cs=some x) :
  ∃d:Nd,cs=[.int .i64 d.kind,.int .i64 d.value,.string d.name]/\d.name.size<=Rows.uptoBulk x.1:=by
 obtain⟨y0,y1,y2,n,rfl,hl,h0,h1,h2⟩:=trod_struct3 Tryz.underlying161 h;rw[show Tryz.prog.cellsOf 161=3 by kernel_rfl]at hl;obtain⟨a,b,c,rfl⟩:=amY hl;simp only[show Tryz.prog.cellsOf 3=1 by kernel_rfl,show Tryz.prog.cellsOf 9=1 by kernel_rfl,List.drop,List.take]at h0 h1 h2;obtain⟨k,e0,rfl,_⟩:=Wc Tryz.underlying3 h0;obtain⟨v,e1,rfl,_⟩:=Wc Tryz.underlying3 h1;obtain⟨s,e2,rfl,_⟩:=DataW.trod_string Tryz.underlying9 h2;simp at e0 e1 e2;subst e0 e1 e2;refine⟨⟨k,v,s⟩,rfl,?_⟩;have:=amZ (H:=H) s;simp only[Rows.uptoBulkAll,Rows.uptoBulk]at this ⊢;omega
instance:Inhabited Nd:=⟨⟨0,0,.empty⟩⟩
theorem am0 {fuel:Nat} {cs:List Value} {x:DataW H×List MemPlace} (h:DataW.trod enc Tryz.prog w base spare held fuel 55 cs=some x) :
  ∃(v:Value) (ns:List Nd),cs=[v]/\dG w v ns/\(∀d∈ns,d.name.size<=Rows.uptoBulk x.1)/\ns.length<=Rows.uptoBulk x.1:=by
 obtain⟨y0,n,rfl,hl,h0⟩:=trod_struct1 Tryz.underlying55 h;rw[show Tryz.prog.cellsOf 55=1 by kernel_rfl]at hl;simp only[show Tryz.prog.cellsOf 53=1 by kernel_rfl,List.drop]at h0;obtain⟨v,L,e,h1,h2,h3⟩:=open_list (β:=Nd) Tryz.underlying53 (show Tryz.prog.cellsOf 161=3 by kernel_rfl) (by omega) (λd b o=>aac w d b o) (λd n=>d.name.size<=n)
  (λ{fuel cs x} h=>by
   obtain⟨d,e0,i3⟩:=ave h;refine⟨d,λb o hc=>?_,i3⟩;have g0:=hc 0 (by omega);have g1:=hc 1 (by omega);have g2:=hc 2 (by omega);rw[e0]at g0 g1 g2;exact⟨by simpa using g0,by simpa using g1,by simpa using g2⟩) h0
 have e':cs=[v]:=by rw[<-e,ZX (by omega)]
 refine⟨v,L,e',h1,λd hd=>?_,?_⟩
 ·obtain⟨n,hn,hp⟩:=h2 d hd;simp only[Rows.uptoBulkAll,Rows.uptoBulk];omega
 ·simp only[Rows.uptoBulkAll,Rows.uptoBulk];omega
theorem avf {fuel:Nat} {cs:List Value} {x:DataW H×List MemPlace} (h:DataW.trod enc Tryz.prog w base spare held fuel 57 cs=some x) :
  ∃(r:dP) (vl vr:Value),cs=[.string r.name,vl,vr]/\dG w vl r.left/\dG w vr r.right/\OU (Rows.uptoBulk x.1) r:=by
 obtain⟨y0,y1,y2,n,hx,hl,h0,h1,h2⟩:=trod_struct3 Tryz.underlying57 h;rw[hx];rw[show Tryz.prog.cellsOf 57=3 by kernel_rfl]at hl;obtain⟨a,b,c,rfl⟩:=amY hl;simp only[show Tryz.prog.cellsOf 9=1 by kernel_rfl,show Tryz.prog.cellsOf 55=1 by kernel_rfl,List.drop,List.take]at h0 h1 h2;obtain⟨s,e0,q0,_⟩:=DataW.trod_string Tryz.underlying9 h0;obtain⟨v1,n1,e1,jH,hs1,uZ⟩:=am0 h1;obtain⟨v2,n2,e2,jI,hs2,hk2⟩:=am0 h2;simp at e0 e1 e2;subst e0 e1 e2;subst q0;have i1:=amZ (H:=H) s;refine⟨⟨s,n1,n2⟩,_,_,rfl,jH,jI,?_,λd hd=>?_,λd hd=>?_,?_,?_⟩
 ·simp only[Rows.uptoBulkAll,Rows.uptoBulk]at i1 ⊢;omega
 ·have:=hs1 d hd;simp only[Rows.uptoBulkAll,Rows.uptoBulk]at this ⊢;omega
 ·have:=hs2 d hd;simp only[Rows.uptoBulkAll,Rows.uptoBulk]at this ⊢;omega
 ·simp only[Rows.uptoBulkAll,Rows.uptoBulk]at uZ ⊢;omega
 ·simp only[Rows.uptoBulkAll,Rows.uptoBulk]at hk2 ⊢;omega
theorem avg {fuel:Nat} {cs:List Value} {x:DataW H×List MemPlace} (h:DataW.trod enc Tryz.prog w base spare held fuel 26 cs=some x) :
  ∃(v:Value) (L:List dP),cs=[v]/\qQ w v L/\(∀d∈L,OU (Rows.uptoBulk x.1) d)/\L.length+1<=Rows.uptoBulk x.1:=by
 obtain⟨v,L,e,h1,h2,h3⟩:=open_list (β:=dP) Tryz.underlying26 (show Tryz.prog.cellsOf 57=3 by kernel_rfl) (by omega) (λd b o=>abp w d b o) (λd n=>OU n d)
  (λ{fuel cs x} h=>by
   obtain⟨d,vl,vr,e0,i1,i2,i3⟩:=avf h;refine⟨d,λb o hc=>?_,i3⟩;have g0:=hc 0 (by omega);have g1:=hc 1 (by omega);have g2:=hc 2 (by omega);rw[e0]at g0 g1 g2;exact⟨by simpa using g0,vl,vr,by simpa using g1,by simpa using g2,i1,i2⟩) h
 exact⟨v,L,e,h1,λd hd=>by obtain⟨n,hn,hp⟩:=h2 d hd;exact hp.mono hn,h3⟩
end
open Go.ChangeAt
theorem own:ownKnob Tryz.prog.godebug=none:=by kernel_rfl
theorem kids:Kids Tryz.prog (·<Tryz.prog.types.size):=kids_rows (by kernel_rfl) (by kernel_rfl)
theorem full:∀t e,t<Tryz.prog.types.size->Tryz.prog.underlying t=some (.slice e)->0<Tryz.prog.cellsOf e:=slices_full_of Tryz.prog (by kernel_rfl)
theorem avh {W W':World} (h:Below W.heap.size W W') {p:MemPlace} (hp:p.block<W.heap.size):W.sameAt W' p:=by
 cases p with
 | cell b o=>exact h.cell (p:=⟨b,o,none⟩) hp
 | map b=>exact h.block b hp
theorem am1 {H:Type} {enc:TypeId×Value->H} {P:Program} {W W':World} {base:Nat} {spare:Nat->Bool} {held:Bool}:∀{ts:List TypeId} {vs:List Value} {ds:List (DataW H)} {ps:List MemPlace},
  DataW.TrodAll enc P W base spare held ts vs ds ps->(∀p∈ps,W.sameAt W' p)->DataW.TrodAll enc P W' base spare held ts vs ds ps
 | [],[],[],_,h,_=>h
 | _::_,_::_,_::_,_,⟨p,q,⟨n,h1⟩,h2,e⟩,hs =>
  ⟨p,q,⟨n,DataW.trod_carry n _ _ _ h1 (λx hx=>hs x (by rw[e];exact ZV _ hx))⟩,am1 h2 (λx hx=>hs x (by rw[e];exact Ym _ hx)),e⟩
theorem avi {H:Type} {enc:TypeId×Value->H} {P:Program} {f:Func} {s:ChangeSpec} {apart fresh avj again:Bool} {W W':World} {args:Array Value} {v:Value} {ds gs:List (DataW H)} {before pa pv:List MemPlace}
  (hW:DataW.Whole enc P f.params.toList s.vars apart W args.toList ds gs before)
  (hres:∀(b:Nat) (sp:Nat->Bool) (hd:Bool),DataW.TrodAll enc P W' b sp hd f.resultTypes.toList (v.resultList f.resultTypes.size) (s.fn H (ds++gs)).results [])
  (adH:∀sp:Nat->Bool,(∀p∈before,sp p.block=true)->DataW.TrodAll enc P W' 0 sp true f.params.toList args.toList (s.fn H (ds++gs)).args pa)
  (am2:∀sp:Nat->Bool,(∀p∈before,sp p.block=true)->DataW.TrodVars enc P W' sp s.vars (s.fn H (ds++gs)).vars pv)
  (wJ:before=pa++pv) (hg:Below W.heap.size W W')
  (aP:∀(j:Nat) (t:TypeId) (r:Value),f.resultTypes[j]?=some t->(v.resultList f.resultTypes.size)[j]?=some r->Value.okWide P W' .any 0 t r) :
  s.post enc P f apart fresh avj again W args v W':=by
 have hold:∀p∈before,(λb=>decide (b<W.heap.size)) p.block=true:=λp hp=>by simpa using hW.lt p hp
 have qZ:=hW.lt;refine⟨ds,gs,before,[],pa,pv,hW,hres _ _ _,adH _ hold,am2 _ hold,World.keptBut_mono (λp hp=>⟨hp,?_⟩) (hg.frame _),λ_=>?_⟩
 ·rw[wJ,Zs]at hp;exact Or.inr hp
 ·obtain⟨_,_,_,_,_,hz,hn⟩:=hW;refine⟨aP,_,_,([]++pa)++pv,⟨[]++pa,pv,trodAll_append (adH _ (λ_ _=>rfl)) (hres _ _ _),am2 _ (λ_ _=>rfl),rfl,?_,?_⟩,?_⟩
  ·intro b off hp;have zV:MemPlace.cell b off∈before:=by rw[wJ];simpa using hp
   rw[hg.frozen (qZ _ zV)];exact hz b off zV
  ·intro ha;have:=hn ha;rw[wJ]at this;simpa using this
  ·intro p hp _;rw[wJ];simpa using hp
end Go.Proofs.YtkhpobekconobaaGreat
namespace Go.Proofs.YtkhpobekconobaaGreat.cardNo
open Go.ChangeShapes Go.WideShapes Go.ChangeAt Go.RowKit
theorem contract (H:Type) (enc:TypeId×Value->H) (W:World) (base:Nat) (args:Array Value) (ds gs:List (DataW H)) (before:List MemPlace)
  (hval:∀(j:Nat) t v,Tryz.f3.params[j]?=some t->args[j]?=some v->Value.okWide Tryz.prog W .any base t v)
  (hW:DataW.Whole enc Tryz.prog Tryz.f3.params.toList Rows.fnExactIsNormalSpec.vars false W args.toList ds gs before) (hk:Rows.uptoSmall H (ds++gs)=true) :
  Calls Tryz.prog 3 args W λe W'=>∃v,e=.returned v/\Rows.fnExactIsNormalSpec.post enc Tryz.prog Tryz.f3 false true false false W args v W':=by
 have hW':=hW;obtain⟨p,q,hA0,hV,rfl,hfz,dI⟩:=hW;have hA:DataW.TrodAll enc Tryz.prog W 0 (λ_=>true) true Tryz.f3.params.toList args.toList ds p:=hA0;have hlt:=hA.lt;have hAk:=hA;rw[Tryz.params3]at hA hval;obtain⟨v0,vs0,d0,ds0,p0,q0,adH,rfl,rfl,⟨n0,h0⟩,r0⟩:=trodAll_cons hA;obtain⟨v1,vs1,d1,ds1,p1,q1,rfl,rfl,rfl,⟨n1,h1⟩,r1⟩:=trodAll_cons r0;obtain⟨rfl,rfl,rfl⟩:=trodAll_nil r1;obtain rfl:args=#[v0,v1]:=VG.1 adH;obtain⟨rfl,rfl⟩:=trodVars_none hV;obtain⟨cs,rfl,_⟩:=okWide_struct Tryz.underlying25 (hval 0 25 v0 rfl rfl);obtain⟨a,len,cap,rfl⟩:=okWide_slice Tryz.underlying26 (hval 1 26 v1 rfl rfl);have hb:Rows.uptoBulkAll _<=1048576:=Wv hk;simp only[ZZ,Xb,YW,Rows.uptoBulkAll]at hb;obtain⟨g,ve,vi,vo,e0,hR,hN⟩:=avd h0;obtain⟨v,L,e1,hL,EX,hLm⟩:=avg h1;have aP:nJ g:=hN.ok (by simp only at hb ⊢;omega);have hz:∀r∈L,uj r:=λr hr=>(EX r hr).z (by simp only at hb ⊢;omega);have hn:L.length<=1048576:=by simp only at hLm;omega
 have e2:(Value.agg cs)=.agg #[.int .i64 g.aB,ve,vi,vo]:=by
  congr 1;exact VG.1 (by simpa[Value.cells]using e0)
 obtain rfl:v=.slice a len cap:=by simpa[Value.cells]using e1.symm
 rw[e2]at hW' hAk hval ⊢;refine(au3 g L ve vi vo _ W hR aP hL hz hn).mono λr W' ⟨hr,hg⟩=>?_;subst hr;simp only[ZZ]at hW' hAk hlt;exact⟨_,rfl,avi (pv:=[]) hW' (λ_ _ _=>trodAll_cons_mk (shut_bool Tryz.underlying4 _) trodAll_mk0)
  (λsp hsp=>DataW.TrodAll.respare kids full (by rw[Tryz.params3];decide) (am1 hAk (λx hx=>avh hg (hlt x hx))) (λx hx=>hsp x hx)) (λ_ _=>rfl) (by simp)
  hg (ok_one (by kernel_rfl) rfl (okWide_bool_mk Tryz.underlying4 _))⟩
end Go.Proofs.YtkhpobekconobaaGreat.cardNo
