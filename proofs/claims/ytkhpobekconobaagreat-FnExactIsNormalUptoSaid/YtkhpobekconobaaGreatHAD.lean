import Derived.Test.YtkhpobekconobaaGreatHAC
import Derived.Maps.AppendAt
import Derived.Maps.Own
import Derived.Maps.OwnOps
import Derived.Maps.OwnSet
set_option linter.all false
set_option maxRecDepth 100000
set_option maxHeartbeats 0
namespace Go.Proofs.YtkhpobekconobaaGreat
open Go.RowKit
section
variable {P:Program} {ops:Array Oper} {Q:Exit -> Act -> World -> Prop} {T:Nat -> Prop} {w0:World}
theorem aC.grown {w w':World} {row:Option Nat} (h:aC T w0 w) (hg:w.grownBy w' row) (hr:∀k,row=some k->w0.heap.size<=k\/T k):aC T w0 w' :=
 ⟨hg.os.trans h.os,hg.tape.trans h.tape,hg.output.trans h.output,ZI h.size hg.size,λk hk ht=>by
  rw[hg.block k (Yc hk h.size) (λe=>by rcases hr k e.symm with h'|h';omega;exact ht h')];exact h.block k hk ht⟩
theorem anz {i:Nat} {l:List Nat} {bs:Nat->Prop} {a:Act} {w:World} {o:Oper} (ho:ops[i]?=some o) (hk:jW o=.act) (hg:o.guard=none) (hC:aC T w0 w) (s x:Operand) (t:TypeId)
  (hop:o.op=Op.call { callee:=Callee.builtin Builtin.append,args:=#[s,x],argTypes:=#[t,t] })
  (base:Nat) (e:TypeId) (inf:TypeInfo) (size:Nat) (h1:P.underlying t=some (.slice e)) (h2:P.info? e=some inf) (h4:inf.size=size)
  (g n cap:Nat) (xs:List Value) (hs:a.eval s=.slice (some ⟨g,0,none⟩) n cap) (hgN:g<w0.heap.size) (hT:T g) (ad:Addr) (m c:Nat) (news:List Value) (hx:a.eval x=.slice (some ad) m c) (hn:news.length=m*size)
  (h1c:∀u∈news,u.oneCell'=true) (b1:n+m<=cap)
  (H:∀w1,aC T w0 w1->Below w.heap.size w w1->w1.ownsRow base e size (.slice (some ⟨g,0,none⟩) n cap) n xs/\(∀j u,news[j]?=some u->w1.cell? (ad.add j)=some u))
  (h:∀K:(Nat->Prop)->Act->World->Prop,(∀bs a w,WX P ops (aC T w0) w0.heap.size Q l bs a w->K bs a w)->∀w1 w2,aC T w0 w1->Below w.heap.size w w1 ->
   w2.ownsRow base e size (.slice (some ⟨g,0,none⟩) (n+m) cap) (n+m) (xs++news)->w1.grownBy w2 (some g)->aC T w0 w2->K bs (a.put o.dst (.slice (some ⟨g,0,none⟩) (n+m) cap)) w2) :
  WX P ops (aC T w0) w0.heap.size Q (i::l) bs a w:=by
 intro o' iY;rw[ho]at iY;obtain rfl:=Zy iY;unfold qX rM;rw[ZE (by simp[Region.wanted,hg])];simp only[hk];intro w1 dQ;have oO:=hC.below dQ;obtain⟨ha,hb⟩:=H w1 oO dQ;obtain⟨w2,hrun,r1,r2⟩:=run_append_fits (P:=P) w1 base t o.type e inf size h1 h2 h4 g n cap xs ha ad m c news hn hb h1c b1;have hr:(execOp a.eval o).run P w1=.ok (.value (.slice (some ⟨g,0,none⟩) (n+m) cap)) w2:=by
  simp[execOp,hop,resolve,invoke,builtin,hs,hx,hrun,Result.andThen]
 unfold rJ;rw[hr];have Dw:aC T w0 w2:=oO.grown r2 (λk hk=>by cases hk;exact .inr hT);exact⟨Dw,r2.size,λk hN _ hlt=>r2.block k hlt (λe=>by cases e;omega),bs,λ_ h=>h,λ_ h=>.inl h,h _ (λ_ _ _ h=>h) w1 w2 oO dQ r1 r2 Dw⟩
end
def Bk (w:World) (b:Nat) (t:TypeId) (cs:Array Value):Prop:=w.heap[b]?=some (.cells cs t)
theorem Bk.new (w:World) (t:TypeId) (cs:Array Value):Bk (w.alloc (.cells cs t)) w.heap.size t cs:=by
 show(w.heap.push _)[w.heap.size]?=_;simp
theorem Bk.lt {w:World} {b:Nat} {t:TypeId} {cs:Array Value} (h:Bk w b t cs):b<w.heap.size:=(ZP.1 h).1
theorem Bk.keep {w w':World} {b:Nat} {t:TypeId} {cs:Array Value} (hb:Below w.heap.size w w') (h:Bk w b t cs):Bk w' b t cs:=(hb.block b h.lt).trans h
theorem Bk.alloc {w:World} {b:Nat} {t:TypeId} {cs:Array Value} (h:Bk w b t cs) (o:Obj):Bk (w.alloc o) b t cs:=h.keep (aH _ _)
theorem Bk.other {w:World} {b:Nat} {t:TypeId} {cs:Array Value} (h:Bk w b t cs) (a:Addr) (v:Value) (hne:b≠a.block):Bk (w.setCell a v) b t cs:=(Zm _ _ _ _ hne).trans h
theorem Bk.set {w:World} {b:Nat} {t:TypeId} {cs:Array Value} (h:Bk w b t cs) (i:Nat) (v:Value):Bk (w.setCell ⟨b,i,none⟩ v) b t (cs.setIfInBounds i v):=by
 have hz:=h.lt;unfold Bk at h ⊢;simp only[World.setCell,Array.getElem?_modify,h];simp
theorem Bk.cell {w:World} {b:Nat} {t:TypeId} {cs:Array Value} (h:Bk w b t cs):(∀o,w.cell? ⟨b,o,none⟩=cs[o]?)/\(∀o,w.frozen? ⟨b,o,none⟩=false)/\b<w.heap.size:=made_cell h
theorem Bk.exc {w w':World} {T:Nat->Prop} {b:Nat} {t:TypeId} {cs:Array Value} (hE:aC T w w') (h:Bk w b t cs) (hT:¬T b):Bk w' b t cs:=(hE.block b h.lt hT).trans h
theorem ad6 (k:Int) (w:World) (h0:3<=k) (h1:k<=14) :
  Calls Tryz.prog 153 #[.int .i64 k] w λe w'=>e=.returned (.agg #[.int .i64 (fJ k).1,.int .i64 (fJ k).2])/\Below w.heap.size w w':=by
 have hk:k=3\/k=4\/k=5\/k=6\/k=7\/k=8\/k=9\/k=10\/k=11\/k=12\/k=13\/k=14:=by omega
 rcases hk with rfl|rfl|rfl|rfl|rfl|rfl|rfl|rfl|rfl|rfl|rfl|rfl;all_goals
  go_enter Tryz.func153,Tryz.ntmps153;go_wp2;refine Zt (v:=.agg #[.int .i64 _,.int .i64 _]) (by simp[results,Tryz.results153,go_sem];exact⟨rfl,rfl⟩) rfl ⟨by simp[fJ],?_⟩
  repeat(first|exact Zl _ _|refine Xh ?_ (by simp<;>omega) _)
theorem anA (e:aO) (vi vo:Value) (w:World) (hi:aU w vi e.aj) (ho:aU w vo e.ay) :
  Calls Tryz.prog 121 #[.agg #[.int .i64 e.kind,.int .i64 e.value,vi,vo]] w (nH (qB e) w):=by
 obtain⟨a1,q1,rfl⟩:=hi.slice;obtain⟨a2,q2,rfl⟩:=ho.slice;have hA:=aH w (.cells #[.int .i64 e.kind,.int .i64 e.value,.slice a1 e.aj.length q1,.slice a2 e.ay.length q2] 102);cases hk:inB e.kind 3 14 with
 | false =>
  have HK:=Za hk;clear hk;go_enter Tryz.func121,Tryz.ntmps121;go_wp2_with (go_at_call 151;refine(aaf _ _).mono ?_;rintro r w2⟨rfl,rfl⟩;rw[HK.out])
  go_ret;exact⟨by unfold qB;rw[HK.out];rfl,hA⟩
 | true =>
  cases hv:BK e.kind e.value with
  | false =>
   have HK:=Za (Zb hk hv);clear hk hv;go_enter Tryz.func121,Tryz.ntmps121;go_wp2_with (first|(go_at_call 151;refine(aaf _ _).mono ?_;rintro r w2⟨rfl,rfl⟩;rw[HK.out.1])|(go_at_call 152;refine(adK _ _ _).mono ?_;rintro r w2⟨rfl,rfl⟩;rw[HK.out.2]))
   go_ret;exact⟨by unfold qB;rw[HK.out.1,HK.out.2];rfl,hA⟩
  | true =>
   have hk2:3<=e.kind/\e.kind<=14:=by simpa[inB]using hk
   have hcs:∃b:Bool,decide (fJ e.kind=((e.aj.length:Int),(e.ay.length:Int)))=b:=⟨_,rfl⟩
   obtain⟨b,hb⟩:=hcs;have Sv:(if(fJ e.kind).1=(e.aj.length:Int)then(if(fJ e.kind).2=(e.ay.length:Int)then true else false)else false)=b:=by
    rw[<-hb];by_cases h1:(fJ e.kind).1=(e.aj.length:Int)
    ·by_cases h2:(fJ e.kind).2=(e.ay.length:Int)
     ·rw[ZE h1,ZE h2];symm;simp[Prod.ext_iff,h1,h2]
     ·rw[ZE h1,ZH h2];symm;simp[Prod.ext_iff,h2]
    ·rw[ZH h1];symm;simp[Prod.ext_iff,h1]
   have HK:=Za (Zb hk (Zb hv hb));have HK2:=Za hk2;clear hk hv hk2 hb;by_cases h1:(fJ e.kind).1=(e.aj.length:Int)
   all_goals by_cases h2:(fJ e.kind).2=(e.ay.length:Int)
   all_goals
    simp only[h1,h2,if_true,if_false]at Sv;have MP:=Za Sv;clear Sv;go_enter Tryz.func121,Tryz.ntmps121;go_wp2_with (first|(go_at_call 151;refine(aaf _ _).mono ?_;rintro r w2⟨rfl,rfl⟩;rw[HK.out.1])|(go_at_call 152;refine(adK _ _ _).mono ?_;rintro r w2⟨rfl,rfl⟩;rw[HK.out.2.1]))
    have kE:=Bk.new w 102 #[.int .i64 e.kind,.int .i64 e.value,.slice a1 e.aj.length q1,.slice a2 e.ay.length q2];generalize(w.alloc (.cells #[.int .i64 e.kind,.int .i64 e.value,.slice a1 e.aj.length q1,.slice a2 e.ay.length q2] 102))=u0 at *;obtain⟨iE,fE,zE⟩:=kE.cell;have c0:=iE 0;have c2:=iE 2;have c3:=iE 3;simp at c0 c2 c3;clear iE fE;refine h_ (C:=aC (dD) _) 4 [0,1,2,3,4,5,6,7,8,9,10,11] (by kernel_rfl) (by kernel_rfl) (aC.aJ _ _) (aC.refl _ _) ?_;iterate 2 (apply dh rfl rfl rfl;(focus intro u hc' hf';go_simp<;>rfl);intro K hK;go_simp;apply hK;clear hK K)
    refine fD rfl rfl rfl (aC.aJ _ _) (aC.refl _ _) 153 (λK hK=>?_);apply Zq;refine⟨λw' hw'=>?_,λwa bT bZ=>?_⟩;(focus go_simp;rfl);refine(ad6 _ _ HK2.out.1 HK2.out.2).mono ?_;rintro e w3⟨rfl,hb3⟩;refine⟨_,rfl,hb3,λhx=>?_⟩;go_simp;apply hK;clear hK K;iterate 9 (apply dh rfl rfl rfl;(focus intro u hc' hf';go_simp<;>rfl);intro K hK;go_simp;apply hK;clear hK K)
    refine dR ?_;go_wp2;go_ret;exact⟨by unfold qB;rw[HK.out.1,HK.out.2.1,HK.out.2.2,<-MP.out];rfl,hA.drew.trans (hx.toBelow.mono (by simp;omega))⟩
theorem anB (d:Nd) (w:World) :
  Calls Tryz.prog 120 #[.agg #[.int .i64 d.kind,.int .i64 d.value,.string d.name]] w λe w'=>e=.returned (.agg #[.int .i64 d.kind,.int .i64 d.value,.string d.name])/\Below w.heap.size w w':=by
 go_enter Tryz.func120,Tryz.ntmps120;go_wp2;refine Zt (v:=.agg #[.int .i64 d.kind,.int .i64 d.value,.string d.name]) (by simp[results,Tryz.results120,go_sem]) rfl ⟨rfl,?_⟩;exact(((Zl _ _).alloc (Zj _) _).alloc (by simp) _).alloc (by simp;omega) _
theorem aha:(Tryz.prog.info? 116).map (λi=>(i.zero,i.size,i.bytes))=some (some (.agg #[.int .i64 0,.int .i64 0,.string ⟨#[]⟩]),3,32):=by kernel_rfl
def nd0:Nd:=⟨0,0,⟨#[]⟩⟩
theorem anC (v:Value) (ns:List Nd) (w:World) (hv:dG w v ns) (hn:ns.length<=1048576) :
  Calls Tryz.prog 85 #[v] w λe w'=>∃v',e=.returned v'/\jA w' w.heap.size v' ns/\Below w.heap.size w w':=by
 obtain⟨a,cap,rfl,hc,hat⟩:=hv;obtain⟨i0,hi,hz0,hz1,hz2⟩:=Yg aha;go_enter Tryz.func85,Tryz.ntmps85;go_wp2_with (at_make;refine Yo _ rfl _ _ _ rfl w.heap.size 116 i0 _ 3 Tryz.underlying62 hi hz0 hz1 _ _ _ _ ns.length rfl rfl rfl rfl (by rw[hz2];omega) (by unfold maxLen;omega) (Zj _) ?_;intro w1 hown hgr)
 have hz:=vZ (f:=BJ) nd0 ns.length (sz:=3) (by omega) rfl;have Aw:w1.ownsRow w.heap.size 116 3 (Value.slice (some { block:=w.heap.size,off:=0 }) ns.length ns.length) ns.length ((ns.take 0++List.replicate (ns.length-0) nd0).flatMap BJ):=by
  simp only[Y5,YW,VA];rw[<-hz];exact hown
 have hlt:w.heap.size<w1.heap.size:=(hown.lt w.heap.size rfl).2;have hb1:Below w.heap.size w w1:=(Zl _ _).grown hgr (Zj _) (by simp);clear hown hz hgr;go_loopw [4] (λi wr=>∃k:Nat,k<=ns.length/\i=.int .i64 k/\wr.ownsRow w.heap.size 116 3 (Value.slice (some { block:=w.heap.size,off:=0 }) ns.length ns.length) ns.length ((ns.take k++List.replicate (ns.length-k) nd0).flatMap BJ)/\w.heap.size<wr.heap.size/\Below w.heap.size w wr) (λi _=>ns.length-(intOf i).toNat)
 case atStart=>exact⟨0,Zw _,rfl,Aw,hlt,hb1⟩
 case round =>
  obtain⟨k,hk,rfl,hown,hsz,aI⟩:=hrel;clear Aw hlt hb1;by_cases hlt:k<ns.length
  ·obtain⟨b,o,rfl,_,dI⟩:=hat k hlt;obtain⟨c0,c1,c2⟩:=dI.keep aI;have Eo:(ns.take k++List.replicate (ns.length-k) nd0).length=ns.length:=by simp;omega
   clear hat dI;go_wp2_with (go_at_call 120;refine(anB ns[k] _).mono ?_;rintro e w2⟨rfl,hb2⟩;have hown2:=jL hb2 hown;obtain⟨x,y,z,d0,d1,d2,f0,f1,f2⟩:=am6 hown2 k (by rw[Eo];exact hlt))
   have MQ:=am5 hown2 k (by rw[Eo];exact hlt) ns[k];rw[take_set ns nd0 k hlt]at MQ;have hs2:=hb2.size;go_roundw
   case rel=>exact⟨k+1,by omega,by go_num,MQ,by simp;omega,(((aI.trans (hb2.mono (by omega))).setCell (Zj _) _).setCell (Zj _) _).setCell (Zj _) _⟩
   case measure=>simp[intOf];omega
  ·go_wp2;go_ret;have mX:k=ns.length:=by omega
   subst mX;refine⟨_,rfl,?_,aI⟩;simpa[jA]using hown
theorem jA.xP {w:World} {B:Nat} {v:Value} {ns:List Nd} (h:jA w B v ns) {a:Addr} (ha:a.block<B) (u:Value):jA (w.setCell a u) B v ns:=ownsRow_setCell_below h ha u
theorem ahb (v:Value) (ns:List Nd) (w:World) (hv:dG w v ns) (hn:ns.length<=1048576) :
  Calls Tryz.prog 59 #[.agg #[v]] w λe w'=>∃v',e=.returned (.agg #[v'])/\jA w' w.heap.size v' ns/\Below w.heap.size w w':=by
 obtain⟨a,cap,rfl⟩:=hv.slice;go_enter Tryz.func59,Tryz.ntmps59;go_wp2_with (go_at_call 85;refine(anC _ ns _ (hv.keep ((((Zl _ _).alloc (Zj _) _).alloc (by simp) _).alloc (by simp;omega) _)) hn).mono ?_;rintro e w2⟨v',rfl,hown,hb2⟩;obtain⟨a',cap',rfl⟩:=hown.slice;obtain⟨hc2,hf2,hs2⟩:=n_ hb2;simp only[Zn]at hs2 hown hb2)
 refine Zt (v:=.agg #[.slice a' ns.length cap']) (by simp[results,Tryz.results59,go_sem,hc2]) rfl ⟨_,rfl,?_,?_⟩
 ·exact((hown.xP (by simp) _).xP (by simp) _).mono (by omega)
 ·exact((((((Zl _ _).alloc (Zj _) _).alloc (by simp) _).alloc (by simp;omega) _).trans (hb2.mono (by omega))).setCell (by simp;omega) _).setCell (by simp) _
def reserved:List ByteArray:=[⟨#[105,100]⟩,⟨#[115,119,97,112]⟩,⟨#[99,111,112,121]⟩,⟨#[100,105,115,99,97,114,100]⟩,⟨#[97,100,100]⟩,⟨#[122,101,114,111]⟩,⟨#[115,99,97,108,101]⟩,⟨#[100,101,108,97,121]⟩,
 ⟨#[99,111,99,111,112,121]⟩,⟨#[99,111,100,105,115,99,97,114,100]⟩,⟨#[99,111,97,100,100]⟩,⟨#[99,111,122,101,114,111]⟩,⟨#[99,111,115,99,97,108,101]⟩,⟨#[99,111,100,101,108,97,121]⟩]
def Ep:List ByteArray:=⟨#[]⟩::reserved
def abU (w:World) (v:Value) (ss:List ByteArray):Prop:=nD 1 v ss.length λi b o=>∃h:i<ss.length,w.cell? ⟨b,o,none⟩=some (.string ss[i])
theorem ahc (w:World) (ss:List ByteArray) (t:TypeId):abU (w.alloc (.cells (ss.map Value.string).toArray t)) (.slice (some ⟨w.heap.size,0,none⟩) ss.length ss.length) ss:=by
 refine⟨_,_,rfl,Zj _,λi hi=>⟨_,_,rfl,hi,?_⟩⟩;have h1:(w.alloc (.cells (ss.map Value.string).toArray t)).heap[w.heap.size]?=some (.cells (ss.map Value.string).toArray t):=XR w _;have h2:(⟨w.heap.size,0+i*1,none⟩:Addr)=⟨w.heap.size,i,none⟩:=by simp
 rw[h2,cell_of_row _ w.heap.size i _ _ _ h1];simp[hi]
theorem anD (w:World) :
  Calls Tryz.prog 105 #[] w λe w'=>∃n:Nat,e=.returned (.slice (some ⟨w.heap.size,0,none⟩) n n)/\n<=14/\14<=n/\abU w' (.slice (some ⟨w.heap.size,0,none⟩) n n) reserved/\Below w.heap.size w w'/\w.heap.size<w'.heap.size:=by
 go_enter Tryz.func105,Tryz.ntmps105;go_wp2;go_ret;exact⟨14,rfl,Zj _,Zj _,ahc w reserved _,(Zl _ _).alloc (Zj _) _,by simp⟩
theorem anE (w:World) :
  Calls Tryz.prog 174 #[] w λe w'=>∃n:Nat,e=.returned (.slice (some ⟨w.heap.size,0,none⟩) n n)/\n<=15/\15<=n/\abU w' (.slice (some ⟨w.heap.size,0,none⟩) n n) Ep/\Below w.heap.size w w'/\w.heap.size<w'.heap.size:=by
 go_enter Tryz.func174,Tryz.ntmps174;go_wp2;go_ret;exact⟨15,rfl,Zj _,Zj _,ahc w Ep _,(Zl _ _).alloc (Zj _) _,by simp⟩
def BR (s:ByteArray) (d:Int):List ByteArray->Nat->Int
 | [],_=>d
 | x::r,k=>if x=s then k else BR s d r (k+1)
def Dx (s:ByteArray):Int:=BR s 17 Ep 0
theorem ahd (s:ByteArray) (w:World) :
  Calls Tryz.prog 157 #[.string s] w λe w'=>e=.returned (.int .i64 (Dx s))/\Below w.heap.size w w':=by
 go_enter Tryz.func157,Tryz.ntmps157;go_wp2_with (go_at_call 174;refine(anE _).mono ?_;rintro e w1⟨n,rfl,jH,jI,hst,hb1,hs1⟩)
 obtain⟨a,cap,ha,hc,hat⟩:=hst;simp only[Zx,ZQ]at ha;obtain⟨rfl,Iu,rfl⟩:=ha;clear Iu;have hl:Ep.length=15:=rfl;go_loopw [7] (λi wr=>∃k:Nat,k<=n/\i=.int .i64 k/\Hid (Dx s=BR s 17 (Ep.drop k) k)/\Below w1.heap.size w1 wr) (λi _=>n-(intOf i).toNat)
 case atStart=>exact⟨0,by omega,rfl,(show Hid _ from(rfl:Dx s=_)),Zl _ _⟩
 case round =>
  obtain⟨k,hk,rfl,HF,aI⟩:=hrel;by_cases hlt:k<n
  ·obtain⟨b,o,aW,_,dI⟩:=hat k (by omega);simp only[ZQ,Xm]at aW;obtain⟨rfl,rfl,_⟩:=aW;have c0:=aK aI dI;simp only[Yp,Z2]at c0;have hsz:=aI.size;clear hat dI;have yU:k<Ep.length:=by omega
   by_cases he:Ep[k]=s
   ·have g1:(Ep[k].toList==s.toList)=true:=by rw[JE];simp[he]
    have HK:Hid (Dx s=k):=by
     show Dx s=k;rw[HF.out,ZN yU,BR,ZE he]
    clear he;go_wp2;go_ret;exact⟨abG HK.out.symm,hb1.trans (aI.mono (by omega))⟩
   ·have g1:(Ep[k].toList==s.toList)=false:=by rw[JE];simp[he]
    have HK:Hid (Dx s=BR s 17 (Ep.drop (k+1)) (k+1)):=by
     show Dx s=_;rw[HF.out,ZN yU,BR,ZH he]
    clear he;go_wp2;go_roundw
    case rel=>exact⟨k+1,by omega,by go_num,HK,aI⟩
    case measure=>simp[intOf];omega
  ·go_wp2;go_ret;have mX:k=15:=by omega
   rw[mX]at HF;exact⟨abG HF.out.symm,hb1.trans (aI.mono (by omega))⟩
def BU (b:UInt8):Bool:=wH b || FH b
def BZ (s:ByteArray) (k:Nat):Bool:=(s.data.toList.drop k).all BU
theorem ad7 (s:ByteArray) (k:Nat) (h:k<s.size):BZ s k=(BU s[k]&&BZ s (k+1)):=by
 unfold BZ;rw[ZN (by simpa using h),Wz];rfl
theorem ahe (s:ByteArray) (k:Nat) (h:s.size<=k):BZ s k=true:=by
 unfold BZ;rw[XE (by simpa using h)];rfl
def sH (s:ByteArray):Bool:=if h:1<=s.size/\s.size<=8 then wH (s[0]'(by omega))&&BZ s 1 else false
theorem ad8 {s:ByteArray} (h:¬(1<=s.size/\s.size<=8)):sH s=false:=by unfold sH;rw[dif_neg h]
theorem ahf {s:ByteArray} (h:1<=s.size/\s.size<=8) (hl:wH (s[0]'(by omega))=false):sH s=false:=by unfold sH;rw[dif_pos h,hl];rfl
theorem ahg {s:ByteArray} (h:1<=s.size/\s.size<=8) (hl:wH (s[0]'(by omega))=true):sH s=BZ s 1:=by unfold sH;rw[dif_pos h,hl];rfl
theorem anF {s:ByteArray} (h:1<=s.size/\s.size<=8) (hl:wH (s[0]'(by omega))=true):sH s=BZ s 0:=by rw[ahg h hl,ad7 s 0 (by omega)];simp[BU,hl]
def nameB (s:ByteArray):Bool:=sH s&&decide (Dx s=17)
theorem anG (s:ByteArray) (w:World) (hs:s.size<=1048576) :
  Calls Tryz.prog 127 #[.string s] w λe w'=>e=.returned (.bool (nameB s))/\Below w.heap.size w w':=by
 by_cases hsz:1<=s.size/\s.size<=8
 ·have h0:0<s.size:=by omega
  have g1:inB s.size 1 8=true:=by simp[inB];omega
  cases hl:wH s[0]with
  | false =>
   go_enter Tryz.func127,Tryz.ntmps127;go_wp2_with (first|(go_at_call 70;refine(rG _ _ _ _).mono ?_;rintro e w1⟨rfl,rfl⟩)|(go_at_call 156;refine(abK _ _).mono ?_;rintro e w1⟨rfl,rfl⟩))
   go_ret;exact⟨pY (by simp[nameB,ahf hsz hl]),Zl _ _⟩
  | true =>
   by_cases hk:Dx s=17
   ·have g2:(Dx s != 17)=false:=by simp[hk]
    have HF0:Hid (nameB s=BZ s 0):=(show nameB s=BZ s 0 by simp[nameB,hk,anF hsz hl])
    clear hk;go_enter Tryz.func127,Tryz.ntmps127;go_wp2_with (first|(go_at_call 70;refine(rG _ _ _ _).mono ?_;rintro e w1⟨rfl,rfl⟩)|(go_at_call 156;refine(abK _ _).mono ?_;rintro e w1⟨rfl,rfl⟩)|(go_at_call 157;refine(ahd _ _).mono ?_;rintro e w1⟨rfl,hb1⟩))
    go_loopw [21] (λi wr=>∃k:Nat,k<=s.size/\i=.int .i64 k/\Hid (nameB s=BZ s k)/\Below w.heap.size w wr) (λi _=>s.size-(intOf i).toNat)
    case atStart=>exact⟨0,by omega,rfl,HF0,hb1⟩
    case round =>
     obtain⟨k,hk,rfl,HF,aI⟩:=hrel;clear HF0 hb1;by_cases hlt:k<s.size
     ·have hst:=ad7 s k hlt;cases q1:wH s[k]<;>cases q2:FH s[k]
      all_goals
       have HK:=Za (HF.out.trans hst);simp only[BU,q1,q2,Bool.or_false,Bool.or_true,Bool.false_and,XW]at HK;clear hst HF;go_wp2_with (first|(go_at_call 156;refine(abK _ _).mono ?_;rintro e w1⟨rfl,rfl⟩)|(go_at_call 158;refine(ana _ _).mono ?_;rintro e w1⟨rfl,rfl⟩))
      ·go_ret;exact⟨pY (by have:=HK.out;simpa[BU,q1,q2]using this.symm),aI⟩
      all_goals
       go_roundw
       case rel=>exact⟨k+1,by omega,by go_num,(show nameB s=_ by have:=HK.out;simpa[BU,q1,q2]using this),aI⟩
       case measure=>simp[intOf];omega
     ·go_wp2;go_ret;exact⟨pY (by rw[HF.out,ahe s k (by omega)]),aI⟩
   ·have g2:(Dx s != 17)=true:=by simp[hk]
    go_enter Tryz.func127,Tryz.ntmps127;go_wp2_with (first|(go_at_call 70;refine(rG _ _ _ _).mono ?_;rintro e w1⟨rfl,rfl⟩)|(go_at_call 156;refine(abK _ _).mono ?_;rintro e w1⟨rfl,rfl⟩)|(go_at_call 157;refine(ahd _ _).mono ?_;rintro e w1⟨rfl,hb1⟩))
    go_ret;exact⟨pY (by simp[nameB,hk]),hb1⟩
 ·have g1:inB s.size 1 8=false:=by simp[inB];omega
  go_enter Tryz.func127,Tryz.ntmps127;go_wp2_with (go_at_call 70;refine(rG _ _ _ _).mono ?_;rintro e w1⟨rfl,rfl⟩)
  go_ret;exact⟨pY (by simp[nameB,ad8 hsz]),Zl _ _⟩
def uy (s:ByteArray):List ByteArray->Bool
 | []=>false
 | x::r=>decide (x=s) || uy s r
theorem anH (v:Value) (ss:List ByteArray) (s:ByteArray) (w:World) (hv:abU w v ss) (hn:ss.length<=1048576) :
  Calls Tryz.prog 104 #[v,.string s] w λe w'=>e=.returned (.bool (uy s ss))/\w=w':=by
 obtain⟨a,cap,rfl,hc,hat⟩:=hv;go_enter Tryz.func104,Tryz.ntmps104;go_wp2;go_loop [9] (λi=>∃k:Nat,k<=ss.length/\i=.int .i64 k/\Hid (uy s ss=uy s (ss.drop k))) (λi=>ss.length-(intOf i).toNat)
 case atStart=>exact⟨0,by omega,rfl,(show Hid _ from(by simp[Hid]:Hid (uy s ss=uy s (ss.drop 0))))⟩
 case round =>
  obtain⟨k,hk,rfl,HF⟩:=hrel;by_cases hlt:k<ss.length
  ·obtain⟨b,o,rfl,_,c0⟩:=hat k hlt;simp only[Z2]at c0;clear hat
   by_cases he:ss[k]=s
   ·have g1:(ss[k].toList==s.toList)=true:=by rw[JE];simp[he]
    have HK:Hid (uy s ss=true):=by
     show uy s ss=true;rw[HF.out,ZN hlt,uy];simp[he]
    clear he;go_wp2;go_ret;exact⟨pY HK.out.symm,rfl⟩
   ·have g1:(ss[k].toList==s.toList)=false:=by rw[JE];simp[he]
    have HK:Hid (uy s ss=uy s (ss.drop (k+1))):=by
     show uy s ss=_;rw[HF.out,ZN hlt,uy];simp[he]
    clear he;go_wp2
    go_round
    case rel=>exact⟨k+1,by omega,by go_num,HK⟩
    case measure=>simp[intOf];omega
  ·go_wp2;go_ret;exact⟨pY (by rw[HF.out,XE (by omega)];rfl),rfl⟩
theorem ahh (s:ByteArray) (w:World) (hs:s.size<=1048576) :
  Calls Tryz.prog 103 #[.string s] w λe w'=>e=.returned (.bool (sH s))/\w=w':=by
 by_cases hsz:1<=s.size/\s.size<=8
 ·have h0:0<s.size:=by omega
  have g1:inB s.size 1 8=true:=by simp[inB];omega
  cases hl:wH s[0]with
  | false =>
   have hl':(s[0].toNat:Int)<97\/122<(s[0].toNat:Int):=by simp[wH]at hl;omega
   have HF:=Za (ahf hsz hl);clear hl;rcases hl' with hl'|hl'
   all_goals
    go_enter Tryz.func103,Tryz.ntmps103;go_wp2_with (go_at_call 46;refine(sD _ _ _ _).mono ?_;rintro e w1⟨rfl,rfl⟩)
    go_ret;exact⟨pY HF.out.symm,rfl⟩
  | true =>
   have hl':(97:Int)<=(s[0].toNat:Int)/\(s[0].toNat:Int)<=122:=by simp[wH]at hl;omega
   have HF0:=Za (ahg hsz hl);clear hl;obtain⟨iH,hl2⟩:=hl';go_enter Tryz.func103,Tryz.ntmps103;go_wp2_with (go_at_call 46;refine(sD _ _ _ _).mono ?_;rintro e w1⟨rfl,rfl⟩)
   go_loop [3] (λi=>∃k:Nat,1<=k/\k<=s.size/\i=.int .i64 k/\Hid (sH s=BZ s k)) (λi=>s.size-(intOf i).toNat)
   case atStart=>exact⟨1,by omega,by omega,rfl,HF0⟩
   case round =>
    obtain⟨k,uZ,hk,rfl,HF⟩:=hrel;clear HF0;by_cases hlt:k<s.size
    ·have hst:=ad7 s k hlt;rcases(show(s[k].toNat:Int)<48\/((48:Int)<=s[k].toNat/\(s[k].toNat:Int)<=57)\/((57:Int)<s[k].toNat/\(s[k].toNat:Int)<97)\/((97:Int)<=s[k].toNat/\(s[k].toNat:Int)<=122)\/(122:Int)<s[k].toNat from by omega)with q|q|q|q|q
     ·have HK:Hid (sH s=false):=(show sH s=false by rw[HF.out,hst];simp[BU,wH,FH];intro h;omega)
      clear hst HF;go_wp2;go_ret;exact⟨pY HK.out.symm,rfl⟩
     ·have HK:Hid (sH s=BZ s (k+1)):=(show sH s=_ by rw[HF.out,hst];have:BU s[k]=true:=(by simp[BU,wH,FH];omega);rw[this];rfl)
      clear hst HF;obtain⟨q1,q2⟩:=q;go_wp2
      go_round
      case rel=>exact⟨k+1,by omega,by omega,by go_num,HK⟩
      case measure=>simp[intOf];omega
     ·have HK:Hid (sH s=false):=(show sH s=false by rw[HF.out,hst];simp[BU,wH,FH];intro h;omega)
      clear hst HF;obtain⟨q1,q2⟩:=q;go_wp2;go_ret;exact⟨pY HK.out.symm,rfl⟩
     ·have HK:Hid (sH s=BZ s (k+1)):=(show sH s=_ by rw[HF.out,hst];have:BU s[k]=true:=(by simp[BU,wH,FH];omega);rw[this];rfl)
      clear hst HF;obtain⟨q1,q2⟩:=q;go_wp2
      go_round
      case rel=>exact⟨k+1,by omega,by omega,by go_num,HK⟩
      case measure=>simp[intOf];omega
     ·have HK:Hid (sH s=false):=(show sH s=false by rw[HF.out,hst];simp[BU,wH,FH];intro h;omega)
      clear hst HF;go_wp2;go_ret;exact⟨pY HK.out.symm,rfl⟩
    ·go_wp2;go_ret;exact⟨pY (by rw[HF.out,ahe s k (by omega)]),rfl⟩
 ·have g1:inB s.size 1 8=false:=by simp[inB];omega
  go_enter Tryz.func103,Tryz.ntmps103;go_wp2_with (go_at_call 46;refine(sD _ _ _ _).mono ?_;rintro e w1⟨rfl,rfl⟩)
  go_ret;exact⟨pY (by simp[ad8 hsz]),rfl⟩
theorem anI (s:ByteArray) (l:List ByteArray):∀k:Nat,(uy s l=true->(k:Int)<=BR s 17 l k/\BR s 17 l k<k+l.length)/\(uy s l=false->BR s 17 l k=17):=by
 induction l with
 | nil=>intro k;simp[uy,BR]
 | cons x r ih =>
  intro k;obtain⟨h1,h2⟩:=ih (k+1);constructor
  ·intro h;unfold BR;split
   ·simp;omega
   ·rename_i hne
    have:uy s r=true:=by simpa[uy,hne]using h
    have:=h1 this;simp;omega
  ·intro h;simp only[uy,Bool.or_eq_false_iff,WF]at h;unfold BR;rw[ZH h.1];exact h2 h.2
theorem anJ (s:ByteArray):nameB s=(sH s&&!uy s reserved):=by
 unfold nameB;cases hw:sH s with
 | false=>rfl
 | true =>
  have hne:¬(⟨#[]⟩:ByteArray)=s:=by
   intro h;rw[ad8 (by rw[<-h];decide)]at hw;cases hw
  have h0:Dx s=BR s 17 reserved 1:=by unfold Dx Ep BR;rw[ZH hne];rfl
  have:=anI s reserved 1;have hl:reserved.length=14:=rfl;rw[h0];cases hh:uy s reserved with
  | false=>simp[this.2 hh]
  | true =>
   have:=this.1 hh;simp;omega
theorem ahi (s:ByteArray) (w:World) (hs:s.size<=1048576) :
  Calls Tryz.prog 75 #[.string s] w λe w'=>e=.returned (.bool (nameB s))/\Below w.heap.size w w':=by
 have HE:=Za (anJ s);cases hw:sH s with
 | false =>
  go_enter Tryz.func75,Tryz.ntmps75;go_wp2_with (go_at_call 103;refine(ahh _ _ hs).mono ?_;rintro e w1⟨rfl,rfl⟩)
  go_ret;exact⟨pY (by rw[HE.out,hw];rfl),Zl _ _⟩
 | true =>
  go_enter Tryz.func75,Tryz.ntmps75;go_wp2_with (first|(go_at_call 103;refine(ahh _ _ hs).mono ?_;rintro e w1⟨rfl,rfl⟩)|(go_at_call 105;refine(anD _).mono ?_;rintro e w2⟨n,rfl,jH,jI,hst,hb1,hs1⟩)|(go_at_call 104;refine(anH _ reserved _ _ hst (by decide)).mono ?_;rintro e w3⟨rfl,rfl⟩))
  go_ret;exact⟨pY (by rw[HE.out,hw];simp),hb1⟩
theorem ad9 (v:Value) (L:List Df) (name:ByteArray) (w:World) (hv:OV w v L) (hn:L.length<=1048576) :
  Calls Tryz.prog 171 #[v,.string name] w λe w'=>e=.returned (.int .i64 (wG name L 0))/\Below w.heap.size w w':=by
 obtain⟨a,cap,rfl,hc,hat⟩:=hv;go_enter Tryz.func171,Tryz.ntmps171;go_wp2;go_loopw [9] (λi wr=>∃k:Nat,k<=L.length/\i=.int .i64 k/\Hid (wG name L 0=wG name (L.drop k) k)/\Below w.heap.size w wr) (λi _=>L.length-(intOf i).toNat)
 case atStart=>exact⟨0,by omega,rfl,(by simp[Hid]:Hid (wG name L 0=wG name (L.drop 0) 0)),Zl _ _⟩
 case round =>
  obtain⟨k,hk,rfl,HF,aI⟩:=hrel;by_cases hlt:k<L.length
  ·obtain⟨b,o,rfl,_,dI⟩:=hat k hlt;obtain⟨c0,c1,c2,v,c3,hv⟩:=dI.keep aI;obtain⟨va,vc,rfl⟩:=hv.slice;have hs:=aI.size;clear hat dI hv;by_cases he:L[k].name=name
   ·have g1:(L[k].name.toList==name.toList)=true:=by rw[JE];simp[he]
    have HK:Hid (wG name L 0=k):=(show wG name L 0=k by rw[HF.out,ZN hlt,wG,ZE he])
    clear he;go_wp2;go_ret;exact⟨abG HK.out.symm,aI.alloc (by omega) _⟩
   ·have g1:(L[k].name.toList==name.toList)=false:=by rw[JE];simp[he]
    have HK:Hid (wG name L 0=wG name (L.drop (k+1)) (k+1)):=(show wG name L 0=_ by rw[HF.out,ZN hlt,wG,ZH he])
    clear he;go_wp2;go_roundw
    case rel=>exact⟨k+1,by omega,by go_num,HK,aI.alloc (by omega) _⟩
    case measure=>simp[intOf];omega
  ·go_wp2;go_ret;exact⟨abG (by rw[HF.out,XE (by omega)];rfl),aI⟩
def fZ (n:Nd):W2×Bool :=
 if n.name≠ByteArray.empty then((0,0),false)else if n.kind=1 then((n.value,n.value),inB n.value 0 12)else if n.kind=2 then((2,2),n.value==0)
 else if 3<=n.kind/\n.kind<=14 then(fJ n.kind,BK n.kind n.value)else((0,0),false)
theorem anK (n:Nd) (w:World) (he:n.name≠ByteArray.empty) :
  Calls Tryz.prog 155 #[.agg #[.int .i64 n.kind,.int .i64 n.value,.string n.name]] w λe w'=>e=.returned (.tuple #[.agg #[.int .i64 (fZ n).1.1,.int .i64 (fZ n).1.2],.bool (fZ n).2])/\Below w.heap.size w w':=by
 have g0:(!n.name.toList.isEmpty)=true:=by simpa using λh=>he ((Yq _).1 h)
 have HR:=Za (show fZ n=((0,0),false)by simp[fZ,he]);clear he;go_enter Tryz.func155,Tryz.ntmps155;go_wp2;refine Zt (v:=.tuple #[.agg #[.int .i64 (fZ n).1.1,.int .i64 (fZ n).1.2],.bool (fZ n).2]) (by simp[results,Tryz.results155,go_sem,HR.out]) rfl ⟨rfl,?_⟩;repeat(first|exact Zl _ _|refine Xh ?_ (by simp<;>omega) _)
theorem anL (n:Nd) (w:World) (he:n.name=ByteArray.empty) (h1:n.kind=1) :
  Calls Tryz.prog 155 #[.agg #[.int .i64 n.kind,.int .i64 n.value,.string n.name]] w λe w'=>e=.returned (.tuple #[.agg #[.int .i64 (fZ n).1.1,.int .i64 (fZ n).1.2],.bool (fZ n).2])/\Below w.heap.size w w':=by
 have h0:n.name.toList=[]:=(Yq _).2 he;have g0:(!n.name.toList.isEmpty)=false:=by simp[h0]
 have g1:(n.kind==1)=true:=by simp[h1]
 have HR:=Za (show fZ n=((n.value,n.value),inB n.value 0 12)by simp[fZ,he,h1]);clear h0 h1 he;go_enter Tryz.func155,Tryz.ntmps155;go_wp2_with fail
 refine adU (C:=Grew ((w.alloc _).alloc _).drew) 8 (by kernel_rfl) (by kernel_rfl) (by kernel_rfl) (Grew.refl _) ?_;simp only[Vl,Y5,Vn,Vh];iterate 7
  refine MK (λK hK=>?_);refine abN rfl ?_;apply Zq;refine⟨λw' hw'=>?_,?_⟩
  ·obtain⟨hc',hf',_⟩:=n_ hw';go_simp;rfl
  go_simp;refine hK _ _ ?_;clear hK K
 refine MK (λK hK=>?_);refine g_call rfl rfl 70 ?_;apply Zq;refine⟨λw' hw'=>?_,?_⟩;(focus go_simp;rfl);refine(rG _ _ _ _).mono ?_;rintro e w4⟨rfl,rfl⟩;refine⟨_,rfl,Grew.refl _,?_⟩;go_simp;apply hK;clear hK K;refine adV ?_;go_wp2;refine Zt (v:=.tuple #[.agg #[.int .i64 (fZ n).1.1,.int .i64 (fZ n).1.2],.bool (fZ n).2]) (by simp[results,Tryz.results155,go_sem,HR.out]) rfl ⟨rfl,?_⟩;exact(((Zl _ _).alloc (Zj _) _).alloc (by simp) _).drew
theorem anM (n:Nd) (w:World) (he:n.name=ByteArray.empty) (h1:n.kind=2) :
  Calls Tryz.prog 155 #[.agg #[.int .i64 n.kind,.int .i64 n.value,.string n.name]] w λe w'=>e=.returned (.tuple #[.agg #[.int .i64 (fZ n).1.1,.int .i64 (fZ n).1.2],.bool (fZ n).2])/\Below w.heap.size w w':=by
 have h0:n.name.toList=[]:=(Yq _).2 he;have g0:(!n.name.toList.isEmpty)=false:=by simp[h0]
 have g1:(n.kind==1)=false:=by simp[h1]
 have g2:(n.kind==2)=true:=by simp[h1]
 have HR:=Za (show fZ n=((2,2),n.value==0)by simp[fZ,he,h1]);clear h0 h1 he;go_enter Tryz.func155,Tryz.ntmps155;go_wp2_with fail
 go_region
 go_wp2;refine Zt (v:=.tuple #[.agg #[.int .i64 (fZ n).1.1,.int .i64 (fZ n).1.2],.bool (fZ n).2]) (by simp[results,Tryz.results155,go_sem,HR.out]) rfl ⟨rfl,?_⟩;exact(((Zl _ _).alloc (Zj _) _).alloc (by simp) _).drew
theorem anN (n:Nd) (w:World) (he:n.name=ByteArray.empty) (h1:3<=n.kind) (h2:n.kind<=14) :
  Calls Tryz.prog 155 #[.agg #[.int .i64 n.kind,.int .i64 n.value,.string n.name]] w λe w'=>e=.returned (.tuple #[.agg #[.int .i64 (fZ n).1.1,.int .i64 (fZ n).1.2],.bool (fZ n).2])/\Below w.heap.size w w':=by
 have h0:n.name.toList=[]:=(Yq _).2 he;have g0:(!n.name.toList.isEmpty)=false:=by simp[h0]
 have g1:(n.kind==1)=false:=by simp;omega
 have g2:(n.kind==2)=false:=by simp;omega
 have g3:inB n.kind 3 14=true:=by simp[inB];omega
 have HR:=Za (show fZ n=(fJ n.kind,BK n.kind n.value)by unfold fZ;rw[ZH (by simp[he]),ZH (by omega),ZH (by omega),ZE ⟨h1,h2⟩]);clear h0 he;go_enter Tryz.func155,Tryz.ntmps155;go_wp2_with (go_at_call 151;refine(aaf _ _).mono ?_;rintro e w2⟨rfl,rfl⟩)
 refine adU (C:=Grew ((w.alloc _).alloc _).drew) 8 (by kernel_rfl) (by kernel_rfl) (by kernel_rfl) (Grew.refl _) ?_;simp only[Vl,Y5,Vn,Vh];iterate 2
  refine MK (λK hK=>?_);refine abN rfl ?_;apply Zq;refine⟨λw' hw'=>?_,?_⟩
  ·obtain⟨hc',hf',_⟩:=n_ hw';go_simp;rfl
  go_simp;refine hK _ _ ?_;clear hK K
 refine MK (λK hK=>?_);refine g_call rfl rfl 153 ?_;apply Zq;refine⟨λw' hw'=>?_,?_⟩;(focus go_simp;rfl);refine(ad6 _ _ h1 h2).mono ?_;rintro e w3⟨rfl,hb3⟩;refine⟨_,rfl,hb3,?_⟩;go_simp;apply hK;clear hK K;iterate 4
  refine MK (λK hK=>?_);refine abN rfl ?_;apply Zq;refine⟨λw' hw'=>?_,?_⟩
  ·obtain⟨hc',hf',_⟩:=n_ hw';go_simp;rfl
  go_simp;refine hK _ _ ?_;clear hK K
 refine MK (λK hK=>?_);refine g_call rfl rfl 152 ?_;apply Zq;refine⟨λw' hw'=>?_,?_⟩;(focus go_simp;rfl);refine(adK _ _ _).mono ?_;rintro e w4⟨rfl,rfl⟩;refine⟨_,rfl,hb3,?_⟩;go_simp;apply hK;clear hK K;refine adV ?_;obtain⟨hc3,hf3,hs3⟩:=n_ hb3;simp only[Zn,Zo]at hs3 hb3;go_wp2;refine Zt (v:=.tuple #[.agg #[.int .i64 (fZ n).1.1,.int .i64 (fZ n).1.2],.bool (fZ n).2]) (by simp[results,Tryz.results155,go_sem,HR.out,hc3]) rfl ⟨rfl,?_⟩;exact(((((((Zl _ _).alloc (Zj _) _).alloc (by simp) _).drew).trans (hb3.mono (by omega))).setCell (by simp) _).setCell (by simp) _)
theorem anO (n:Nd) (w:World) (he:n.name=ByteArray.empty) (h1:¬(1<=n.kind/\n.kind<=14)) :
  Calls Tryz.prog 155 #[.agg #[.int .i64 n.kind,.int .i64 n.value,.string n.name]] w λe w'=>e=.returned (.tuple #[.agg #[.int .i64 (fZ n).1.1,.int .i64 (fZ n).1.2],.bool (fZ n).2])/\Below w.heap.size w w':=by
 have h0:n.name.toList=[]:=(Yq _).2 he;have g0:(!n.name.toList.isEmpty)=false:=by simp[h0]
 have g1:(n.kind==1)=false:=by simp;omega
 have g2:(n.kind==2)=false:=by simp;omega
 have g3:inB n.kind 3 14=false:=by simp[inB];omega
 have HR:=Za (show fZ n=((0,0),false)by unfold fZ;rw[ZH (by simp[he]),ZH (by omega),ZH (by omega),ZH (by omega)]);clear h0 he;go_enter Tryz.func155,Tryz.ntmps155;go_wp2_with (go_at_call 151;refine(aaf _ _).mono ?_;rintro e w2⟨rfl,rfl⟩)
 refine Zt (v:=.tuple #[.agg #[.int .i64 (fZ n).1.1,.int .i64 (fZ n).1.2],.bool (fZ n).2]) (by simp[results,Tryz.results155,go_sem,HR.out]) rfl ⟨rfl,?_⟩;repeat(first|exact Zl _ _|refine Xh ?_ (by simp<;>omega) _)
theorem anP (n:Nd) (w:World) :
  Calls Tryz.prog 155 #[.agg #[.int .i64 n.kind,.int .i64 n.value,.string n.name]] w λe w'=>e=.returned (.tuple #[.agg #[.int .i64 (fZ n).1.1,.int .i64 (fZ n).1.2],.bool (fZ n).2])/\Below w.heap.size w w':=by
 by_cases he:n.name=ByteArray.empty
 ·by_cases h1:n.kind=1
  ·exact anL n w he h1
  by_cases h2:n.kind=2
  ·exact anM n w he h2
  by_cases h3:3<=n.kind/\n.kind<=14
  ·exact anN n w he h3.1 h3.2
  ·exact anO n w he (by omega)
 ·exact anK n w he
theorem anQ (n:Nd) (h:n.kind≠17) (h5:n.kind≠15) (h6:n.kind≠16):(if(fZ n).2 then some (fZ n).1 else none)=bI [] n:=by
 have key:∀(x:W2) (b:Bool),fZ n=(x,b)->jB n=b->(b=true->wF n=x)->(if(fZ n).2 then some (fZ n).1 else none)=bI [] n:=by
  intro x b e1 e2 e3;unfold bI;rw[ZH h,e1,e2];cases b with
  | false=>rfl
  | true=>simp[e3 rfl]
 by_cases he:n.name=ByteArray.empty
 ·by_cases h1:n.kind=1
  ·exact key (n.value,n.value) (inB n.value 0 12) (by simp[fZ,he,h1]) (by simp[jB,he,h1,inB]) (by intro _;simp[wF,h1])
  by_cases h2:n.kind=2
  ·exact key (2,2) (n.value==0) (by simp[fZ,he,h2]) (by simp[jB,he,h2];rfl) (by intro _;simp[wF,h2,fJ])
  by_cases h3:3<=n.kind/\n.kind<=14
  ·have a1:decide (1<=n.kind)=true:=by simp;omega
   have a2:decide (n.kind<=14)=true:=by simp;omega
   refine key (fJ n.kind) (BK n.kind n.value) (by simp[fZ,he,h1,h2,h3]) ?_ (by intro _;simp[wF,h1]);unfold jB;rw[a1,a2,ZH h1];by_cases hv:n.kind=7\/n.kind=13
   ·rw[ZE hv];rcases hv with hv|hv<;>simp[BK,MH,hv,inB,he]
   ·rw[ZH hv];have:MH n.kind=false:=by simp[MH];omega
    simp[BK,this,he];rfl
  ·refine key (0,0) false (by simp[fZ,he,h1,h2,h3]) ?_ (by simp);unfold jB;have a1:(decide (1<=n.kind)&&decide (n.kind<=14))=false:=by simp;omega
   simp only[Vk];rw[<-Vk (decide (1<=n.kind)),a1];simp
 ·exact key (0,0) false (by simp[fZ,he]) (by simp[jB,he]) (by simp)
open Go.Maps
def wd (a b:Int):DataW Unit:=.agg [.lit (.int .i64 a),.lit (.int .i64 b)]
def anR (v:Value):Option (DataW Unit×List MemPlace) :=
 match v with
 | .agg cs=>(match cs.toList with
  | [.int .i64 a,.int .i64 b]=>some (wd a b,[])
  | _=>none)
 | _=>none
def anS (s:ByteArray):Lit:=.string s.data.toList
def mapOf (L:List Df):DataW Unit:=L.foldl (λm d=>m.put (anS d.name) (wd d.inn d.out)) (.map [])
def abV (L:List Df) (s:ByteArray):Option Df:=L.reverse.find? λd=>decide (d.name=s)
def anT (w:World) (b:Nat) (L:List Df):Prop:=w.ownsMap Tryz.prog 9 anR b L.length (mapOf L)
def avx (w:World) (bc:Nat) (L:List Df):Prop:=∃bm,w.cell? ⟨bc,0,none⟩=some (.map (some bm))/\anT w bm L
def FU (L:List Df) (n:Nd):W2×Bool :=
 if n.kind=17 then(((abV L n.name).map λd=>(d.inn,d.out)).getD (0,0),(abV L n.name).isSome&&(n.value==0))else fZ n
theorem yV:(Tryz.prog.info? 3).map (λi=>(i.zero,i.size,i.bytes))=some (some (.int .i64 0),1,8):=by kernel_rfl
theorem Iw {ops:Array Oper} {rest:List Oper} {o:Oper} {a:Act} {Q:Exit->Act->World->Prop} {w:World} (hgd:o.guard=none) (s x:Operand)
  (ho:o.op=.call { callee:=.builtin .append,args:=#[s,x],argTypes:=#[23,23] })
  (B:Nat) (v:Value) (xs:List Int) (f:Int) (tt:TypeId) (g:Nat) (hg:g=w.heap.size) (hs:a.eval s=v) (hx:a.eval x=.slice (some ⟨g,0,none⟩) 1 1) (hown:Rw w B v xs) (hB:B<=w.heap.size) (hl:xs.length<=1048576)
  (h:∀v' w',Rw w' B v' (xs++[f])->(w.alloc (.cells #[.int .i64 f] tt)).grownBy w' v.ownBlock->(v'.ownBlock=v.ownBlock\/v'.ownBlock=some (w.alloc (.cells #[.int .i64 f] tt)).heap.size) ->
   wpList Tryz.prog ops Q rest (a.put o.dst v') w'):wpList Tryz.prog ops Q (o::rest) a (w.alloc (.cells #[.int .i64 f] tt)):=by
 subst hg;obtain⟨i0,hi,hz0,hz1,hz2⟩:=Yg yV;have hown':(w.alloc (.cells #[.int .i64 f] tt)).ownsRow B 3 1 v xs.length (xs.flatMap gU):=jL ((Zl _ _).alloc (Zj _) _) hown;refine wpList_append_own_at _ hgd s x 23 ho B 3 i0 _ 1 8 Tryz.underlying23 hi hz0 hz1 hz2 rfl (by decide) v xs.length (xs.flatMap gU) hs hown' _ 1 1 [.int .i64 f] hx rfl (cell_one_new _ _ _) (by intro u hu;simp at hu;subst hu;rfl) (by unfold maxLen;omega) (by omega) (by simp;omega) ?_;intro v' w' h1 h2 _ h4;refine h v' w' ?_ h2 h4;unfold Rw;rw[Zk,ZL];exact h1
end Go.Proofs.YtkhpobekconobaaGreat
