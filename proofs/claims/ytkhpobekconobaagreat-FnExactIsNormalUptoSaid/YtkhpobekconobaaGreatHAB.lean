import Derived.Test.YtkhpobekconobaaGreatHAA
set_option linter.all false
set_option maxRecDepth 100000
set_option maxHeartbeats 0
namespace Go.Proofs.YtkhpobekconobaaGreat
theorem agZ (m:Nat):∀n,((List.range n).map λw:Nat=>if((m:Int)==(w:Int))=true then 1 else 0).sum=if m<n then 1 else 0
 | 0=>by simp
 | n+1=>by
  rw[YV,ZK,VM,agZ m n];simp only[Yx,Xq,VT,List.sum_nil,XY];by_cases h1:m<n
  ·rw[ZE h1,ZH (by omega:¬(m:Int)=n),ZE (by omega:m<n+1)];rfl
  ·by_cases h2:m=n
   ·rw[ZH h1,ZE (by omega:(m:Int)=n),ZE (by omega:m<n+1)];rfl
   ·rw[ZH h1,ZH (by omega:¬(m:Int)=n),ZH (by omega:¬m<n+1)];rfl
theorem sum_add (f g:Nat->Nat):∀l:List Nat,(l.map λw=>f w+g w).sum=(l.map f).sum+(l.map g).sum
 | []=>rfl
 | x::l=>by simp only[Yx,VT,sum_add f g l];omega
theorem adM (n:Nat):∀(l:List Int),(∀x∈l,0<=x/\x<n)->((List.range n).map λw:Nat=>l.count (w:Int)).sum=l.length
 | [],_=>by
  simp only[List.count_nil,Y6];induction List.range n with
  | nil=>rfl
  | cons a r ih=>simpa using ih
 | x::l,h=>by
  have ih:=adM n l (λy hy=>h y (by simp[hy]));obtain⟨h1,h2⟩:=h x (by simp);obtain⟨m,rfl⟩:∃m:Nat,x=m:=⟨x.toNat,by omega⟩
  have:(λw:Nat=>((m:Int)::l).count (w:Int))=λw:Nat=>l.count (w:Int)+if((m:Int)==(w:Int))=true then 1 else 0:=by
   funext w;rw[Yy]
  rw[this,sum_add,ih,agZ,ZE (by omega)];rfl
theorem adN (f:Nat->Nat):∀n,(∀w,w<n->f w<=1)->((List.range n).map f).sum<=n/\(((List.range n).map f).sum=n->∀w,w<n->f w=1)
 | 0,_=>⟨by simp,λ_ w hw=>by omega⟩
 | n+1,h=>by
  obtain⟨h1,h2⟩:=adN f n (λw hw=>h w (by omega));have h3:=h n (by omega);rw[YV,ZK,VM];simp only[Yx,Xq,VT,List.sum_nil];refine⟨by omega,λe w hw=>?_⟩;by_cases FK:w=n
  ·subst FK;omega
  ·exact h2 (by omega) w (by omega)
theorem ag0 (f:Nat->Nat):∀n,(∀w,w<n->f w=1)->((List.range n).map f).sum=n
 | 0,_=>by simp
 | n+1,h=>by
  rw[YV,ZK,VM,ag0 f n (λw hw=>h w (by omega))];simp[h n (by omega)]
theorem adO {l:List Int}:l.Nodup↔∀x,l.count x<=1:=by
 induction l with
 | nil=>simp
 | cons y l ih =>
  rw[Wm,ih];constructor
  ·rintro⟨h1,h2⟩ x;rw[Yy];by_cases e:y=x
   ·subst e;rw[Wr.2 h1];simp
   ·have:=h2 x;simp[e];exact this
  ·intro h;refine⟨λhm=>?_,λx=>?_⟩
   ·have h1:=h y;rw[Yy]at h1;have h2:=X4.2 hm;simp at h1;omega
   ·have:=h x;rw[Yy]at this;omega
theorem ang (n:Nat) (l:List Int) (h:∀x∈l,0<=x/\x<n):(l.length=n/\l.Nodup)↔∀w:Nat,w<n->l.count (w:Int)=1:=by
 have hs:=adM n l h;constructor
 ·rintro⟨h1,h2⟩;refine(adN (λw=>l.count (w:Int)) n (λw _=>adO.1 h2 _)).2 (by rw[hs,h1])
 ·intro h1;have:=ag0 (λw=>l.count (w:Int)) n h1;refine⟨by rw[<-hs,this],adO.2 λx=>?_⟩;by_cases hx:x∈l
  ·obtain⟨a,b⟩:=h x hx;have:=h1 x.toNat (by omega)
   rw[show((x.toNat:Nat):Int)=x by omega]at this;omega
  ·rw[Wr.2 hx];omega
def qB (e:aO):Bool:=inB e.kind 3 14&&(BK e.kind e.value&&decide (fJ e.kind=((e.aj.length:Int),(e.ay.length:Int))))
def aF.places (g:aF):List Int:=g.aj++(g.ay++g.ah.flatMap λe=>e.aj++e.ay)
def Ej (g:aF):Bool:=inB g.aB 0 100&&(decide (g.ah.length<=60)&&(decide (g.aj.length<=12)&&decide (g.ay.length<=12)))
def iL (n:Int) (l:List Int):Bool:=l.all λw=>inB w 0 (n-1)
def Du (g:aF):Bool:=(List.range g.aB.toNat).all λw:Nat=>g.places.contains (w:Int)
def aY (g:aF):Bool:=Ej g&&(g.ah.all qB&&(iL g.aB g.places&&Du g))
def aF.iM (g:aF):List Int:=g.aj++g.ah.flatMap aO.ay
def aF.iZ (g:aF):List Int:=g.ay++g.ah.flatMap aO.aj
def uU (l:List Int) (n:Int):Bool:=decide ((l.length:Int)=n)&&(iL n l&&decide l.Nodup)
def monoB (g:aF):Bool:=uU g.iM g.aB&&uU g.iZ g.aB
open Go.RowKit
section
variable {P:Program} {ops:Array Oper} {md:Region.Mode} {C:World -> Prop}
def MJ (P:Program) (o:Oper) (a:Act) (v:Value) (w:World):Prop :=
 (execOp a.eval o).run P w=.ok (.value v) w\/((execOp a.eval o).run P w=.ok .skip w/\v=undef)
def Aq (o:Oper):Bool :=
 match o.op with
 | .call c=>(match c.callee with
  | .builtin _=>false
  | _=>true)
 | _=>false
def gOp (P:Program) (C:World->Prop) (o:Oper) (a:Act) (w:World) (K:Act->World->Prop):Prop :=
 (∃v,(∀w',C w'->MJ P o a v w')/\K (a.put o.dst v) w) \/
 (Aq o=true/\∃f args,(∀w',C w'->(execOp a.eval o).run P w'=.ok (.enter f args) w')/\Calls P f args w λe w''=>∃v,e=.returned v/\C w''/\K (a.put o.dst v) w'')
def sG (P:Program) (ops:Array Oper) (C:World->Prop) (o:Oper) (a:Act) (w:World) (K:Act->World->Prop):Prop :=
 if Region.wanted o (yielded ops a.tmps)then gOp P C o a w K else K (a.put o.dst undef) w
def OX (P:Program) (ops:Array Oper) (C:World->Prop) (L:Act->World->Prop):List Oper->Act->World->Prop
 | [],a,w=>L a w
 | o::rest,a,w=>sG P ops C o a w (OX P ops C L rest)
theorem adP {o:Oper} {a:Act} {w:World} {K K':Act->World->Prop} {Q':Exit->Act->World->Prop} (hC:C w) (h:∀a w',C w'->K a w'->K' a w') (hh:gOp P C o a w K):o.wp P a w K' Q':=by
 unfold Oper.wp;rcases hh with⟨v,h1,h2⟩|⟨hi,f,args,h1,h2⟩
 ·rcases h1 w hC with h3|⟨h3,h4⟩
  ·rw[h3,Vf];exact h _ _ hC h2
  ·rw[h3,Oper.upon_skip];subst h4;exact h _ _ hC h2
 ·rw[h1 w hC,Oper.upon_enter];exact h2.mono λe w'' ⟨v,e1,e2,e3⟩=>by subst e1;exact h _ _ e2 e3
theorem adQ {f:FuncId} {args:Array Value} {w:World} {R:Ending->World->Prop} (h:Calls P f args w R):∃e w',R e w':=by
 obtain⟨e,w',_,hR,_⟩:=h [];exact⟨e,w',hR⟩
def qC (P:Program) (ops:Array Oper) (C:World->Prop) (o:Oper) (v:Value) (a:Act):Prop :=
 (Region.wanted o (yielded ops a.tmps)=true/\∀w,C w->MJ P o a v w)\/(Region.wanted o (yielded ops a.tmps)=false/\v=undef)
def BL (P:Program) (ops:Array Oper) (C:World->Prop) (o:Oper) (f:FuncId) (args:Array Value) (a:Act):Prop :=
 Aq o=true/\Region.wanted o (yielded ops a.tmps)=true/\∀w,C w->(execOp a.eval o).run P w=.ok (.enter f args) w
theorem qC.sG {o:Oper} {v:Value} {a:Act} {w:World} {K:Act->World->Prop} (hy:qC P ops C o v a) (h:K (a.put o.dst v) w):sG P ops C o a w K:=by
 unfold Proofs.YtkhpobekconobaaGreat.sG;rcases hy with⟨hw,hv⟩|⟨hw,rfl⟩
 ·rw[ZE hw];exact .inl ⟨v,hv,h⟩
 ·rw[ZH (by rw[hw];simp)];exact h
theorem BL.sG {o:Oper} {f:FuncId} {args:Array Value} {a:Act} {w:World} {K:Act->World->Prop} (hy:BL P ops C o f args a) (h:Calls P f args w λe w''=>∃v,e=.returned v/\C w''/\K (a.put o.dst v) w''):sG P ops C o a w K:=by
 unfold Proofs.YtkhpobekconobaaGreat.sG;obtain⟨h1,h2,h3⟩:=hy;rw[ZE h2];exact .inr ⟨h1,f,args,h3,h⟩
theorem adR {o:Oper} {a:Act} {w:World} {K:Act->World->Prop} (h:sG P ops C o a w K) :
  (∃v,qC P ops C o v a/\K (a.put o.dst v) w)\/(∃f args,BL P ops C o f args a/\Calls P f args w λe w''=>∃v,e=.returned v/\C w''/\K (a.put o.dst v) w''):=by
 unfold sG at h;by_cases hw:Region.wanted o (yielded ops a.tmps)=true
 ·rw[ZE hw]at h;rcases h with⟨v,h1,h2⟩|⟨hi,f,args,h1,h2⟩
  ·exact .inl ⟨v,.inl ⟨hw,h1⟩,h2⟩
  ·exact .inr ⟨f,args,⟨hi,hw,h1⟩,h2⟩
 ·rw[ZH hw]at h;exact .inl ⟨undef,.inr ⟨by simpa using hw,rfl⟩,h⟩
theorem qC.of_same {o:Oper} {v:Value} {a a':Act} (hy:qC P ops C o v a) (he:execOp a'.eval o=execOp a.eval o)
  (hw:Region.wanted o (yielded ops a'.tmps)=Region.wanted o (yielded ops a.tmps)):qC P ops C o v a':=by
 unfold qC MJ at *;rw[he,hw];exact hy
theorem BL.of_same {o:Oper} {f:FuncId} {args:Array Value} {a a':Act} (hy:BL P ops C o f args a) (he:execOp a'.eval o=execOp a.eval o)
  (hw:Region.wanted o (yielded ops a'.tmps)=Region.wanted o (yielded ops a.tmps)):BL P ops C o f args a':=by
 unfold BL at *;rw[he,hw];exact hy
theorem qC.unique {o:Oper} {v v':Value} {a:Act} {w:World} (hC:C w) (h:qC P ops C o v a) (h':qC P ops C o v' a):v=v':=by
 rcases h with⟨h1,h2⟩|⟨h1,h2⟩<;>rcases h' with⟨h3,h4⟩|⟨h3,h4⟩
 ·rcases h2 w hC with h5|⟨h5,h6⟩<;>rcases h4 w hC with h7|⟨h7,h8⟩
  ·rw[h5]at h7;simp at h7;exact h7
  ·rw[h5]at h7;simp at h7
  ·rw[h5]at h7;simp at h7
  ·rw[h6,h8]
 ·rw[h1]at h3;cases h3
 ·rw[h1]at h3;cases h3
 ·rw[h2,h4]
def Io (P:Program) (md:Region.Mode) (ops:Array Oper) (C:World->Prop) (n:Nat) (L:Array Bool->Act->World->Prop):Nat->Array Bool->Act->World->Prop
 | 0,listed,a,w=>L listed a w
 | f+1,listed,a,w=>Region.ready md ops listed≠[]/\∀i∈Region.ready md ops listed,i<n/\∀o,ops[i]?=some o->sG P ops C o a w (Io P md ops C n L f (listed.setIfInBounds i true))
theorem adS {n g:Nat} {L:Array Bool->Act->World->Prop} {Q':Exit->Act->World->Prop} (hL:∀listed a w,C w->L listed a w->wpAny P md ops Q' g listed a w) :
  ∀(f:Nat) (listed:Array Bool) (a:Act) (w:World),C w->Io P md ops C n L f listed a w->wpAny P md ops Q' (f+g) listed a w
 | 0,listed,a,w,hC,h=>by rw[Yp];exact hL _ _ _ hC h
 | f+1,listed,a,w,hC,h=>by
  rw[show f+1+g=(f+g)+1 by omega];refine⟨λh0=>absurd h0 h.1,λi hi=>?_⟩;have h2:=(h.2 i hi).2;obtain⟨_,o,ho,_⟩:=Xk.1 hi;have h3:=h2 o ho;unfold wpOp;simp only[ho];unfold sG at h3;split
  ·rename_i hw
   rw[ZE hw]at h3;exact .inl (adP hC (λa' w' wI h'=>adS hL f _ a' w' wI h') h3)
  ·rename_i hw
   rw[ZH hw]at h3;exact adS hL f _ _ _ hC h3
theorem qC.back {oi oj:Oper} {v u:Value} {a:Act} (hap:oi.apart ops oj=true) (hsj:∀cs b,oj.op≠.select cs b) (h:qC P ops C oj u (a.put oi.dst v)):qC P ops C oj u a:=by
 obtain⟨h1,h2,h3⟩:=XH hap;exact h.of_same (Vc oj hsj a oi.dst v h1).symm (Vb oj a oi.dst v h1).symm
theorem BL.back {oi oj:Oper} {v:Value} {f:FuncId} {args:Array Value} {a:Act} (hap:oi.apart ops oj=true) (hsj:∀cs b,oj.op≠.select cs b) (h:BL P ops C oj f args (a.put oi.dst v)):BL P ops C oj f args a:=by
 obtain⟨h1,h2,h3⟩:=XH hap;exact h.of_same (Vc oj hsj a oi.dst v h1).symm (Vb oj a oi.dst v h1).symm
theorem qC.fwd {oi oj:Oper} {v u:Value} {a:Act} (hap:oi.apart ops oj=true) (tu:∀cs b,oi.op≠.select cs b) (h:qC P ops C oi v a):qC P ops C oi v (a.put oj.dst u):=by
 obtain⟨h1,h2,h3⟩:=XH hap;exact h.of_same (Vc oi tu a oj.dst u h3) (Vb oi a oj.dst u h3)
theorem BL.fwd {oi oj:Oper} {u:Value} {f:FuncId} {args:Array Value} {a:Act} (hap:oi.apart ops oj=true) (tu:∀cs b,oi.op≠.select cs b) (h:BL P ops C oi f args a):BL P ops C oi f args (a.put oj.dst u):=by
 obtain⟨h1,h2,h3⟩:=XH hap;exact h.of_same (Vc oi tu a oj.dst u h3) (Vb oi a oj.dst u h3)
theorem RY {oi oj:Oper} {v u:Value} {a:Act} (hap:oi.apart ops oj=true):(a.put oi.dst v).put oj.dst u=(a.put oj.dst u).put oi.dst v :=
 Act.put_comm a v u (XH hap).2.1
def R_ (md:Region.Mode) (ops:Array Oper):Bool :=
 (List.range ops.size).all λj=>(List.range j).all λi =>
  !(((ops[j]?).map Aq).getD false&&((ops[i]?).map Aq).getD false) ||
   (List.range j).any λp=>decide (i<=p)&&((ops[p]?).map Aq).getD false&&Region.waitsFor md ops j p
theorem ag1 (h:R_ md ops=true) {i j:Nat} {oi oj:Oper} (hi:ops[i]?=some oi) (hj:ops[j]?=some oj) (ci:Aq oi=true) (cj:Aq oj=true) (BM:i<j) :
  ∃p,i<=p/\p<j/\(∃op,ops[p]?=some op/\Aq op=true)/\Region.waitsFor md ops j p=true:=by
 have hjs:j<ops.size:=(ZP.1 hj).1;have h1:=Z7.1 h j (ZW.2 hjs);have h2:=Z7.1 h1 i (ZW.2 BM);simp only[hi,hj,VK,YL,ci,cj,Bool.and_self,Bool.not_true,Vt]at h2;obtain⟨p,hp,rH⟩:=XA.1 h2;simp only[Zu,ZF]at rH;refine⟨p,rH.1.1,ZW.1 hp,?_,rH.2⟩;cases hop:ops[p]? with
 | none=>simp[hop]at rH
 | some op=>exact⟨op,rfl,by simpa[hop]using rH.1.2⟩
theorem anh {n:Nat} {listed:Array Bool} (h:R_ md ops=true) (inv:HeadInv md ops n listed) {i:Nat} {oi:Oper} (hi:ops[i]?=some oi) (ci:Aq oi=true) (jC:listed.getD i true=false) :
  ∀(d j:Nat) (oj:Oper),j-i=d->i<j->ops[j]?=some oj->Aq oj=true->listed.getD j false=false:=by
 intro d;induction d using Nat.strongRecOn with
 | _ d ih =>
  intro j oj hd BM hj cj;obtain⟨p,h1,h2,⟨op,hp,cp⟩,hw⟩:=ag1 h hi hj ci cj BM;cases hl:listed.getD j false with
  | false=>rfl
  | true =>
   obtain⟨JG,uV,e,he,hb,BN⟩:=Vr hw;have h3:=inv.closed j JG uV hl e he hb;rw[BN]at h3;by_cases hpi:p=i
   ·subst hpi;rw[WS jC]at h3;cases h3
   ·have:=ih (p-i) (by omega) p op rfl (by omega) hp cp;rw[this]at h3;cases h3
theorem ani {n:Nat} {listed:Array Bool} (h:R_ md ops=true) (inv:HeadInv md ops n listed) {i j:Nat} {oi oj:Oper} (hi:ops[i]?=some oi) (ci:Aq oi=true) (jC:listed.getD i true=false)
  (eU:∀k,k<i->listed.getD k true=true) (hj:ops[j]?=some oj) (cj:Aq oj=true) (uX:j≠i):j ∉ Region.ready md ops listed:=by
 intro hr;obtain⟨BO,JG,uV,hall⟩:=Xk.1 hr;rcases Yj j i with hlt|qW
 ·rw[eU j hlt]at BO;cases BO
 ·have BM:i<j:=by omega
  obtain⟨p,h1,h2,⟨op,hp,cp⟩,hw⟩:=ag1 h hi hj ci cj BM;obtain⟨anj,ank,e,he,hb,BN⟩:=Vr hw;have e1:JG=anj:=Zy (uV.symm.trans ank);subst e1;have h3:=hall e he hb;rw[BN]at h3;by_cases hpi:p=i
  ·subst hpi;rw[WS jC]at h3;cases h3
  ·rw[anh h inv hi ci jC _ p op rfl (by omega) hp cp]at h3;cases h3
theorem ag2 {listed:Array Bool} {i:Nat} {oj:Oper} (hr:i∈Region.ready md ops listed) (hall:∀e∈oj.after,Region.binds md e=true->listed.getD e.on false=true) :
  ∀e∈oj.after,Region.binds md e=true->e.on≠i:=λe he hb JH=>by
 have h1:=hall e he hb;rw[JH,WS (Xk.1 hr).1]at h1;cases h1
theorem anl {n i:Nat} {oi:Oper} {v:Value} {L:Array Bool->Act->World->Prop} (hi:ops[i]?=some oi) (jG:∀(j:Nat) (o:Oper) cs b,ops[j]?=some o->o.op≠.select cs b)
  (hs:Region.sinkB md ops n=true) (hc:Region.chainB md ops n=true) (hn:n<ops.size) (bV:i<n)
  (hdone:∀listed a w,L listed a w->∀j∈Region.ready md ops listed,n<=j) :
  ∀(f:Nat) (listed:Array Bool) (a:Act) (w:World),HeadInv md ops n listed ->
   (∀j oj,ops[j]?=some oj->j≠i->listed.getD j true=false->(∀e∈oj.after,Region.binds md e=true->e.on≠i)->oi.apart ops oj=true) ->
   i∈Region.ready md ops listed->qC P ops C oi v a ->
   Io P md ops C n L f (listed.setIfInBounds i true) (a.put oi.dst v) w->Io P md ops C n L (f+1) listed a w:=by
 intro f;induction f with
 | zero =>
  intro listed a w inv _ hr hy H;have jC:=(Xk.1 hr).1;refine⟨λh=>(by rw[h]at hr;cases hr),λj hj=>?_⟩;have Ip:j<n:=by
   rcases Yj j n with h|h
   ·exact h
   ·exact absurd hj (VX hs hc hn inv _ i rfl bV jC j h)
  refine⟨Ip,λo ho=>?_⟩;by_cases uX:j=i
  ·subst uX;rw[hi]at ho;obtain rfl:=Zy ho;exact hy.sG H
  ·have:=hdone _ _ _ H j (Wu hj uX);omega
 | succ f ih =>
  intro listed a w inv aah hr hy H;have jC:=(Xk.1 hr).1;refine⟨λh=>(by rw[h]at hr;cases hr),λj hj=>?_⟩;have Ip:j<n:=by
   rcases Yj j n with h|h
   ·exact h
   ·exact absurd hj (VX hs hc hn inv _ i rfl bV jC j h)
  refine⟨Ip,λo ho=>?_⟩;by_cases uX:j=i
  ·subst uX;rw[hi]at ho;obtain rfl:=Zy ho;exact hy.sG H
  ·have h1:=(H.2 j (Wu hj uX)).2 o ho;obtain⟨BO,oj,lX,hall⟩:=Xk.1 hj;have eo:o=oj:=Zy (ho.symm.trans lX);subst eo;have hap:=aah j o ho uX BO (ag2 hr hall);have hsj:=λcs b=>jG j o cs b ho;have tu:=λcs b=>jG i oi cs b hi;have abL:∀k ok,ops[k]?=some ok->k≠i->(listed.setIfInBounds j true).getD k true=false ->
     (∀e∈ok.after,Region.binds md e=true->e.on≠i)->oi.apart ops ok=true:=λk ok hk FM jC hno=>by
    refine aah k ok hk FM ?_ hno;by_cases hjk:j=k
    ·subst hjk;exact BO
    ·rw[getD_set_ne true hjk]at jC;exact jC
   have abM:=VW (xs:=listed) (a:=true) (b:=true) (i:=i) (j:=j) (Ne.symm uX);rcases adR h1 with⟨u,h2,h3⟩|⟨g,args,h2,h3⟩
   ·refine(h2.back hap hsj).sG (ih _ _ _ (inv.set hj Ip) abL (Wu hr (Ne.symm uX)) (hy.fwd hap tu) ?_);rw[<-RY hap,<-abM];exact h3
   ·refine(h2.back hap hsj).sG (h3.mono λe w'' ⟨u,e1,e2,e3⟩=>⟨u,e1,e2,ih _ _ _ (inv.set hj Ip) abL (Wu hr (Ne.symm uX)) (hy.fwd hap tu) ?_⟩);rw[<-RY hap,<-abM];exact e3
theorem anm {n i:Nat} {oi:Oper} {g:FuncId} {args:Array Value} {L:Array Bool->Act->World->Prop} (hi:ops[i]?=some oi) (jG:∀(j:Nat) (o:Oper) cs b,ops[j]?=some o->o.op≠.select cs b)
  (hs:Region.sinkB md ops n=true) (hc:Region.chainB md ops n=true) (hk:R_ md ops=true) (hn:n<ops.size) (bV:i<n)
  (hdone:∀listed a w,L listed a w->∀j∈Region.ready md ops listed,n<=j) :
  ∀(f:Nat) (listed:Array Bool) (a:Act) (w:World),C w->HeadInv md ops n listed ->
   (∀j oj,ops[j]?=some oj->j≠i->listed.getD j true=false->(∀e∈oj.after,Region.binds md e=true->e.on≠i)->oi.apart ops oj=true) ->
   (∀k,k<i->listed.getD k true=true) ->
   i∈Region.ready md ops listed->BL P ops C oi g args a ->
   (Calls P g args w λe w''=>∃v,e=.returned v/\C w''/\Io P md ops C n L f (listed.setIfInBounds i true) (a.put oi.dst v) w'')->Io P md ops C n L (f+1) listed a w:=by
 intro f;induction f with
 | zero =>
  intro listed a w hC inv _ eU hr hy H;have jC:=(Xk.1 hr).1;refine⟨λh=>(by rw[h]at hr;cases hr),λj hj=>?_⟩;have Ip:j<n:=by
   rcases Yj j n with h|h
   ·exact h
   ·exact absurd hj (VX hs hc hn inv _ i rfl bV jC j h)
  refine⟨Ip,λo ho=>?_⟩;by_cases uX:j=i
  ·subst uX;rw[hi]at ho;obtain rfl:=Zy ho;exact hy.sG H
  ·obtain⟨e,w'',v,_,_,h3⟩:=adQ H;have:=hdone _ _ _ h3 j (Wu hj uX);omega
 | succ f ih =>
  intro listed a w hC inv aah eU hr hy H;have jC:=(Xk.1 hr).1;refine⟨λh=>(by rw[h]at hr;cases hr),λj hj=>?_⟩;have Ip:j<n:=by
   rcases Yj j n with h|h
   ·exact h
   ·exact absurd hj (VX hs hc hn inv _ i rfl bV jC j h)
  refine⟨Ip,λo ho=>?_⟩;by_cases uX:j=i
  ·subst uX;rw[hi]at ho;obtain rfl:=Zy ho;exact hy.sG H
  ·obtain⟨BO,oj,lX,hall⟩:=Xk.1 hj;have eo:o=oj:=Zy (ho.symm.trans lX);subst eo;have hap:=aah j o ho uX BO (ag2 hr hall);have hsj:=λcs b=>jG j o cs b ho;have tu:=λcs b=>jG i oi cs b hi;have hnc:Aq o=false:=by
    cases hcj:Aq o with
    | false=>rfl
    | true=>exact absurd hj (ani hk inv hi hy.1 jC eU ho hcj uX)
   have abL:∀k ok,ops[k]?=some ok->k≠i->(listed.setIfInBounds j true).getD k true=false ->
     (∀e∈ok.after,Region.binds md e=true->e.on≠i)->oi.apart ops ok=true:=λk ok hk FM jC hno=>by
    refine aah k ok hk FM ?_ hno;by_cases hjk:j=k
    ·subst hjk;exact BO
    ·rw[getD_set_ne true hjk]at jC;exact jC
   have adT:∀k,k<i->(listed.setIfInBounds j true).getD k true=true:=λk hk=>by
    by_cases hjk:j=k
    ·subst hjk;rw[eU j hk]at BO;cases BO
    ·rw[getD_set_ne true hjk];exact eU k hk
   have abM:=VW (xs:=listed) (a:=true) (b:=true) (i:=i) (j:=j) (Ne.symm uX);have step:∀v w'',C w''->Io P md ops C n L (f+1) (listed.setIfInBounds i true) (a.put oi.dst v) w'' ->
     ∃u,qC P ops C o u a/\Io P md ops C n L f ((listed.setIfInBounds j true).setIfInBounds i true) ((a.put o.dst u).put oi.dst v) w'':=by
    intro v w'' avv h3;have h1:=(h3.2 j (Wu hj uX)).2 o ho;rcases adR h1 with⟨u,h2,h4⟩|⟨_,_,h2,_⟩
    ·refine⟨u,h2.back hap hsj,?_⟩;rw[<-RY hap,<-abM];exact h4
    ·rw[h2.1]at hnc;cases hnc
   obtain⟨_,w0,v0,_,hC0,h0⟩:=adQ H;obtain⟨u,hyu,_⟩:=step v0 w0 hC0 h0;refine hyu.sG (ih _ _ _ hC (inv.set hj Ip) abL adT (Wu hr (Ne.symm uX)) (hy.fwd hap tu) ?_);refine H.mono λe w'' ⟨v,e1,e2,e3⟩=>⟨v,e1,e2,?_⟩
   obtain⟨u',ano,h5⟩:=step v w'' e2 e3;rw[hyu.unique hC ano];exact h5
theorem ag3 {n g:Nat} {Lq:Act->World->Prop} (jG:Region.noSelect ops=true) (hs:Region.sinkB md ops n=true) (hc:Region.chainB md ops n=true) (hk:R_ md ops=true) (hn:n<ops.size) :
  ∀(l:List Oper) (k:Nat) (listed:Array Bool) (a:Act) (w:World),C w->(∀j,j<l.length->l[j]?=ops[k+j]?)->k+l.length=n->HeadInv md ops n listed->(∀j,j<k->listed.getD j true=true) ->
  Region.lexHead md ops g l.length k listed=true->OX P ops C Lq l a w ->
  Io P md ops C n (λlisted' a' w'=>Region.seqB md ops g n listed'=true/\Lq a' w') l.length listed a w
 | [],k,listed,a,w,_,_,Ar,_,_,hB,h=>by
  have:k=n:=by simpa using Ar
  subst this;exact⟨by simpa[Region.lexHead]using hB,h⟩
 | o::l,k,listed,a,w,hC,hl,Ar,inv,eU,hB,h=>by
  have h0:ops[k]?=some o:=by simpa using(hl 0 (by simp)).symm
  simp only[Yv,Region.lexHead,Zu]at hB;obtain⟨⟨hr,hf⟩,yI⟩:=hB;have yU:k<n:=by simp only[Yv]at Ar;omega
  have hr':k∈Region.ready md ops listed:=by simpa using hr
  have hks:k<listed.size:=by rw[inv.size];omega
  have adT:∀j,j<k+1->(listed.setIfInBounds k true).getD j true=true:=λj hj=>by
   by_cases hjk:k=j
   ·subst hjk;simp
   ·rw[getD_set_ne true hjk];exact eU j (by omega)
  have go:∀a' w',C w'->OX P ops C Lq l a' w'->Io P md ops C n (λlisted' a' w'=>Region.seqB md ops g n listed'=true/\Lq a' w') l.length (listed.setIfInBounds k true) a' w':=λa' w' wI h' =>
   ag3 jG hs hc hk hn l (k+1) _ _ _ wI (λj hj=>by have:=hl (j+1) (by simp;omega);simpa[Vs,Nat.add_comm 1 j]using this) (by simp only[Yv]at Ar;omega) (inv.set hr' yU) adT yI h'
  rcases adR h with⟨v,hy,hK⟩|⟨f,args,hy,hK⟩
  ·exact anl h0 (Xy jG) hs hc hn yU (λlisted' a' w' hL=>seqB_ready hL.1) l.length listed a w inv (Region.free_spec h0 hf) hr' hy (go _ _ hC hK)
  ·exact anm h0 (Xy jG) hs hc hk hn yU (λlisted' a' w' hL=>seqB_ready hL.1) l.length listed a w hC inv (Region.free_spec h0 hf) eU hr' hy
    (hK.mono λe w'' ⟨v,e1,e2,e3⟩=>⟨v,e1,e2,go _ _ e2 e3⟩)
theorem adU {id:Nat} {Q:Exit->Act->World->Prop} {a:Act} {w:World} {l:List Oper} (n:Nat) (hm:P.follows .mixedOrders=true) (hB:Region.lexTailB .any l.toArray n=true) (hk:R_ .any l.toArray=true)
  (hC:C w.drew) (h:OX P l.toArray C (λa' w'=>wpList P l.toArray Q (l.drop n) a' w') (l.take n) a w.drew):(Code.region id l.toArray true).wp P Q a w:=by
 simp only[Region.lexTailB,Zu,ZF]at hB;obtain⟨⟨⟨⟨jG,hn⟩,hs⟩,hc⟩,anp⟩:=hB;have JF:n<l.length:=by simpa using hn
 have Em:(l.take n).length=n:=by simp;omega
 have FP:(l.drop n).length=l.toArray.size-n:=by simp
 have inv0:HeadInv .any l.toArray n (Array.replicate l.toArray.size false) :=
  ⟨by simp,λj oj _ hl=>(by rw[Xc]at hl;cases hl),λt _ ht=>VH (by simpa using ht) (Xc _ _)⟩
 have H:=ag3 (md:=.any) (g:=l.toArray.size-n) jG hs hc hk hn (l.take n) 0 _ a _ hC (λj hj=>by
  have uV:j<n:=by rw[Em]at hj;exact hj
  simp[uV]) (by simpa using Em) inv0 (λj hj=>absurd hj (VL _)) (by rw[Em];exact anp) h
 refine Vz hm ?_;have:=adS (Q':=Q) (g:=l.toArray.size-n) (λlisted a' w' _ hL=>by
  have:=wpAny_of_seq (md:=.any) (Q':=Q) (l.drop n) n listed a' w' (λj=>by simp[Vv]) (by rw[FP];exact hL.1) hL.2;rwa [FP]at this) _ _ _ _ hC H
 rw[Em,show n+(l.toArray.size-n)=l.toArray.size by omega]at this;exact this
theorem MK {L:Act->World->Prop} {a:Act} {w:World} {o:Oper} {rest:List Oper} (h:∀K:Act->World->Prop,(∀a w,OX P ops C L rest a w->K a w)->sG P ops C o a w K):OX P ops C L (o::rest) a w :=
 h _ λ_ _ h=>h
theorem adV {L:Act->World->Prop} {a:Act} {w:World} (h:L a w):OX P ops C L [] a w:=h
theorem abN {o:Oper} {a:Act} {w:World} {K:Act->World->Prop} (hg:o.guard=none) (h:∃v,(∀w',C w'->(execOp a.eval o).run P w'=.ok (.value v) w')/\K (a.put o.dst v) w):sG P ops C o a w K:=by
 obtain⟨v,h1,h2⟩:=h;unfold sG;rw[ZE (by simp[Region.wanted,hg])];exact .inl ⟨v,λw' hw'=>.inl (h1 w' hw'),h2⟩
theorem g_call {o:Oper} {a:Act} {w:World} {K:Act->World->Prop} (hg:o.guard=none) (hc:Aq o=true) (f:FuncId)
  (h:∃args,(∀w',C w'->(execOp a.eval o).run P w'=.ok (.enter f args) w')/\Calls P f args w λe w''=>∃v,e=.returned v/\C w''/\K (a.put o.dst v) w''):sG P ops C o a w K:=by
 obtain⟨args,h1,h2⟩:=h;unfold sG;rw[ZE (by simp[Region.wanted,hg])];exact .inr ⟨hc,f,args,h1,h2⟩
def Grew (w:World):World->Prop:=λw'=>Below w.heap.size w w'
theorem Grew.refl (w:World):Grew w w:=Zl _ _
end
end Go.Proofs.YtkhpobekconobaaGreat
