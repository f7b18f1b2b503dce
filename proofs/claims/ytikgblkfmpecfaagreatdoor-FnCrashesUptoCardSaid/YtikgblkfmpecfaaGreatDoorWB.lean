/-
  Regions that draw their order, with calls that make memory: the reads hold in every world that has only grown, the calls come in the order of the text.
  One walk in the order of the text serves every order. Own work, over the library's laws on orders.
-/
import Derived.StillTailTactics
import Derived.WalkKit
import Derived.Test.YtikgblkfmpecfaaGreatDoorWA
import Derived.Maps.AppendAt
set_option linter.all false
set_option maxRecDepth 100000
set_option maxHeartbeats 8000000
namespace Go.Proofs.YtikgblkfmpecfaaGreatDoor
open Go.RowKit
section
variable {P:Program} {ops:Array Oper} {md:Region.Mode} {C:World -> Prop}
def yF (P:Program) (o:Oper) (a:Act) (v:Value) (w:World):Prop :=
 (execOp a.eval o).run P w=.ok (.value v) w\/((execOp a.eval o).run P w=.ok .skip w/\v=undef)
def oI (o:Oper):Bool :=
 match o.op with
 | .call c=>(match c.callee with
  | .builtin _=>false
  | _=>true)
 | _=>false
def Un (P:Program) (C:World->Prop) (o:Oper) (a:Act) (w:World) (K:Act->World->Prop):Prop :=
 (∃v,(∀w',C w'->yF P o a v w')/\K (a.put o.dst v) w) \/
 (oI o=true/\∃f args,(∀w',C w'->(execOp a.eval o).run P w'=.ok (.enter f args) w')/\Calls P f args w λe w''=>∃v,e=.returned v/\C w''/\K (a.put o.dst v) w'')
def jK (P:Program) (ops:Array Oper) (C:World->Prop) (o:Oper) (a:Act) (w:World) (K:Act->World->Prop):Prop :=
 if Region.wanted o (yielded ops a.tmps)then Un P C o a w K else K (a.put o.dst undef) w
def zY (P:Program) (ops:Array Oper) (C:World->Prop) (L:Act->World->Prop):List Oper->Act->World->Prop
 | [],a,w=>L a w
 | o::rest,a,w=>jK P ops C o a w (zY P ops C L rest)
theorem Nj {o:Oper} {a:Act} {w:World} {K K':Act->World->Prop} {Q':Exit->Act->World->Prop} (hC:C w) (h:∀a w',C w'->K a w'->K' a w') (hh:Un P C o a w K):o.wp P a w K' Q':=by
 unfold Oper.wp;rcases hh with⟨v,h1,h2⟩|⟨hi,f,args,h1,h2⟩
 ·rcases h1 w hC with h3|⟨h3,h4⟩
  ·rw[h3,Oper.upon_value];exact h _ _ hC h2
  ·rw[h3,Oper.upon_skip];subst h4;exact h _ _ hC h2
 ·rw[h1 w hC,Oper.upon_enter];exact h2.mono λe w'' ⟨v,e1,e2,e3⟩=>by subst e1;exact h _ _ e2 e3
theorem Nk {f:FuncId} {args:Array Value} {w:World} {R:Ending->World->Prop} (h:Calls P f args w R):∃e w',R e w':=by
 obtain⟨e,w',_,hR,_⟩:=h [];exact⟨e,w',hR⟩
def jd (P:Program) (ops:Array Oper) (C:World->Prop) (o:Oper) (v:Value) (a:Act):Prop :=
 (Region.wanted o (yielded ops a.tmps)=true/\∀w,C w->yF P o a v w)\/(Region.wanted o (yielded ops a.tmps)=false/\v=undef)
def pK (P:Program) (ops:Array Oper) (C:World->Prop) (o:Oper) (f:FuncId) (args:Array Value) (a:Act):Prop :=
 oI o=true/\Region.wanted o (yielded ops a.tmps)=true/\∀w,C w->(execOp a.eval o).run P w=.ok (.enter f args) w
theorem jd.jK {o:Oper} {v:Value} {a:Act} {w:World} {K:Act->World->Prop} (hy:jd P ops C o v a) (h:K (a.put o.dst v) w):jK P ops C o a w K:=by
 unfold Proofs.YtikgblkfmpecfaaGreatDoor.jK;rcases hy with⟨hw,hv⟩|⟨hw,rfl⟩
 ·rw[if_pos hw];exact .inl ⟨v,hv,h⟩
 ·rw[if_neg (by rw[hw];simp)];exact h
theorem pK.jK {o:Oper} {f:FuncId} {args:Array Value} {a:Act} {w:World} {K:Act->World->Prop} (hy:pK P ops C o f args a) (h:Calls P f args w λe w''=>∃v,e=.returned v/\C w''/\K (a.put o.dst v) w''):jK P ops C o a w K:=by
 unfold Proofs.YtikgblkfmpecfaaGreatDoor.jK;obtain⟨h1,h2,h3⟩:=hy;rw[if_pos h2];exact .inr ⟨h1,f,args,h3,h⟩
theorem Nl {o:Oper} {a:Act} {w:World} {K:Act->World->Prop} (h:jK P ops C o a w K) :
  (∃v,jd P ops C o v a/\K (a.put o.dst v) w)\/(∃f args,pK P ops C o f args a/\Calls P f args w λe w''=>∃v,e=.returned v/\C w''/\K (a.put o.dst v) w''):=by
 unfold jK at h;by_cases hw:Region.wanted o (yielded ops a.tmps)=true
 ·rw[if_pos hw]at h;rcases h with⟨v,h1,h2⟩|⟨hi,f,args,h1,h2⟩
  ·exact .inl ⟨v,.inl ⟨hw,h1⟩,h2⟩
  ·exact .inr ⟨f,args,⟨hi,hw,h1⟩,h2⟩
 ·rw[if_neg hw]at h;exact .inl ⟨undef,.inr ⟨by simpa using hw,rfl⟩,h⟩
theorem jd.of_same {o:Oper} {v:Value} {a a':Act} (hy:jd P ops C o v a) (he:execOp a'.eval o=execOp a.eval o)
  (hw:Region.wanted o (yielded ops a'.tmps)=Region.wanted o (yielded ops a.tmps)):jd P ops C o v a':=by
 unfold jd yF at *;rw[he,hw];exact hy
theorem pK.of_same {o:Oper} {f:FuncId} {args:Array Value} {a a':Act} (hy:pK P ops C o f args a) (he:execOp a'.eval o=execOp a.eval o)
  (hw:Region.wanted o (yielded ops a'.tmps)=Region.wanted o (yielded ops a.tmps)):pK P ops C o f args a':=by
 unfold pK at *;rw[he,hw];exact hy
theorem jd.unique {o:Oper} {v v':Value} {a:Act} {w:World} (hC:C w) (h:jd P ops C o v a) (h':jd P ops C o v' a):v=v':=by
 rcases h with⟨h1,h2⟩|⟨h1,h2⟩<;>rcases h' with⟨h3,h4⟩|⟨h3,h4⟩
 ·rcases h2 w hC with h5|⟨h5,h6⟩<;>rcases h4 w hC with h7|⟨h7,h8⟩
  ·rw[h5]at h7;simp at h7;exact h7
  ·rw[h5]at h7;simp at h7
  ·rw[h5]at h7;simp at h7
  ·rw[h6,h8]
 ·rw[h1]at h3;cases h3
 ·rw[h1]at h3;cases h3
 ·rw[h2,h4]
def vF (P:Program) (md:Region.Mode) (ops:Array Oper) (C:World->Prop) (n:Nat) (L:Array Bool->Act->World->Prop):Nat->Array Bool->Act->World->Prop
 | 0,listed,a,w=>L listed a w
 | f+1,listed,a,w=>Region.ready md ops listed≠[]/\∀i∈Region.ready md ops listed,i<n/\∀o,ops[i]?=some o->jK P ops C o a w (vF P md ops C n L f (listed.setIfInBounds i true))
theorem Np {n g:Nat} {L:Array Bool->Act->World->Prop} {Q':Exit->Act->World->Prop} (hL:∀listed a w,C w->L listed a w->wpAny P md ops Q' g listed a w) :
  ∀(f:Nat) (listed:Array Bool) (a:Act) (w:World),C w->vF P md ops C n L f listed a w->wpAny P md ops Q' (f+g) listed a w
 | 0,listed,a,w,hC,h=>by rw[Nat.zero_add];exact hL _ _ _ hC h
 | f+1,listed,a,w,hC,h=>by
  rw[show f+1+g=(f+g)+1 by omega];refine⟨λh0=>absurd h0 h.1,λi hi=>?_⟩;have h2:=(h.2 i hi).2;obtain⟨_,o,ho,_⟩:=mem_ready.1 hi;have h3:=h2 o ho;unfold wpOp;simp only[ho];unfold jK at h3;split
  ·rename_i hw
   rw[if_pos hw]at h3;exact .inl (Nj hC (λa' w' hC' h'=>Np hL f _ a' w' hC' h') h3)
  ·rename_i hw
   rw[if_neg hw]at h3;exact Np hL f _ _ _ hC h3
theorem jd.back {oi oj:Oper} {v u:Value} {a:Act} (hap:oi.apart ops oj=true) (hsj:∀cs b,oj.op≠.select cs b) (h:jd P ops C oj u (a.put oi.dst v)):jd P ops C oj u a:=by
 obtain⟨h1,h2,h3⟩:=Oper.apart_spec hap;exact h.of_same (execOp_put oj hsj a oi.dst v h1).symm (wanted_put oj a oi.dst v h1).symm
theorem pK.back {oi oj:Oper} {v:Value} {f:FuncId} {args:Array Value} {a:Act} (hap:oi.apart ops oj=true) (hsj:∀cs b,oj.op≠.select cs b) (h:pK P ops C oj f args (a.put oi.dst v)):pK P ops C oj f args a:=by
 obtain⟨h1,h2,h3⟩:=Oper.apart_spec hap;exact h.of_same (execOp_put oj hsj a oi.dst v h1).symm (wanted_put oj a oi.dst v h1).symm
theorem jd.fwd {oi oj:Oper} {v u:Value} {a:Act} (hap:oi.apart ops oj=true) (hsi:∀cs b,oi.op≠.select cs b) (h:jd P ops C oi v a):jd P ops C oi v (a.put oj.dst u):=by
 obtain⟨h1,h2,h3⟩:=Oper.apart_spec hap;exact h.of_same (execOp_put oi hsi a oj.dst u h3) (wanted_put oi a oj.dst u h3)
theorem pK.fwd {oi oj:Oper} {u:Value} {f:FuncId} {args:Array Value} {a:Act} (hap:oi.apart ops oj=true) (hsi:∀cs b,oi.op≠.select cs b) (h:pK P ops C oi f args a):pK P ops C oi f args (a.put oj.dst u):=by
 obtain⟨h1,h2,h3⟩:=Oper.apart_spec hap;exact h.of_same (execOp_put oi hsi a oj.dst u h3) (wanted_put oi a oj.dst u h3)
theorem C9 {oi oj:Oper} {v u:Value} {a:Act} (hap:oi.apart ops oj=true):(a.put oi.dst v).put oj.dst u=(a.put oj.dst u).put oi.dst v :=
 Act.put_comm a v u (Oper.apart_spec hap).2.1
def C_ (md:Region.Mode) (ops:Array Oper):Bool :=
 (List.range ops.size).all λj=>(List.range j).all λi =>
  !(((ops[j]?).map oI).getD false&&((ops[i]?).map oI).getD false) ||
   (List.range j).any λp=>decide (i<=p)&&((ops[p]?).map oI).getD false&&Region.waitsFor md ops j p
theorem Uo (h:C_ md ops=true) {i j:Nat} {oi oj:Oper} (hi:ops[i]?=some oi) (hj:ops[j]?=some oj) (ci:oI oi=true) (cj:oI oj=true) (hij:i<j) :
  ∃p,i<=p/\p<j/\(∃op,ops[p]?=some op/\oI op=true)/\Region.waitsFor md ops j p=true:=by
 have hjs:j<ops.size:=(Array.getElem?_eq_some_iff.1 hj).1;have h1:=List.all_eq_true.1 h j (List.mem_range.2 hjs);have h2:=List.all_eq_true.1 h1 i (List.mem_range.2 hij);simp only[hi,hj,Option.map_some,Option.getD_some,ci,cj,Bool.and_self,Bool.not_true,Bool.false_or]at h2;obtain⟨p,hp,hp2⟩:=List.any_eq_true.1 h2;simp only[Bool.and_eq_true,decide_eq_true_eq]at hp2;refine⟨p,hp2.1.1,List.mem_range.1 hp,?_,hp2.2⟩;cases hop:ops[p]? with
 | none=>simp[hop]at hp2
 | some op=>exact⟨op,rfl,by simpa[hop]using hp2.1.2⟩
theorem aaR {n:Nat} {listed:Array Bool} (h:C_ md ops=true) (inv:HeadInv md ops n listed) {i:Nat} {oi:Oper} (hi:ops[i]?=some oi) (ci:oI oi=true) (hun:listed.getD i true=false) :
  ∀(d j:Nat) (oj:Oper),j-i=d->i<j->ops[j]?=some oj->oI oj=true->listed.getD j false=false:=by
 intro d;induction d using Nat.strongRecOn with
 | _ d ih =>
  intro j oj hd hij hj cj
  obtain⟨p,h1,h2,⟨op,hp,cp⟩,hw⟩:=Uo h hi hj ci cj hij
  cases hl:listed.getD j false with
  | false=>rfl
  | true =>
   obtain⟨wV,hj',e,he,hb,hon⟩:=Region.waitsFor_spec hw
   have h3:=inv.closed j wV hj' hl e he hb
   rw[hon]at h3
   by_cases hpi:p=i
   ·subst hpi
    rw[getD_both hun]at h3
    cases h3
   ·have:=ih (p-i) (by omega) p op rfl (by omega) hp cp
    rw[this]at h3
    cases h3
theorem aaS {n:Nat} {listed:Array Bool} (h:C_ md ops=true) (inv:HeadInv md ops n listed) {i j:Nat} {oi oj:Oper} (hi:ops[i]?=some oi) (ci:oI oi=true) (hun:listed.getD i true=false)
  (hlow:∀k,k<i->listed.getD k true=true) (hj:ops[j]?=some oj) (cj:oI oj=true) (hji:j≠i):j ∉ Region.ready md ops listed:=by
 intro hr;obtain⟨hjun,wV,hj',hall⟩:=mem_ready.1 hr;rcases Nat.lt_or_ge j i with hlt|hge
 ·rw[hlow j hlt]at hjun;cases hjun
 ·have hij:i<j:=by omega
  obtain⟨p,h1,h2,⟨op,hp,cp⟩,hw⟩:=Uo h hi hj ci cj hij;obtain⟨aaT,aaU,e,he,hb,hon⟩:=Region.waitsFor_spec hw;have e1:wV=aaT:=Option.some.inj (hj'.symm.trans aaU);subst e1;have h3:=hall e he hb;rw[hon]at h3;by_cases hpi:p=i
  ·subst hpi;rw[getD_both hun]at h3;cases h3
  ·rw[aaR h inv hi ci hun _ p op rfl (by omega) hp cp]at h3;cases h3
theorem Ur {listed:Array Bool} {i:Nat} {oj:Oper} (hr:i∈Region.ready md ops listed) (hall:∀e∈oj.after,Region.binds md e=true->listed.getD e.on false=true) :
  ∀e∈oj.after,Region.binds md e=true->e.on≠i:=λe he hb heq=>by
 have h1:=hall e he hb;rw[heq,getD_both (mem_ready.1 hr).1]at h1;cases h1
theorem aaV {n i:Nat} {oi:Oper} {v:Value} {L:Array Bool->Act->World->Prop} (hi:ops[i]?=some oi) (hsel:∀(j:Nat) (o:Oper) cs b,ops[j]?=some o->o.op≠.select cs b)
  (hs:Region.sinkB md ops n=true) (hc:Region.chainB md ops n=true) (hn:n<ops.size) (hin:i<n)
  (hdone:∀listed a w,L listed a w->∀j∈Region.ready md ops listed,n<=j) :
  ∀(f:Nat) (listed:Array Bool) (a:Act) (w:World),HeadInv md ops n listed ->
   (∀j oj,ops[j]?=some oj->j≠i->listed.getD j true=false->(∀e∈oj.after,Region.binds md e=true->e.on≠i)->oi.apart ops oj=true) ->
   i∈Region.ready md ops listed->jd P ops C oi v a ->
   vF P md ops C n L f (listed.setIfInBounds i true) (a.put oi.dst v) w->vF P md ops C n L (f+1) listed a w:=by
 intro f;induction f with
 | zero =>
  intro listed a w inv _ hr hy H
  have hun:=(mem_ready.1 hr).1
  refine⟨λh=>(by rw[h]at hr;cases hr),λj hj=>?_⟩
  have hjn:j<n:=by
   rcases Nat.lt_or_ge j n with h|h
   ·exact h
   ·exact absurd hj (tail_waits hs hc hn inv _ i rfl hin hun j h)
  refine⟨hjn,λo ho=>?_⟩
  by_cases hji:j=i
  ·subst hji;rw[hi]at ho;obtain rfl:=Option.some.inj ho;exact hy.jK H
  ·have:=hdone _ _ _ H j (ready_mono hj hji)
   omega
 | succ f ih =>
  intro listed a w inv hfree hr hy H
  have hun:=(mem_ready.1 hr).1
  refine⟨λh=>(by rw[h]at hr;cases hr),λj hj=>?_⟩
  have hjn:j<n:=by
   rcases Nat.lt_or_ge j n with h|h
   ·exact h
   ·exact absurd hj (tail_waits hs hc hn inv _ i rfl hin hun j h)
  refine⟨hjn,λo ho=>?_⟩
  by_cases hji:j=i
  ·subst hji;rw[hi]at ho;obtain rfl:=Option.some.inj ho;exact hy.jK H
  ·have h1:=(H.2 j (ready_mono hj hji)).2 o ho
   obtain⟨hjun,oj,hoj,hall⟩:=mem_ready.1 hj
   have eo:o=oj:=Option.some.inj (ho.symm.trans hoj)
   subst eo
   have hap:=hfree j o ho hji hjun (Ur hr hall)
   have hsj:=λcs b=>hsel j o cs b ho
   have hsi:=λcs b=>hsel i oi cs b hi
   have hfree':∀k ok,ops[k]?=some ok->k≠i->(listed.setIfInBounds j true).getD k true=false ->
     (∀e∈ok.after,Region.binds md e=true->e.on≠i)->oi.apart ops ok=true:=λk ok hk hki hun hno=>by
    refine hfree k ok hk hki ?_ hno;by_cases hjk:j=k
    ·subst hjk;exact hjun
    ·rw[getD_set_ne true hjk]at hun;exact hun
   have hcomm:=Array.setIfInBounds_comm (xs:=listed) (a:=true) (b:=true) (i:=i) (j:=j) (Ne.symm hji)
   rcases Nl h1 with⟨u,h2,h3⟩|⟨g,args,h2,h3⟩
   ·refine(h2.back hap hsj).jK (ih _ _ _ (inv.set hj hjn) hfree' (ready_mono hr (Ne.symm hji)) (hy.fwd hap hsi) ?_)
    rw[<-C9 hap,<-hcomm]
    exact h3
   ·refine(h2.back hap hsj).jK (h3.mono λe w'' ⟨u,e1,e2,e3⟩=>⟨u,e1,e2,ih _ _ _ (inv.set hj hjn) hfree' (ready_mono hr (Ne.symm hji)) (hy.fwd hap hsi) ?_⟩)
    rw[<-C9 hap,<-hcomm]
    exact e3
theorem aaW {n i:Nat} {oi:Oper} {g:FuncId} {args:Array Value} {L:Array Bool->Act->World->Prop} (hi:ops[i]?=some oi) (hsel:∀(j:Nat) (o:Oper) cs b,ops[j]?=some o->o.op≠.select cs b)
  (hs:Region.sinkB md ops n=true) (hc:Region.chainB md ops n=true) (hk:C_ md ops=true) (hn:n<ops.size) (hin:i<n)
  (hdone:∀listed a w,L listed a w->∀j∈Region.ready md ops listed,n<=j) :
  ∀(f:Nat) (listed:Array Bool) (a:Act) (w:World),C w->HeadInv md ops n listed ->
   (∀j oj,ops[j]?=some oj->j≠i->listed.getD j true=false->(∀e∈oj.after,Region.binds md e=true->e.on≠i)->oi.apart ops oj=true) ->
   (∀k,k<i->listed.getD k true=true) ->
   i∈Region.ready md ops listed->pK P ops C oi g args a ->
   (Calls P g args w λe w''=>∃v,e=.returned v/\C w''/\vF P md ops C n L f (listed.setIfInBounds i true) (a.put oi.dst v) w'')->vF P md ops C n L (f+1) listed a w:=by
 intro f;induction f with
 | zero =>
  intro listed a w hC inv _ hlow hr hy H
  have hun:=(mem_ready.1 hr).1
  refine⟨λh=>(by rw[h]at hr;cases hr),λj hj=>?_⟩
  have hjn:j<n:=by
   rcases Nat.lt_or_ge j n with h|h
   ·exact h
   ·exact absurd hj (tail_waits hs hc hn inv _ i rfl hin hun j h)
  refine⟨hjn,λo ho=>?_⟩
  by_cases hji:j=i
  ·subst hji;rw[hi]at ho;obtain rfl:=Option.some.inj ho;exact hy.jK H
  ·obtain⟨e,w'',v,_,_,h3⟩:=Nk H
   have:=hdone _ _ _ h3 j (ready_mono hj hji)
   omega
 | succ f ih =>
  intro listed a w hC inv hfree hlow hr hy H
  have hun:=(mem_ready.1 hr).1
  refine⟨λh=>(by rw[h]at hr;cases hr),λj hj=>?_⟩
  have hjn:j<n:=by
   rcases Nat.lt_or_ge j n with h|h
   ·exact h
   ·exact absurd hj (tail_waits hs hc hn inv _ i rfl hin hun j h)
  refine⟨hjn,λo ho=>?_⟩
  by_cases hji:j=i
  ·subst hji;rw[hi]at ho;obtain rfl:=Option.some.inj ho;exact hy.jK H
  ·obtain⟨hjun,oj,hoj,hall⟩:=mem_ready.1 hj
   have eo:o=oj:=Option.some.inj (ho.symm.trans hoj)
   subst eo
   have hap:=hfree j o ho hji hjun (Ur hr hall)
   have hsj:=λcs b=>hsel j o cs b ho
   have hsi:=λcs b=>hsel i oi cs b hi
   have hnc:oI o=false:=by
    cases hcj:oI o with
    | false=>rfl
    | true=>exact absurd hj (aaS hk inv hi hy.1 hun hlow ho hcj hji)
   have hfree':∀k ok,ops[k]?=some ok->k≠i->(listed.setIfInBounds j true).getD k true=false ->
     (∀e∈ok.after,Region.binds md e=true->e.on≠i)->oi.apart ops ok=true:=λk ok hk hki hun hno=>by
    refine hfree k ok hk hki ?_ hno;by_cases hjk:j=k
    ·subst hjk;exact hjun
    ·rw[getD_set_ne true hjk]at hun;exact hun
   have hlow':∀k,k<i->(listed.setIfInBounds j true).getD k true=true:=λk hk=>by
    by_cases hjk:j=k
    ·subst hjk;rw[hlow j hk]at hjun;cases hjun
    ·rw[getD_set_ne true hjk];exact hlow k hk
   have hcomm:=Array.setIfInBounds_comm (xs:=listed) (a:=true) (b:=true) (i:=i) (j:=j) (Ne.symm hji)
   have step:∀v w'',C w''->vF P md ops C n L (f+1) (listed.setIfInBounds i true) (a.put oi.dst v) w'' ->
     ∃u,jd P ops C o u a/\vF P md ops C n L f ((listed.setIfInBounds j true).setIfInBounds i true) ((a.put o.dst u).put oi.dst v) w'':=by
    intro v w'' ahe h3;have h1:=(h3.2 j (ready_mono hj hji)).2 o ho;rcases Nl h1 with⟨u,h2,h4⟩|⟨_,_,h2,_⟩
    ·refine⟨u,h2.back hap hsj,?_⟩;rw[<-C9 hap,<-hcomm];exact h4
    ·rw[h2.1]at hnc;cases hnc
   obtain⟨_,w0,v0,_,hC0,h0⟩:=Nk H
   obtain⟨u,hyu,_⟩:=step v0 w0 hC0 h0
   refine hyu.jK (ih _ _ _ hC (inv.set hj hjn) hfree' hlow' (ready_mono hr (Ne.symm hji)) (hy.fwd hap hsi) ?_)
   refine H.mono λe w'' ⟨v,e1,e2,e3⟩=>⟨v,e1,e2,?_⟩
   obtain⟨u',aaX,h5⟩:=step v w'' e2 e3
   rw[hyu.unique hC aaX]
   exact h5
theorem Us {n g:Nat} {Lq:Act->World->Prop} (hsel:Region.noSelect ops=true) (hs:Region.sinkB md ops n=true) (hc:Region.chainB md ops n=true) (hk:C_ md ops=true) (hn:n<ops.size) :
  ∀(l:List Oper) (k:Nat) (listed:Array Bool) (a:Act) (w:World),C w->(∀j,j<l.length->l[j]?=ops[k+j]?)->k+l.length=n->HeadInv md ops n listed->(∀j,j<k->listed.getD j true=true) ->
  Region.lexHead md ops g l.length k listed=true->zY P ops C Lq l a w ->
  vF P md ops C n (λlisted' a' w'=>Region.seqB md ops g n listed'=true/\Lq a' w') l.length listed a w
 | [],k,listed,a,w,_,_,hkn,_,_,hB,h=>by
  have:k=n:=by simpa using hkn
  subst this;exact⟨by simpa[Region.lexHead]using hB,h⟩
 | o::l,k,listed,a,w,hC,hl,hkn,inv,hlow,hB,h=>by
  have h0:ops[k]?=some o:=by simpa using(hl 0 (by simp)).symm
  simp only[List.length_cons,Region.lexHead,Bool.and_eq_true]at hB;obtain⟨⟨hr,hf⟩,hB'⟩:=hB;have hkl:k<n:=by simp only[List.length_cons]at hkn;omega
  have hr':k∈Region.ready md ops listed:=by simpa using hr
  have hks:k<listed.size:=by rw[inv.size];omega
  have hlow':∀j,j<k+1->(listed.setIfInBounds k true).getD j true=true:=λj hj=>by
   by_cases hjk:k=j
   ·subst hjk;simp
   ·rw[getD_set_ne true hjk];exact hlow j (by omega)
  have go:∀a' w',C w'->zY P ops C Lq l a' w'->vF P md ops C n (λlisted' a' w'=>Region.seqB md ops g n listed'=true/\Lq a' w') l.length (listed.setIfInBounds k true) a' w':=λa' w' hC' h' =>
   Us hsel hs hc hk hn l (k+1) _ _ _ hC' (λj hj=>by have:=hl (j+1) (by simp;omega);simpa[Nat.add_assoc,Nat.add_comm 1 j]using this) (by simp only[List.length_cons]at hkn;omega) (inv.set hr' hkl) hlow' hB' h'
  rcases Nl h with⟨v,hy,hK⟩|⟨f,args,hy,hK⟩
  ·exact aaV h0 (Region.noSelect_spec hsel) hs hc hn hkl (λlisted' a' w' hL=>seqB_ready hL.1) l.length listed a w inv (Region.free_spec h0 hf) hr' hy (go _ _ hC hK)
  ·exact aaW h0 (Region.noSelect_spec hsel) hs hc hk hn hkl (λlisted' a' w' hL=>seqB_ready hL.1) l.length listed a w hC inv (Region.free_spec h0 hf) hlow hr' hy
    (hK.mono λe w'' ⟨v,e1,e2,e3⟩=>⟨v,e1,e2,go _ _ e2 e3⟩)
theorem wW {id:Nat} {Q:Exit->Act->World->Prop} {a:Act} {w:World} {l:List Oper} (n:Nat) (hm:P.follows .mixedOrders=true) (hB:Region.lexTailB .any l.toArray n=true) (hk:C_ .any l.toArray=true)
  (hC:C w.drew) (h:zY P l.toArray C (λa' w'=>wpList P l.toArray Q (l.drop n) a' w') (l.take n) a w.drew):(Code.region id l.toArray true).wp P Q a w:=by
 simp only[Region.lexTailB,Bool.and_eq_true,decide_eq_true_eq]at hB;obtain⟨⟨⟨⟨hsel,hn⟩,hs⟩,hc⟩,hlex⟩:=hB;have hn':n<l.length:=by simpa using hn
 have htl:(l.take n).length=n:=by simp;omega
 have hdl:(l.drop n).length=l.toArray.size-n:=by simp
 have inv0:HeadInv .any l.toArray n (Array.replicate l.toArray.size false) :=
  ⟨by simp,λj oj _ hl=>(by rw[getD_replicate_false]at hl;cases hl),λt _ ht=>getD_in (by simpa using ht) (getD_replicate_false _ _)⟩
 have H:=Us (md:=.any) (g:=l.toArray.size-n) hsel hs hc hk hn (l.take n) 0 _ a _ hC (λj hj=>by
  have hj':j<n:=by rw[htl]at hj;exact hj
  simp[hj']) (by simpa using htl) inv0 (λj hj=>absurd hj (Nat.not_lt_zero _)) (by rw[htl];exact hlex) h
 refine wp_region_any hm ?_;have:=Np (Q':=Q) (g:=l.toArray.size-n) (λlisted a' w' _ hL=>by
  have:=wpAny_of_seq (md:=.any) (Q':=Q) (l.drop n) n listed a' w' (λj=>by simp[List.getElem?_drop]) (by rw[hdl];exact hL.1) hL.2;rwa [hdl]at this) _ _ _ _ hC H
 rw[htl,show n+(l.toArray.size-n)=l.toArray.size by omega]at this;exact this
theorem iJ {L:Act->World->Prop} {a:Act} {w:World} {o:Oper} {rest:List Oper} (h:∀K:Act->World->Prop,(∀a w,zY P ops C L rest a w->K a w)->jK P ops C o a w K):zY P ops C L (o::rest) a w :=
 h _ λ_ _ h=>h
theorem wX {L:Act->World->Prop} {a:Act} {w:World} (h:L a w):zY P ops C L [] a w:=h
theorem nI {o:Oper} {a:Act} {w:World} {K:Act->World->Prop} (hg:o.guard=none) (h:∃v,(∀w',C w'->(execOp a.eval o).run P w'=.ok (.value v) w')/\K (a.put o.dst v) w):jK P ops C o a w K:=by
 obtain⟨v,h1,h2⟩:=h;unfold jK;rw[if_pos (by simp[Region.wanted,hg])];exact .inl ⟨v,λw' hw'=>.inl (h1 w' hw'),h2⟩
theorem g_call {o:Oper} {a:Act} {w:World} {K:Act->World->Prop} (hg:o.guard=none) (hc:oI o=true) (f:FuncId)
  (h:∃args,(∀w',C w'->(execOp a.eval o).run P w'=.ok (.enter f args) w')/\Calls P f args w λe w''=>∃v,e=.returned v/\C w''/\K (a.put o.dst v) w''):jK P ops C o a w K:=by
 obtain⟨args,h1,h2⟩:=h;unfold jK;rw[if_pos (by simp[Region.wanted,hg])];exact .inr ⟨hc,f,args,h1,h2⟩
def Grew (w:World):World->Prop:=λw'=>Below w.heap.size w w'
theorem Grew.refl (w:World):Grew w w:=Below.refl _ _
end
section
variable {P:Program} {ops:Array Oper} {C:World -> Prop} {N:Nat} {Q:Exit -> Act -> World -> Prop}
inductive aaY where
 | still|act|make
 deriving DecidableEq
def gu (o:Oper):aaY :=
 match o.op with
 | .call c=>(match c.callee with
  | .builtin .len=>.still
  | .builtin .cap=>.still
  | .builtin .min=>.still
  | .builtin .max=>.still
  | _=>.act)
 | .store ..=>.act
 | .mapUpdate ..=>.act
 | .alloc ..=>.make
 | .buildSlice ..=>.make
 | .makeSlice ..=>.make
 | .makeMap ..=>.make
 | _=>.still
def jL (P:Program) (o:Oper) (a:Act) (w1:World) (R:Value->World->Prop):Prop :=
 match(execOp a.eval o).run P w1 with
 | .ok (.value v) w2=>R v w2
 | .ok .skip w2=>R undef w2
 | .ok (.enter f args) w2=>Calls P f args w2 λe w3=>∃v,e=.returned v/\R v w3
 | _=>False
theorem jL.mono {o:Oper} {a:Act} {w:World} {R R':Value->World->Prop} (h:jL P o a w R) (hr:∀v w2,R v w2->R' v w2):jL P o a w R':=by
 unfold jL at *;generalize(execOp a.eval o).run P w=r at *;cases r with
 | ok n w' =>
  cases n<;>simp only at h ⊢
  case value v=>exact hr _ _ h
  case skip=>exact hr _ _ h
  case enter f args=>exact Calls.mono h λe w3 ⟨v,e1,e2⟩=>⟨v,e1,hr _ _ e2⟩
 | halt x w'=>simp only at h
theorem jL.some {o:Oper} {a:Act} {w:World} {R:Value->World->Prop} (h:jL P o a w R):∃v w2,R v w2:=by
 unfold jL at *;generalize(execOp a.eval o).run P w=r at *;cases r with
 | ok n w' =>
  cases n<;>simp only at h
  case value v=>exact⟨_,_,h⟩
  case skip=>exact⟨_,_,h⟩
  case enter f args=>obtain⟨_,w3,v,_,e2⟩:=Nk h;exact⟨_,_,e2⟩
 | halt x w'=>simp only at h
theorem jL.congr {o:Oper} {a a':Act} {w:World} {R:Value->World->Prop} (h:jL P o a w R) (he:execOp a'.eval o=execOp a.eval o):jL P o a' w R:=by
 unfold jL at *;rw[he];exact h
theorem jL.wp {o:Oper} {a:Act} {w:World} {R:Value->World->Prop} {K:Act->World->Prop} {Q':Exit->Act->World->Prop} (h:jL P o a w R) (hr:∀v w2,R v w2->K (a.put o.dst v) w2):o.wp P a w K Q':=by
 unfold jL at h;unfold Oper.wp;generalize(execOp a.eval o).run P w=r at *;cases r with
 | ok n w' =>
  cases n<;>simp only at h<;>simp only[Oper.upon]
  case value v=>exact hr _ _ h
  case skip=>exact hr _ _ h
  case enter f args=>exact Calls.mono h λe w3 ⟨v,e1,e2⟩=>by subst e1;exact hr _ _ e2
 | halt x w'=>simp only at h
def jM (P:Program) (C:World->Prop) (N:Nat) (o:Oper) (bs:Nat->Prop) (a:Act) (w:World) (K:(Nat->Prop)->Act->World->Prop):Prop :=
 match gu o with
 | .still=>∃v,(∀w',C w'->yF P o a v w')/\K bs (a.put o.dst v) w
 | .act=>∀w1,Below w.heap.size w w1->jL P o a w1 λv w2=>C w2/\w1.heap.size<=w2.heap.size/\(∀k,N<=k->¬bs k->k<w1.heap.size->w2.heap[k]?=w1.heap[k]?) /\
   ∃bs':Nat->Prop,(∀k,bs k->bs' k)/\(∀k,bs' k->bs k\/(w1.heap.size<=k/\k<w2.heap.size))/\K bs' (a.put o.dst v) w2
 | .make=>∃(mk:Nat->Value) (ob:Obj),(∀w',C w'->(execOp a.eval o).run P w'=.ok (.value (mk w'.heap.size)) (w'.alloc ob)) /\
   ∀b w',Below w.heap.size w w'->w'.heap[b]?=some ob->N<=b->¬bs b->K (λk=>k=b\/bs k) (a.put o.dst (mk b)) w'
def jC (P:Program) (ops:Array Oper) (C:World->Prop) (N:Nat) (o:Oper) (bs:Nat->Prop) (a:Act) (w:World) (K:(Nat->Prop)->Act->World->Prop):Prop :=
 if Region.wanted o (yielded ops a.tmps)then jM P C N o bs a w K else K bs (a.put o.dst undef) w
def WX (P:Program) (ops:Array Oper) (C:World->Prop) (N:Nat) (Q:Exit->Act->World->Prop):List Nat->(Nat->Prop)->Act->World->Prop
 | [],_,a,w=>Q .normal a w
 | i::l,bs,a,w=>∀o,ops[i]?=some o->jC P ops C N o bs a w (WX P ops C N Q l)
structure nJ (C:World->Prop) (N:Nat):Prop where
 grow:∀w w',C w->Below w.heap.size w w'->C w'
 base:∀w,C w->N<=w.heap.size
theorem aaZ {w:World} {o o':Obj} (h:w.alloc o=w.alloc o'):o=o':=by
 have h1:=congrArg (λx:World=>x.heap[w.heap.size]?) h;simp only[heap_alloc_new]at h1;exact Option.some.inj h1
theorem aj (w:World) (o:Obj):Below w.heap.size w (w.alloc o):=(Below.refl _ _).alloc (Nat.le_refl _) _
theorem aa0 (b c:Nat) (bs:Nat->Prop):(λk=>k=b\/(k=c\/bs k))=λk=>k=c\/(k=b\/bs k):=by
 funext k;exact propext ⟨λh=>by rcases h with h|h|h<;>simp[h],λh=>by rcases h with h|h|h<;>simp[h]⟩
def Free (ops:Array Oper) (i j:Nat):Prop:=∀oi oj,ops[i]?=some oi->ops[j]?=some oj->oi.apart ops oj=true
def Dc (ops:Array Oper):Prop:=∀(j:Nat) (o:Oper) cs b,ops[j]?=some o->o.op≠.select cs b
theorem yG {oi oj:Oper} {u:Value} {a:Act} (hap:oi.apart ops oj=true) (hsi:∀cs b,oi.op≠.select cs b) :
  execOp (a.put oj.dst u).eval oi=execOp a.eval oi/\Region.wanted oi (yielded ops (a.put oj.dst u).tmps)=Region.wanted oi (yielded ops a.tmps):=by
 obtain⟨h1,h2,h3⟩:=Oper.apart_spec hap;exact⟨execOp_put oi hsi a oj.dst u h3,wanted_put oi a oj.dst u h3⟩
theorem wY {oi oj:Oper} {v:Value} {a:Act} (hap:oi.apart ops oj=true) (hsj:∀cs b,oj.op≠.select cs b) :
  execOp (a.put oi.dst v).eval oj=execOp a.eval oj/\Region.wanted oj (yielded ops (a.put oi.dst v).tmps)=Region.wanted oj (yielded ops a.tmps):=by
 obtain⟨h1,h2,h3⟩:=Oper.apart_spec hap;exact⟨execOp_put oj hsj a oi.dst v h1,wanted_put oj a oi.dst v h1⟩
theorem Ut (hsel:Dc ops) {j b:Nat} {oj:Oper} {V:Value} {ob:Obj} {wj:World} (hj:ops[j]?=some oj) (hkj:gu oj=.make) (hCj:C wj) (hbj:wj.heap.size=b) (l2:List Nat) :
  ∀(l1:List Nat) (bs:Nat->Prop) (a:Act) (w w':World),(∀i∈l1,Free ops i j)->WX P ops C N Q (l1++j::l2) bs a w->Region.wanted oj (yielded ops a.tmps)=true ->
   (execOp a.eval oj).run P wj=.ok (.value V) (wj.alloc ob)->Below w.heap.size w w'->w'.heap[b]?=some ob->N<=b->¬bs b ->
   WX P ops C N Q (l1++l2) (λk=>k=b\/bs k) (a.put oj.dst V) w':=by
 intro l1;induction l1 with
 | nil =>
  intro bs a w w' _ h hw hrun hgr hb hN hbs
  have h1:=h oj hj
  unfold jC at h1
  rw[if_pos hw]at h1
  unfold jM at h1
  rw[hkj]at h1
  obtain⟨mk,ob',e1,e2⟩:=h1
  have e3:=e1 wj hCj
  rw[hrun]at e3
  simp only[Result.ok.injEq,Next.value.injEq]at e3
  obtain⟨e4,e5⟩:=e3
  have e6:=aaZ e5
  subst e6
  rw[hbj]at e4
  rw[e4]
  exact e2 b w' hgr hb hN hbs
 | cons i l1 ih =>
  intro bs a w w' hfr h hw hrun hgr hb hN hbs oi hi
  have hap:=hfr i (List.mem_cons_self ..) oi oj hi hj
  have hsi:=λcs b=>hsel i oi cs b hi
  have hsj:=λcs b=>hsel j oj cs b hj
  have vG:∀i∈l1,Free ops i j:=λx hx=>hfr x (List.mem_cons_of_mem _ hx)
  have h1:=h oi hi
  have sw:∀v,(a.put oi.dst v).put oj.dst V=(a.put oj.dst V).put oi.dst v:=λv=>C9 hap
  have run':∀v,(execOp (a.put oi.dst v).eval oj).run P wj=.ok (.value V) (wj.alloc ob):=λv=>by rw[(wY hap hsj).1];exact hrun
  have IV:∀v,Region.wanted oj (yielded ops (a.put oi.dst v).tmps)=true:=λv=>by rw[(wY hap hsj).2];exact hw
  unfold jC at h1 ⊢
  rw[(yG (u:=V) hap hsi).2]
  by_cases hwi:Region.wanted oi (yielded ops a.tmps)=true
  ·rw[if_pos hwi]at h1 ⊢
   unfold jM at h1 ⊢
   cases hk:gu oi with
   | still =>
    simp only[hk]at h1 ⊢
    obtain⟨v,e1,e2⟩:=h1
    refine⟨v,λw1 hw1=>?_,?_⟩
    ·have:=e1 w1 hw1
     unfold yF at this ⊢
     rw[(yG (u:=V) hap hsi).1]
     exact this
    ·rw[<-sw]
     exact ih _ _ _ _ vG e2 (IV v) (run' v) hgr hb hN hbs
   | act =>
    simp only[hk]at h1 ⊢
    intro w1 hw1
    have hb1:w1.heap[b]?=some ob:=by
     have hlt:b<w'.heap.size:=(Array.getElem?_eq_some_iff.1 hb).1;rw[hw1.block b hlt];exact hb
    have hlt1:b<w1.heap.size:=(Array.getElem?_eq_some_iff.1 hb1).1
    refine((h1 w1 (hgr.trans (hw1.mono hgr.size))).congr (yG (u:=V) hap hsi).1).mono ?_
    rintro v w2⟨c1,c2,c3,bs',c4,c5,c6⟩
    refine⟨c1,c2,λk h2 h3 h4=>c3 k h2 (λh=>h3 (.inr h)) h4,λk=>k=b\/bs' k,λk hk'=>hk'.imp id (c4 k),λk hk'=>?_,?_⟩
    ·rcases hk' with hk'|hk'
     ·exact .inl (.inl hk')
     ·exact(c5 k hk').imp .inr id
    ·rw[<-sw]
     refine ih _ _ _ _ vG c6 (IV v) (run' v) (Below.refl _ _) ?_ hN ?_
     ·rw[c3 b hN hbs hlt1];exact hb1
     ·intro hbb
      rcases c5 b hbb with h5|h5
      ·exact hbs h5
      ·omega
   | make =>
    simp only[hk]at h1 ⊢
    obtain⟨mk,obi,e1,e2⟩:=h1
    refine⟨mk,obi,λw1 hw1=>?_,λb' w1 hw1 hb' hN' Uu=>?_⟩
    ·rw[(yG (u:=V) hap hsi).1];exact e1 w1 hw1
    ·have hlt:b<w'.heap.size:=(Array.getElem?_eq_some_iff.1 hb).1
     have e3:=e2 b' w1 (hgr.trans (hw1.mono hgr.size)) hb' hN' (λh=>Uu (.inr h))
     rw[<-sw,aa0]
     refine ih _ _ _ _ vG e3 (IV _) (run' _) (Below.refl _ _) ?_ hN ?_
     ·rw[hw1.block b hlt];exact hb
     ·rintro(h|h)
      ·exact Uu (.inl h.symm)
      ·exact hbs h
  ·rw[if_neg hwi]at h1 ⊢
   rw[<-sw]
   exact ih _ _ _ _ vG h1 (IV _) (run' _) hgr hb hN hbs
theorem IW (hsel:Dc ops) (hG:nJ C N) {j:Nat} {oj:Oper} (hj:ops[j]?=some oj) (l2:List Nat) :
  ∀(l1:List Nat) (bs:Nat->Prop) (a:Act) (w:World),(∀i∈l1,i<ops.size)->(∀i∈l1,Free ops i j)->C w->(∀k,bs k->k<w.heap.size)->WX P ops C N Q (l1++j::l2) bs a w ->
   ∃a' bs' w',C w'/\execOp a'.eval oj=execOp a.eval oj/\Region.wanted oj (yielded ops a'.tmps)=Region.wanted oj (yielded ops a.tmps)/\WX P ops C N Q (j::l2) bs' a' w':=by
 intro l1;induction l1 with
 | nil=>exact λbs a w _ _ hC _ h=>⟨a,bs,w,hC,rfl,rfl,h⟩
 | cons i l1 ih =>
  intro bs a w hin hfr hC hbs h
  have Nq:∀i∈l1,i<ops.size:=λx hx=>hin x (List.mem_cons_of_mem _ hx)
  have vG:∀i∈l1,Free ops i j:=λx hx=>hfr x (List.mem_cons_of_mem _ hx)
  have hsj:=λcs b=>hsel j oj cs b hj
  cases hi:ops[i]? with
  | none =>
   have:=hin i (List.mem_cons_self ..)
   rw[Array.getElem?_eq_getElem this]at hi
   cases hi
  | some oi =>
   have hap:=hfr i (List.mem_cons_self ..) oi oj hi hj
   have h1:=h oi hi
   have back:∀v bs' w',C w'->(∀k,bs' k->k<w'.heap.size)->WX P ops C N Q (l1++j::l2) bs' (a.put oi.dst v) w' ->
     ∃a' bs' w',C w'/\execOp a'.eval oj=execOp a.eval oj/\Region.wanted oj (yielded ops a'.tmps)=Region.wanted oj (yielded ops a.tmps)/\WX P ops C N Q (j::l2) bs' a' w':=λv bs' w' hC' hb' h'=>by
    obtain⟨a',b',w'',e1,e2,e3,e4⟩:=ih bs' (a.put oi.dst v) w' Nq vG hC' hb' h';exact⟨a',b',w'',e1,e2.trans (wY hap hsj).1,e3.trans (wY hap hsj).2,e4⟩
   unfold jC at h1
   by_cases hwi:Region.wanted oi (yielded ops a.tmps)=true
   ·rw[if_pos hwi]at h1
    unfold jM at h1
    cases hk:gu oi with
    | still=>simp only[hk]at h1;obtain⟨v,e1,e2⟩:=h1;exact back v bs w hC hbs e2
    | act =>
     simp only[hk]at h1
     obtain⟨v,w2,c1,c2,c3,bs',c4,c5,c6⟩:=(h1 w (Below.refl _ _)).some
     exact back v bs' w2 c1 (λk hk'=>by rcases c5 k hk' with h5|h5;(have:=hbs k h5;omega);exact h5.2) c6
    | make =>
     simp only[hk]at h1
     obtain⟨mk,ob,e1,e2⟩:=h1
     have hB:=hG.base w hC
     exact back _ _ (w.alloc ob) (hG.grow _ _ hC (aj w ob)) (λk hk'=>by rcases hk' with rfl|hk';simp;(have:=hbs k hk';simp;omega))
      (e2 w.heap.size (w.alloc ob) (aj w ob) (heap_alloc_new w ob) hB (λh=>by have:=hbs _ h;omega))
   ·rw[if_neg hwi]at h1
    exact back undef bs w hC hbs h1
theorem IX (hsel:Dc ops) (hG:nJ C N) {j:Nat} {oj:Oper} {u:Value} (hj:ops[j]?=some oj) (l2:List Nat) :
  ∀(l1:List Nat) (bs:Nat->Prop) (a:Act) (w:World),(∀i∈l1,Free ops i j)->C w->WX P ops C N Q (l1++j::l2) bs a w ->
   (gu oj=.still\/Region.wanted oj (yielded ops a.tmps)=false)->jd P ops C oj u a->WX P ops C N Q (l1++l2) bs (a.put oj.dst u) w:=by
 intro l1;induction l1 with
 | nil =>
  intro bs a w _ hC h hk hy
  have h1:=h oj hj
  unfold jC at h1
  by_cases hw:Region.wanted oj (yielded ops a.tmps)=true
  ·rw[if_pos hw]at h1
   have hk':gu oj=.still:=hk.resolve_right (by rw[hw];simp)
   unfold jM at h1
   simp only[hk']at h1
   obtain⟨v,e1,e2⟩:=h1
   have:jd P ops C oj v a:=.inl ⟨hw,e1⟩
   rw[hy.unique hC this]
   exact e2
  ·rw[if_neg hw]at h1
   have:jd P ops C oj undef a:=.inr ⟨by simpa using hw,rfl⟩
   rw[hy.unique hC this]
   exact h1
 | cons i l1 ih =>
  intro bs a w hfr hC h hk hy oi hi
  have hap:=hfr i (List.mem_cons_self ..) oi oj hi hj
  have hsi:=λcs b=>hsel i oi cs b hi
  have hsj:=λcs b=>hsel j oj cs b hj
  have vG:∀i∈l1,Free ops i j:=λx hx=>hfr x (List.mem_cons_of_mem _ hx)
  have h1:=h oi hi
  have sw:∀v,(a.put oi.dst v).put oj.dst u=(a.put oj.dst u).put oi.dst v:=λv=>C9 hap
  have go:∀v bs' w',C w'->WX P ops C N Q (l1++j::l2) bs' (a.put oi.dst v) w'->WX P ops C N Q (l1++l2) bs' ((a.put oj.dst u).put oi.dst v) w':=λv bs' w' hC' h'=>by
   rw[<-sw];exact ih bs' _ w' vG hC' h' (hk.imp id λh=>by rw[(wY hap hsj).2];exact h) (hy.of_same (wY hap hsj).1 (wY hap hsj).2)
  unfold jC at h1 ⊢
  rw[(yG (u:=u) hap hsi).2]
  by_cases hwi:Region.wanted oi (yielded ops a.tmps)=true
  ·rw[if_pos hwi]at h1 ⊢
   unfold jM at h1 ⊢
   cases hki:gu oi with
   | still =>
    simp only[hki]at h1 ⊢
    obtain⟨v,e1,e2⟩:=h1
    refine⟨v,λw1 hw1=>?_,go _ _ _ hC e2⟩
    have:=e1 w1 hw1
    unfold yF at this ⊢
    rw[(yG (u:=u) hap hsi).1]
    exact this
   | act =>
    simp only[hki]at h1 ⊢
    intro w1 hw1
    refine((h1 w1 hw1).congr (yG (u:=u) hap hsi).1).mono ?_
    rintro v w2⟨c1,c2,c3,bs',c4,c5,c6⟩
    exact⟨c1,c2,c3,bs',c4,c5,go _ _ _ c1 c6⟩
   | make =>
    simp only[hki]at h1 ⊢
    obtain⟨mk,ob,e1,e2⟩:=h1
    refine⟨mk,ob,λw1 hw1=>by rw[(yG (u:=u) hap hsi).1];exact e1 w1 hw1,λb w1 hw1 hb hN hbs=>?_⟩
    exact go _ _ _ (hG.grow _ _ hC hw1) (e2 b w1 hw1 hb hN hbs)
  ·rw[if_neg hwi]at h1 ⊢
   exact go _ _ _ hC h1
theorem Uw (hsel:Dc ops) {j:Nat} {oj:Oper} (hj:ops[j]?=some oj) (hkj:gu oj=.act) (l2:List Nat) :
  ∀(l1:List Nat) (bs:Nat->Prop) (a:Act) (w:World),(∀i∈l1,i<ops.size)->(∀i∈l1,Free ops i j)->(∀i∈l1,∀oi,ops[i]?=some oi->gu oi=.still)->C w->WX P ops C N Q (l1++j::l2) bs a w ->
   Region.wanted oj (yielded ops a.tmps)=true ->
   jL P oj a w λv w2=>C w2/\w.heap.size<=w2.heap.size/\∃bs':Nat->Prop,(∀k,bs' k->bs k\/(w.heap.size<=k/\k<w2.heap.size))/\WX P ops C N Q (l1++l2) bs' (a.put oj.dst v) w2:=by
 intro l1;induction l1 with
 | nil =>
  intro bs a w _ _ _ hC h hw
  have h1:=h oj hj
  unfold jC at h1
  rw[if_pos hw]at h1
  unfold jM at h1
  simp only[hkj]at h1
  exact(h1 w (Below.refl _ _)).mono λv w2 ⟨c1,c2,_,bs',_,c5,c6⟩=>⟨c1,c2,bs',c5,c6⟩
 | cons i l1 ih =>
  intro bs a w hin hfr hst hC h hw
  have Nq:∀i∈l1,i<ops.size:=λx hx=>hin x (List.mem_cons_of_mem _ hx)
  have hi:ops[i]?=some (ops[i]'(hin i (List.mem_cons_self ..))):=Array.getElem?_eq_getElem _
  generalize ops[i]'(hin i (List.mem_cons_self ..))=oi at hi
  have hap:=hfr i (List.mem_cons_self ..) oi oj hi hj
  have hsi:=λcs b=>hsel i oi cs b hi
  have hsj:=λcs b=>hsel j oj cs b hj
  have vG:∀i∈l1,Free ops i j:=λx hx=>hfr x (List.mem_cons_of_mem _ hx)
  have hst':∀i∈l1,∀oi,ops[i]?=some oi->gu oi=.still:=λx hx=>hst x (List.mem_cons_of_mem _ hx)
  have hki:=hst i (List.mem_cons_self ..) oi hi
  have h1:=h oi hi
  have key:∃v,jd P ops C oi v a/\WX P ops C N Q (l1++j::l2) bs (a.put oi.dst v) w:=by
   unfold jC at h1;by_cases hwi:Region.wanted oi (yielded ops a.tmps)=true
   ·rw[if_pos hwi]at h1;unfold jM at h1;simp only[hki]at h1;obtain⟨v,e1,e2⟩:=h1;exact⟨v,.inl ⟨hwi,e1⟩,e2⟩
   ·rw[if_neg hwi]at h1;exact⟨undef,.inr ⟨by simpa using hwi,rfl⟩,h1⟩
  obtain⟨v,hy,h2⟩:=key
  have h3:=ih bs (a.put oi.dst v) w Nq vG hst' hC h2 (by rw[(wY hap hsj).2];exact hw)
  refine(h3.congr (wY hap hsj).1.symm).mono ?_
  rintro u w2⟨c1,c2,bs',c5,c6⟩
  refine⟨c1,c2,bs',c5,λo ho=>?_⟩
  rw[hi]at ho
  obtain rfl:=Option.some.inj ho
  have hy':=hy.fwd (u:=u) hap hsi
  rw[C9 hap]at c6
  unfold jC jM
  rcases hy' with⟨q1,q2⟩|⟨q1,q2⟩
  ·rw[if_pos q1];simp only[hki];exact⟨v,q2,c6⟩
  ·rw[if_neg (by rw[q1];simp)];rw[<-q2];exact c6
def rQ (ops:Array Oper):Nat->Nat->Nat->Bool
 | 0,_,_=>false
 | f+1,j,i=>Region.waitsFor .any ops j i ||(List.range ops.size).any λp=>Region.waitsFor .any ops j p&&rQ ops f p i
def Closed (ops:Array Oper) (listed:Array Bool):Prop :=
 ∀j oj,ops[j]?=some oj->listed.getD j false=true->∀e∈oj.after,Region.binds .any e=true->listed.getD e.on false=true
theorem Nr {listed:Array Bool} (hc:Closed ops listed):∀(f j i:Nat) (oj:Oper),ops[j]?=some oj->(∀e∈oj.after,Region.binds .any e=true->listed.getD e.on false=true)->rQ ops f j i=true->listed.getD i false=true:=by
 intro f;induction f with
 | zero=>intro j i oj _ _ h;cases h
 | succ f ih =>
  intro j i oj hj hall h
  have step:∀p,Region.waitsFor .any ops j p=true->listed.getD p false=true:=λp hp=>by
   obtain⟨wV,hj',e,he,hb,hon⟩:=Region.waitsFor_spec hp;obtain rfl:oj=wV:=Option.some.inj (hj.symm.trans hj');rw[<-hon];exact hall e he hb
  simp only[rQ,Bool.or_eq_true,List.any_eq_true,Bool.and_eq_true]at h
  rcases h with h|⟨p,_,h1,h2⟩
  ·exact step i h
  ·have hp:=step p h1
   have hps:p<listed.size:=by
    rcases Nat.lt_or_ge p listed.size with h'|h'
    ·exact h'
    ·simp[Array.getElem?_eq_none h']at hp
   cases hop:ops[p]? with
   | none =>
    cases f with
    | zero=>cases h2
    | succ f =>
     have no:∀x,Region.waitsFor .any ops p x=false:=λx=>by unfold Region.waitsFor;rw[hop]
     simp[rQ,no]at h2
   | some op=>exact ih p i op hop (hc p op hop hp) h2
def pO (ops:Array Oper) (f i j:Nat):Bool :=
 decide (i≠j)&&!Region.waitsFor .any ops i j &&
  (rQ ops f j i ||(match ops[i]?,ops[j]? with
   | some oi,some oj=>oi.apart ops oj&&(decide (gu oj≠.act) || decide (gu oi=.still))
   | _,_=>false))
def yH (ops:Array Oper) (f:Nat):List Nat->Bool
 | []=>true
 | i::l=>l.all (pO ops f i)&&yH ops f l
theorem Dh {f:Nat}:∀l:List Nat,yH ops f l=true->l.Pairwise λi j=>pO ops f i j=true
 | [],_=>List.Pairwise.nil
 | i::l,h=>by
  simp only[yH,Bool.and_eq_true]at h;exact List.Pairwise.cons (λj hj=>List.all_eq_true.1 h.1 j hj) (Dh l h.2)
def Di (ops:Array Oper) (ord:List Nat):Bool :=
 ord.all (λi=>decide (i<ops.size)&&!Region.waitsFor .any ops i i)&&(List.range ops.size).all (λi=>ord.contains i)&&ops.all λo=>o.after.all λe=>!Region.binds .any e || decide (e.on<ops.size)
def Ux (ops:Array Oper) (f:Nat) (ord:List Nat):Bool:=Region.noSelect ops&&yH ops f ord&&Di ops ord&&decide (ord.length=ops.size)
theorem Ns {listed:Array Bool} {j k:Nat} (hj:j<listed.size):(listed.setIfInBounds j true).getD k true=false↔listed.getD k true=false/\k≠j:=by
 by_cases h:j=k
 ·subst h;simp[hj]
 ·rw[getD_set_ne true h];exact⟨λx=>⟨x,λe=>h e.symm⟩,λx=>x.1⟩
theorem Nu (hsel:Dc ops) (hG:nJ C N) (f:Nat) (hrange:∀(j:Nat) (oj:Oper),ops[j]?=some oj->∀e∈oj.after,Region.binds .any e=true->e.on<ops.size) (hself:∀j,j<ops.size->Region.waitsFor .any ops j j=false) :
  ∀(n:Nat) (l:List Nat) (listed:Array Bool) (bs:Nat->Prop) (a:Act) (w:World),l.length=n->(l.Pairwise λi j=>pO ops f i j=true)->(∀i∈l,i<ops.size)->listed.size=ops.size ->
   (∀k,k<ops.size->(listed.getD k true=false↔k∈l))->Closed ops listed->C w->(∀k,bs k->k<w.heap.size)->WX P ops C N Q l bs a w->wpAny P .any ops Q n listed a w:=by
 intro n;induction n with
 | zero =>
  intro l listed bs a w hn _ _ hsz hun _ _ _ h
  have hl:l=[]:=List.eq_nil_of_length_eq_zero hn
  subst hl
  refine⟨List.eq_nil_iff_forall_not_mem.2 λj hj=>?_,h⟩
  obtain⟨h1,o,ho,_⟩:=mem_ready.1 hj
  have:=(hun j (Array.getElem?_eq_some_iff.1 ho).1).1 h1
  cases this
 | succ n ih =>
  intro l listed bs a w hn hp hin hsz hun hcl hC hbs h
  refine⟨λh0=>?_,λj hj=>?_⟩
  ·-- the first operation of the walk is ready
   match l,hn with
   | i::l,_ =>
    have hi:=hin i (List.mem_cons_self ..)
    have hi':ops[i]?=some ops[i]:=Array.getElem?_eq_getElem _
    have hr:i∈Region.ready .any ops listed:=by
     refine mem_ready.2 ⟨(hun i hi).2 (List.mem_cons_self ..),_,hi',λe he hb=>?_⟩;have hes:=hrange i _ hi' e he hb;have hw:Region.waitsFor .any ops i e.on=true:=by
      unfold Region.waitsFor;rw[hi'];exact Array.any_eq_true'.2 ⟨e,he,by simp[hb]⟩
     have hnm:e.on ∉ i::l:=by
      intro hm;rcases List.mem_cons.1 hm with hm|hm
      ·rw[hm,hself i hi]at hw;cases hw
      ·have:=(List.pairwise_cons.1 hp).1 e.on hm;simp[pO,hw]at this
     have hes':e.on<listed.size:=by omega
     cases hg:listed.getD e.on false with
     | true=>rfl
     | false=>exact absurd ((hun e.on hes).1 (getD_in hes' hg)) hnm
    rw[h0]at hr
    cases hr
  ·obtain⟨hjun,oj,hoj,hall⟩:=mem_ready.1 hj
   have hjs:j<ops.size:=(Array.getElem?_eq_some_iff.1 hoj).1
   have hjl:=(hun j hjs).1 hjun
   obtain⟨s,t,rfl⟩:=List.append_of_mem hjl
   have hsl:s.length+t.length=n:=by simp at hn;omega
   have E8:∀i∈s,pO ops f i j=true:=λi hi=>(List.pairwise_append.1 hp).2.2 i hi j (List.mem_cons_self ..)
   have hins:∀i∈s,i<ops.size:=λi hi=>hin i (List.mem_append_left _ hi)
   have hno:∀i∈s,rQ ops f j i=false:=λi hi=>by
    cases hnb:rQ ops f j i with
    | false=>rfl
    | true =>
     have h1:=Nr hcl f j i oj hoj hall hnb
     have h2:=(hun i (hins i hi)).2 (List.mem_append_left _ hi)
     rw[getD_both h2]at h1
     cases h1
   have hsp:∀i∈s,∀oi,ops[i]?=some oi->oi.apart ops oj=true/\(gu oj≠.act\/gu oi=.still):=λi hi oi hoi=>by
    have h1:=E8 i hi;simp only[pO,hno i hi,hoi,hoj,Bool.false_or,Bool.and_eq_true,Bool.or_eq_true,decide_eq_true_eq]at h1;exact h1.2
   have hfr:∀i∈s,Free ops i j:=λi hi oi wV hoi Nv=>by
    obtain rfl:oj=wV:=Option.some.inj (hoj.symm.trans Nv);exact(hsp i hi oi hoi).1
   have hnd:j ∉ s++t:=by
    intro hm;rcases List.mem_append.1 hm with hm|hm
    ·have:=E8 j hm;simp[pO]at this
    ·have:=(List.pairwise_cons.1 (List.pairwise_append.1 hp).2.1).1 j hm;simp[pO]at this
   have Nw:j<listed.size:=by omega
   have next:∀bs' a' w',C w'->(∀k,bs' k->k<w'.heap.size)->WX P ops C N Q (s++t) bs' a' w'->wpAny P .any ops Q n (listed.setIfInBounds j true) a' w':=λbs' a' w' hC' hb' h'=>by
    refine ih (s++t) _ bs' a' w' (by simp;omega) ?_ ?_ (by simpa using hsz) (λk hk=>?_) ?_ hC' hb' h'
    ·refine List.Pairwise.sublist ?_ hp;exact List.Sublist.append_left (List.sublist_cons_self j t) s
    ·intro i hi;exact hin i (by rcases List.mem_append.1 hi with h|h;exact List.mem_append_left _ h;exact List.mem_append_right _ (List.mem_cons_of_mem _ h))
    ·rw[Ns Nw,hun k hk];constructor
     ·rintro⟨h1,h2⟩;rcases List.mem_append.1 h1 with h1|h1
      ·exact List.mem_append_left _ h1
      ·rcases List.mem_cons.1 h1 with h1|h1
       ·exact absurd h1 h2
       ·exact List.mem_append_right _ h1
     ·intro h1;refine⟨?_,λe=>hnd (e▸h1)⟩;rcases List.mem_append.1 h1 with h1|h1
      ·exact List.mem_append_left _ h1
      ·exact List.mem_append_right _ (List.mem_cons_of_mem _ h1)
    ·intro k ok hok hlk e he hb;by_cases hkj:j=k
     ·subst hkj;obtain rfl:ok=oj:=Option.some.inj (hok.symm.trans hoj);exact getD_set_true (hall e he hb)
     ·rw[getD_set_ne false hkj]at hlk;exact getD_set_true (hcl k ok hok hlk e he hb)
   unfold wpOp
   simp only[hoj]
   by_cases hw:Region.wanted oj (yielded ops a.tmps)=true
   ·rw[if_pos hw]
    left
    cases hk:gu oj with
    | still =>
     obtain⟨a',bs',w',hC',e1,e2,h1⟩:=IW hsel hG hoj t s bs a w hins hfr hC hbs h
     have h2:=h1 oj hoj
     unfold jC jM at h2
     rw[if_pos (by rw[e2];exact hw)]at h2
     simp only[hk]at h2
     obtain⟨v,h3,_⟩:=h2
     have hy:jd P ops C oj v a:=.inl ⟨hw,λw1 hw1=>by have:=h3 w1 hw1;unfold yF at this ⊢;rw[<-e1];exact this⟩
     have h4:=IX hsel hG hoj t s bs a w hfr hC h (.inl hk) hy
     refine Nj (C:=C) (K:=λa' w'=>WX P ops C N Q (s++t) bs a' w'/\w'=w) hC (λa' w' hC' h5=>next bs a' w' hC' (by rw[h5.2];exact hbs) h5.1) (.inl ⟨v,(hy.resolve_right λhh=>by rw[hh.1]at hw;cases hw).2,h4,rfl⟩)
    | act =>
     have h1:=Uw hsel hoj hk t s bs a w hins hfr (λi hi oi hoi=>((hsp i hi oi hoi).2).resolve_left (by simp[hk])) hC h hw
     exact h1.wp λv w2 ⟨c1,c2,bs',c5,c6⟩=>next bs' _ w2 c1 (λk hk'=>by rcases c5 k hk' with h5|h5;(have:=hbs k h5;omega);exact h5.2) c6
    | make =>
     obtain⟨a',bs',w',hC',e1,e2,h1⟩:=IW hsel hG hoj t s bs a w hins hfr hC hbs h
     have h2:=h1 oj hoj
     unfold jC jM at h2
     rw[if_pos (by rw[e2];exact hw)]at h2
     simp only[hk]at h2
     obtain⟨mk,ob,h3,_⟩:=h2
     have h4:=h3 w hC
     rw[e1]at h4
     have hB:=hG.base w hC
     have h5:=Ut hsel hoj hk hC rfl t s bs a w (w.alloc ob) hfr h hw h4 (aj w ob) (heap_alloc_new w ob) hB (λhh=>by have:=hbs _ hh;omega)
     unfold Oper.wp
     rw[h4,Oper.upon_value]
     exact next _ _ _ (hG.grow _ _ hC (aj w ob)) (λk hk'=>by rcases hk' with rfl|hk';simp;(have:=hbs k hk';simp;omega)) h5
   ·rw[if_neg hw]
    have hy:jd P ops C oj undef a:=.inr ⟨by simpa using hw,rfl⟩
    exact next bs _ w hC hbs (IX hsel hG hoj t s bs a w hfr hC h (.inr (by simpa using hw)) hy)
theorem bC {id:Nat} {a:Act} {w:World} {l:List Oper} (f:Nat) (ord:List Nat) (hm:P.follows .mixedOrders=true) (hB:Ux l.toArray f ord=true)
  (hG:nJ C N) (hC:C w.drew) (h:WX P l.toArray C N Q ord (λ_=>False) a w.drew):(Code.region id l.toArray true).wp P Q a w:=by
 simp only[Ux,Bool.and_eq_true,decide_eq_true_eq]at hB;obtain⟨⟨⟨hsel,aa1⟩,yI⟩,hlen⟩:=hB;simp only[Di,Bool.and_eq_true,List.all_eq_true,decide_eq_true_eq,Bool.not_eq_true',List.mem_range,List.contains_iff_mem]at yI;obtain⟨⟨h1,h2⟩,h3⟩:=yI;refine wp_region_any hm ?_;rw[<-hlen];refine Nu (Region.noSelect_spec hsel) hG f (λj oj hj e he hb=>?_) (λj hj=>(h1 j (h2 j hj)).2) ord.length ord _ (λ_=>False) a _ rfl (Dh ord aa1) (λi hi=>(h1 i hi).1) (by simpa using hlen) (λk hk=>?_) (λj oj _ hl=>?_) hC (λk hk=>hk.elim) h
 ·have h4:=Array.all_eq_true'.1 h3 oj (Array.mem_of_getElem? hj);have h5:=Array.all_eq_true'.1 h4 e he;simpa[hb]using h5
 ·exact⟨λ_=>h2 k hk,λ_=>by rw[getD_in (by simpa[hlen]using hk) (getD_replicate_false _ _)]⟩
 ·rw[getD_replicate_false]at hl;cases hl
structure ah (T:Nat->Prop) (w w':World):Prop where
 os:w'.os=w.os
 tape:w'.tape=w.tape
 output:w'.output=w.output
 size:w.heap.size<=w'.heap.size
 block:∀k,k<w.heap.size->¬T k->w'.heap[k]?=w.heap[k]?
theorem ah.refl (T:Nat->Prop) (w:World):ah T w w:=⟨rfl,rfl,rfl,Nat.le_refl _,λ_ _ _=>rfl⟩
theorem ah.below {T:Nat->Prop} {w0 w w':World} (h:ah T w0 w) (hb:Below w.heap.size w w'):ah T w0 w' :=
 ⟨hb.os.trans h.os,hb.tape.trans h.tape,hb.output.trans h.output,Nat.le_trans h.size hb.size,λk hk ht=>(hb.block k (Nat.lt_of_lt_of_le hk h.size)).trans (h.block k hk ht)⟩
theorem ah.grows (T:Nat->Prop) (w0:World):nJ (ah T w0) w0.heap.size:=⟨λ_ _ h hb=>h.below hb,λ_ h=>h.size⟩
theorem ah.cell {T:Nat->Prop} {w0 w:World} (h:ah T w0 w):(∀b o,b<w0.heap.size->¬T b->w.cell? ⟨b,o,none⟩=w0.cell? ⟨b,o,none⟩)/\(∀b o,b<w0.heap.size->¬T b->w.frozen? ⟨b,o,none⟩=w0.frozen? ⟨b,o,none⟩) :=
 ⟨λb o hb ht=>World.cell?_of_block (w:=w0) (h.block b hb ht),λb o hb ht=>World.frozen?_of_block (w:=w0) (h.block b hb ht)⟩
def aQ:Nat->Prop:=λ_=>False
theorem ah.toBelow {w0 w:World} (h:ah aQ w0 w):Below w0.heap.size w0 w:=⟨h.os,h.tape,h.output,h.size,λk hk=>h.block k hk (λh=>h)⟩
theorem Below.exc {T:Nat->Prop} {w0 w:World} (h:Below w0.heap.size w0 w):ah T w0 w:=(ah.refl T w0).below h
theorem aK {bs:Nat->Prop} {a:Act} {w:World} (h:Q .normal a w):WX P ops C N Q [] bs a w:=h
theorem qK {i:Nat} {l:List Nat} {bs:Nat->Prop} {a:Act} {w:World} {o:Oper} (ho:ops[i]?=some o) (hk:gu o=.still) (hg:o.guard=none)
  (h:∀K:(Nat->Prop)->Act->World->Prop,(∀bs a w,WX P ops C N Q l bs a w->K bs a w)->∃v,(∀w',C w'->(execOp a.eval o).run P w'=.ok (.value v) w')/\K bs (a.put o.dst v) w):WX P ops C N Q (i::l) bs a w:=by
 intro o' ho';rw[ho]at ho';obtain rfl:=Option.some.inj ho';obtain⟨v,h1,h2⟩:=h _ λ_ _ _ h=>h;unfold jC jM;rw[if_pos (by simp[Region.wanted,hg])];simp only[hk];exact⟨v,λw' hw'=>.inl (h1 w' hw'),h2⟩
theorem fF {T:Nat->Prop} {w0:World} {i:Nat} {l:List Nat} {bs:Nat->Prop} {a:Act} {w:World} {o:Oper} {v:Value} (ho:ops[i]?=some o) (hk:gu o=.still) (hg:o.guard=none)
  (h1:∀w',(∀b o,b<w0.heap.size->¬T b->w'.cell? ⟨b,o,none⟩=w0.cell? ⟨b,o,none⟩)->(∀b o,b<w0.heap.size->¬T b->w'.frozen? ⟨b,o,none⟩=w0.frozen? ⟨b,o,none⟩)->(execOp a.eval o).run P w'=.ok (.value v) w')
  (h:∀K:(Nat->Prop)->Act->World->Prop,(∀bs a w,WX P ops (ah T w0) N Q l bs a w->K bs a w)->K bs (a.put o.dst v) w):WX P ops (ah T w0) N Q (i::l) bs a w :=
 qK ho hk hg λK hK=>⟨v,λw' hw'=>h1 w' hw'.cell.1 hw'.cell.2,h K hK⟩
theorem ay {w0:World} {i:Nat} {l:List Nat} {bs:Nat->Prop} {a:Act} {w:World} {o:Oper} {v:Value} (ho:ops[i]?=some o) (hk:gu o=.still) (hg:o.guard=none)
  (h1:∀w',(∀b o,b<w0.heap.size->w'.cell? ⟨b,o,none⟩=w0.drew.cell? ⟨b,o,none⟩)->(∀b o,b<w0.heap.size->w'.frozen? ⟨b,o,none⟩=w0.drew.frozen? ⟨b,o,none⟩)->(execOp a.eval o).run P w'=.ok (.value v) w')
  (h:∀K:(Nat->Prop)->Act->World->Prop,(∀bs a w,WX P ops (ah aQ w0.drew) N Q l bs a w->K bs a w)->K bs (a.put o.dst v) w):WX P ops (ah aQ w0.drew) N Q (i::l) bs a w :=
 qK ho hk hg λK hK=>⟨v,λw' hw'=>h1 w' (λb o hb=>hw'.cell.1 b o (by simpa using hb) (λh=>h)) (λb o hb=>hw'.cell.2 b o (by simpa using hb) (λh=>h)),h K hK⟩
theorem oJ {i:Nat} {l:List Nat} {bs:Nat->Prop} {a:Act} {w:World} {o:Oper} (ho:ops[i]?=some o)
  (h:∀K:(Nat->Prop)->Act->World->Prop,(∀bs a w,WX P ops C N Q l bs a w->K bs a w)->Region.wanted o (yielded ops a.tmps)=false/\K bs (a.put o.dst undef) w):WX P ops C N Q (i::l) bs a w:=by
 intro o' ho';rw[ho]at ho';obtain rfl:=Option.some.inj ho';obtain⟨h1,h2⟩:=h _ λ_ _ _ h=>h;unfold jC;rw[if_neg (by rw[h1];simp)];exact h2
theorem aa2 {i:Nat} {l:List Nat} {bs:Nat->Prop} {a:Act} {w:World} {o:Oper} (ho:ops[i]?=some o) (hk:gu o=.still)
  (h:∀K:(Nat->Prop)->Act->World->Prop,(∀bs a w,WX P ops C N Q l bs a w->K bs a w)->Region.wanted o (yielded ops a.tmps)=true/\∃v,(∀w',C w'->(execOp a.eval o).run P w'=.ok (.value v) w')/\K bs (a.put o.dst v) w):WX P ops C N Q (i::l) bs a w:=by
 intro o' ho';rw[ho]at ho';obtain rfl:=Option.some.inj ho';obtain⟨hw,v,h1,h2⟩:=h _ λ_ _ _ h=>h;unfold jC jM;rw[if_pos hw];simp only[hk];exact⟨v,λw' hw'=>.inl (h1 w' hw'),h2⟩
theorem dR {w0:World} {i:Nat} {l:List Nat} {bs:Nat->Prop} {a:Act} {w:World} {o:Oper} {v:Value} (ho:ops[i]?=some o) (hk:gu o=.still) (hw:Region.wanted o (yielded ops a.tmps)=true)
  (h1:∀w',(∀b o,b<w0.heap.size->w'.cell? ⟨b,o,none⟩=w0.drew.cell? ⟨b,o,none⟩)->(∀b o,b<w0.heap.size->w'.frozen? ⟨b,o,none⟩=w0.drew.frozen? ⟨b,o,none⟩)->(execOp a.eval o).run P w'=.ok (.value v) w')
  (h:∀K:(Nat->Prop)->Act->World->Prop,(∀bs a w,WX P ops (ah aQ w0.drew) N Q l bs a w->K bs a w)->K bs (a.put o.dst v) w):WX P ops (ah aQ w0.drew) N Q (i::l) bs a w :=
 aa2 ho hk λK hK=>⟨hw,v,λw' hw'=>h1 w' (λb o hb=>hw'.cell.1 b o (by simpa using hb) (λh=>h)) (λb o hb=>hw'.cell.2 b o (by simpa using hb) (λh=>h)),h K hK⟩
theorem pR {i:Nat} {l:List Nat} {bs:Nat->Prop} {a:Act} {w:World} {o:Oper} (ho:ops[i]?=some o) (hk:gu o=.act) (hG:nJ C N) (hC:C w) (f:FuncId)
  (h:∀K:(Nat->Prop)->Act->World->Prop,(∀bs a w,WX P ops C N Q l bs a w->K bs a w)->Region.wanted o (yielded ops a.tmps)=true/\∃args,(∀w',C w'->(execOp a.eval o).run P w'=.ok (.enter f args) w') /\
   ∀w1,C w1->Below w.heap.size w w1->Calls P f args w1 λe w2=>∃v,e=.returned v/\Below w1.heap.size w1 w2/\(C w2->K bs (a.put o.dst v) w2)):WX P ops C N Q (i::l) bs a w:=by
 intro o' ho';rw[ho]at ho';obtain rfl:=Option.some.inj ho';obtain⟨hw,args,h1,h2⟩:=h _ λ_ _ _ h=>h;unfold jC jM;rw[if_pos hw];simp only[hk];intro w1 hw1;have je:=hG.grow _ _ hC hw1;unfold jL;rw[h1 w1 je];refine(h2 w1 je hw1).mono ?_;rintro e w2⟨v,e1,e2,e3⟩;exact⟨v,e1,hG.grow _ _ je e2,e2.size,λk _ _ hk=>e2.block k hk,bs,λ_ h=>h,λ_ h=>.inl h,e3 (hG.grow _ _ je e2)⟩
theorem aX {i:Nat} {l:List Nat} {bs:Nat->Prop} {a:Act} {w:World} {o:Oper} (ho:ops[i]?=some o) (hk:gu o=.act) (hg:o.guard=none) (hG:nJ C N) (hC:C w) (f:FuncId)
  (h:∀K:(Nat->Prop)->Act->World->Prop,(∀bs a w,WX P ops C N Q l bs a w->K bs a w)->∃args,(∀w',C w'->(execOp a.eval o).run P w'=.ok (.enter f args) w') /\
   ∀w1,C w1->Below w.heap.size w w1->Calls P f args w1 λe w2=>∃v,e=.returned v/\Below w1.heap.size w1 w2/\(C w2->K bs (a.put o.dst v) w2)):WX P ops C N Q (i::l) bs a w :=
 pR ho hk hG hC f λK hK=>⟨by simp[Region.wanted,hg],h K hK⟩
theorem eH {i:Nat} {l:List Nat} {bs:Nat->Prop} {a:Act} {w:World} {o:Oper} (ho:ops[i]?=some o) (hk:gu o=.act) (hg:o.guard=none) (hG:nJ C N) (hC:C w)
  (h:∀K:(Nat->Prop)->Act->World->Prop,(∀bs a w,WX P ops C N Q l bs a w->K bs a w)->∀w1,C w1->Below w.heap.size w w1->∃w2,(execOp a.eval o).run P w1=.ok .skip w2 /\
   (C w2/\w1.heap.size<=w2.heap.size/\∀k,N<=k->¬bs k->k<w1.heap.size->w2.heap[k]?=w1.heap[k]?)/\K bs (a.put o.dst undef) w2):WX P ops C N Q (i::l) bs a w:=by
 intro o' ho';rw[ho]at ho';obtain rfl:=Option.some.inj ho';unfold jC jM;rw[if_pos (by simp[Region.wanted,hg])];simp only[hk];intro w1 hw1;obtain⟨w2,h1,⟨h2,h3,h4⟩,h5⟩:=h _ (λ_ _ _ h=>h) w1 (hG.grow _ _ hC hw1) hw1;unfold jL;rw[h1];exact⟨h2,h3,h4,bs,λ_ h=>h,λ_ h=>.inl h,h5⟩
theorem fG {i:Nat} {l:List Nat} {bs:Nat->Prop} {a:Act} {w:World} {o:Oper} (ho:ops[i]?=some o) (hk:gu o=.make) (hg:o.guard=none) (hG:nJ C N) (hC:C w) (mk:Nat->Value)
  (h:∀K:(Nat->Prop)->Act->World->Prop,(∀bs a w,WX P ops C N Q l bs a w->K bs a w)->∃ob,(∀w',C w'->(execOp a.eval o).run P w'=.ok (.value (mk w'.heap.size)) (w'.alloc ob)) /\
   ∀b w',C w'->Below w.heap.size w w'->w'.heap[b]?=some ob->N<=b->¬bs b->K (λk=>k=b\/bs k) (a.put o.dst (mk b)) w'):WX P ops C N Q (i::l) bs a w:=by
 intro o' ho';rw[ho]at ho';obtain rfl:=Option.some.inj ho';obtain⟨ob,h1,h2⟩:=h _ λ_ _ _ h=>h;unfold jC jM;rw[if_pos (by simp[Region.wanted,hg])];simp only[hk];exact⟨mk,ob,h1,λb w' hw' hb hN hbs=>h2 b w' (hG.grow _ _ hC hw') hw' hb hN hbs⟩
theorem made_cell {w:World} {b:Nat} {cs:Array Value} {t:TypeId} (h:w.heap[b]?=some (.cells cs t)):(∀o,w.cell? ⟨b,o,none⟩=cs[o]?)/\(∀o,w.frozen? ⟨b,o,none⟩=false)/\b<w.heap.size :=
 ⟨λo=>cell_of_row w b o cs t (0,0) h,λo=>frozen_of_row w b o cs t h,(Array.getElem?_eq_some_iff.1 h).1⟩
theorem aB {T:Nat->Prop} {w0 w:World} (h:ah T w0 w) {a:Addr} (ha:w0.heap.size<=a.block\/T a.block) (u:Value):ah T w0 (w.setCell a u) :=
 ⟨h.os,h.tape,h.output,by simpa[World.setCell]using h.size,λk hk ht=>by
  rw[Below.heap_setCell _ _ _ _ (by rintro rfl;rcases ha with ha|ha;omega;exact ht ha)];exact h.block k hk ht⟩
end
section
variable {P:Program} {ops:Array Oper} {Q:Exit -> Act -> World -> Prop} {T:Nat -> Prop} {w0:World}
theorem ah.grown {w w':World} {row:Option Nat} (h:ah T w0 w) (hg:w.grownBy w' row) (hr:∀k,row=some k->w0.heap.size<=k\/T k):ah T w0 w' :=
 ⟨hg.os.trans h.os,hg.tape.trans h.tape,hg.output.trans h.output,Nat.le_trans h.size hg.size,λk hk ht=>by
  rw[hg.block k (Nat.lt_of_lt_of_le hk h.size) (λe=>by rcases hr k e.symm with h'|h';omega;exact ht h')];exact h.block k hk ht⟩
theorem zZ {i:Nat} {l:List Nat} {bs:Nat->Prop} {a:Act} {w:World} {o:Oper} (ho:ops[i]?=some o) (hk:gu o=.act) (hg:o.guard=none) (hC:ah T w0 w) (s x:Operand) (t:TypeId)
  (hop:o.op=Op.call { callee:=Callee.builtin Builtin.append,args:=#[s,x],argTypes:=#[t,t] })
  (base:Nat) (e:TypeId) (inf:TypeInfo) (size:Nat) (h1:P.underlying t=some (.slice e)) (h2:P.info? e=some inf) (h4:inf.size=size)
  (g n cap:Nat) (xs:List Value) (hs:a.eval s=.slice (some ⟨g,0,none⟩) n cap) (hgN:g<w0.heap.size) (hT:T g) (ad:Addr) (m c:Nat) (news:List Value) (hx:a.eval x=.slice (some ad) m c) (hn:news.length=m*size)
  (h1c:∀u∈news,u.oneCell'=true) (b1:n+m<=cap)
  (H:∀w1,ah T w0 w1->Below w.heap.size w w1->w1.ownsRow base e size (.slice (some ⟨g,0,none⟩) n cap) n xs/\(∀j u,news[j]?=some u->w1.cell? (ad.add j)=some u))
  (h:∀K:(Nat->Prop)->Act->World->Prop,(∀bs a w,WX P ops (ah T w0) w0.heap.size Q l bs a w->K bs a w)->∀w1 w2,ah T w0 w1->Below w.heap.size w w1 ->
   w2.ownsRow base e size (.slice (some ⟨g,0,none⟩) (n+m) cap) (n+m) (xs++news)->w1.grownBy w2 (some g)->ah T w0 w2->K bs (a.put o.dst (.slice (some ⟨g,0,none⟩) (n+m) cap)) w2) :
  WX P ops (ah T w0) w0.heap.size Q (i::l) bs a w:=by
 intro o' ho';rw[ho]at ho';obtain rfl:=Option.some.inj ho';unfold jC jM;rw[if_pos (by simp[Region.wanted,hg])];simp only[hk];intro w1 hw1;have je:=hC.below hw1;obtain⟨ha,hb⟩:=H w1 je hw1;obtain⟨w2,hrun,r1,r2⟩:=run_append_fits (P:=P) w1 base t o.type e inf size h1 h2 h4 g n cap xs ha ad m c news hn hb h1c b1;have hr:(execOp a.eval o).run P w1=.ok (.value (.slice (some ⟨g,0,none⟩) (n+m) cap)) w2:=by
  simp[execOp,hop,resolve,invoke,builtin,hs,hx,hrun,Result.andThen]
 unfold jL;rw[hr];have hC2:ah T w0 w2:=je.grown r2 (λk hk=>by cases hk;exact .inr hT);exact⟨hC2,r2.size,λk hN _ hlt=>r2.block k hlt (λe=>by cases e;omega),bs,λ_ h=>h,λ_ h=>.inl h,h _ (λ_ _ _ h=>h) w1 w2 je hw1 r1 r2 hC2⟩
end
def Dj (w:World) (sz:Nat) (x:Value) (m:Nat) (news:List Value):Prop :=
 news.length=m*sz/\((m=0/\∃c,x=.slice none 0 c)\/∃ad c,x=.slice (some ad) m c/\∀j u,news[j]?=some u->w.cell? (ad.add j)=some u)
theorem Uy {P:Program} (w:World) (base:Nat) (t ty e:TypeId) (i:TypeInfo) (z:Value) (size bytes:Nat) (ht:P.underlying t=some (.slice e)) (hi:P.info? e=some i) (hz:i.zero=some z)
  (hsize:i.size=size) (hby:i.bytes=bytes) (hzs:z.cells.size=size) (hsz:0<size)
  (v:Value) (n:Nat) (xs:List Value) (hown:w.ownsRow base e size v n xs) (x:Value) (m:Nat) (news:List Value) (hx:Dj w size x m news) (h1:∀u∈news,u.oneCell'=true)
  (h63:n+m<=maxLen) (hbytes:(n+m)*bytes<=140737488355328) (hbase:base<=w.heap.size) :
  ∃v' w',(Builtin.append_ #[t,t] ty #[v,x]).run P w=.ok v' w'/\w'.ownsRow base e size v' (n+m) (xs++news)/\w.grownBy w' v.ownBlock/\(v'.ownBlock=v.ownBlock\/v'.ownBlock=some w.heap.size):=by
 obtain⟨hl,hx⟩:=hx;rcases hx with⟨rfl,c,rfl⟩|⟨ad,c,rfl,hc⟩
 ·have hn:news=[]:=List.eq_nil_of_length_eq_zero (by simpa using hl);subst hn;have hgr:w.grownBy w v.ownBlock:=⟨rfl,rfl,rfl,Nat.le_refl _,λ_ _ _=>rfl⟩
  rcases hown.2 with⟨rfl,rfl⟩|⟨g,cap,cur,rfl,hbg,hg,hnc,hcm,hcs,htake⟩
  ·refine⟨.slice none 0 0,w,?_,by simpa using hown,hgr,.inl rfl⟩;simp[Builtin.append_,run_underlying ht,sizeOf,typeInfo,hi,Builtin.lenOf,Builtin.firstCells]
  ·refine⟨_,w,?_,by simpa using hown,hgr,.inl rfl⟩;simp[Builtin.append_,run_underlying ht,sizeOf,typeInfo,hi,Builtin.lenOf,Builtin.firstCells,hnc,storeCells]
 ·obtain⟨v',w',r1,r2,r3,_,r5⟩:=run_append_own_at (P:=P) w base t ty e i z size bytes ht hi hz hsize hby hzs hsz v n xs hown ad m c news hl hc h1 h63 hbytes hbase;exact⟨v',w',r1,r2,r3,r5⟩
theorem oK {P:Program} {w:World} {ops:Array Oper} {rest:List Oper} {o:Oper} {a:Act} {Q:Exit->Act->World->Prop} (hgd:o.guard=none) (s x:Operand) (t:TypeId)
  (ho:o.op=.call { callee:=.builtin .append,args:=#[s,x],argTypes:=#[t,t] })
  (base:Nat) (e:TypeId) (i:TypeInfo) (z:Value) (size bytes:Nat) (ht:P.underlying t=some (.slice e)) (hi:P.info? e=some i) (hz:i.zero=some z)
  (hsize:i.size=size) (hby:i.bytes=bytes) (hzs:z.cells.size=size) (hsz:0<size)
  (v:Value) (n:Nat) (xs:List Value) (hs:a.eval s=v) (hown:w.ownsRow base e size v n xs) (u:Value) (m:Nat) (news:List Value) (hu:a.eval x=u) (hx:Dj w size u m news) (h1:∀u∈news,u.oneCell'=true)
  (h63:n+m<=maxLen) (hbytes:(n+m)*bytes<=140737488355328) (hbase:base<=w.heap.size)
  (h:∀v' w',w'.ownsRow base e size v' (n+m) (xs++news)->w.grownBy w' v.ownBlock->(v'.ownBlock=v.ownBlock\/v'.ownBlock=some w.heap.size)->wpList P ops Q rest (a.put o.dst v') w'):wpList P ops Q (o::rest) a w:=by
 refine wpList_plain hgd λK hK=>?_;obtain⟨v',w',hr,r2,r3,r5⟩:=Uy (P:=P) w base t o.type e i z size bytes ht hi hz hsize hby hzs hsz v n xs hown u m news hx h1 h63 hbytes hbase;unfold Oper.wp execOp;simp only[ho,resolve,invoke,builtin,Sem.run_bind,Sem.run_pure,Result.andThen_ok,List.map_toArray,List.map_cons,List.map_nil,hs,hu,hr];exact hK _ _ (h v' w' r2 r3 r5)
section
variable {P:Program} {ops:Array Oper} {Q:Exit -> Act -> World -> Prop} {T:Nat -> Prop} {w0:World}
def more (bs:Nat->Prop) (w1 w2:World):Nat->Prop:=λk=>bs k\/(w1.heap.size<=k/\k<w2.heap.size)
theorem rU {i:Nat} {l:List Nat} {bs:Nat->Prop} {a:Act} {w:World} {o:Oper} (ho:ops[i]?=some o) (hk:gu o=.act) (hg:o.guard=none) (hC:ah T w0 w) (s x:Operand) (t:TypeId)
  (hop:o.op=Op.call { callee:=Callee.builtin Builtin.append,args:=#[s,x],argTypes:=#[t,t] })
  (base:Nat) (e:TypeId) (inf:TypeInfo) (z:Value) (size bytes:Nat) (h1:P.underlying t=some (.slice e)) (h2:P.info? e=some inf) (hz:inf.zero=some z)
  (hsize:inf.size=size) (hby:inf.bytes=bytes) (hzs:z.cells.size=size) (hsz:0<size)
  (v:Value) (n:Nat) (xs:List Value) (hs:a.eval s=v) (Dk:∀k,v.ownBlock=some k->(k<w0.heap.size/\T k)\/(w0.heap.size<=k/\bs k)) (u:Value) (m:Nat) (news:List Value) (hu:a.eval x=u)
  (h1c:∀u∈news,u.oneCell'=true) (h63:n+m<=maxLen) (hbytes:(n+m)*bytes<=140737488355328) (hbase:base<=w.heap.size)
  (H:∀w1,ah T w0 w1->Below w.heap.size w w1->w1.ownsRow base e size v n xs/\Dj w1 size u m news)
  (h:∀K:(Nat->Prop)->Act->World->Prop,(∀bs a w,WX P ops (ah T w0) w0.heap.size Q l bs a w->K bs a w)->∀w1 w2 v',ah T w0 w1->Below w.heap.size w w1 ->
   w2.ownsRow base e size v' (n+m) (xs++news)->w1.grownBy w2 v.ownBlock->ah T w0 w2->(v'.ownBlock=v.ownBlock\/v'.ownBlock=some w1.heap.size)->K (more bs w1 w2) (a.put o.dst v') w2) :
  WX P ops (ah T w0) w0.heap.size Q (i::l) bs a w:=by
 intro o' ho';rw[ho]at ho';obtain rfl:=Option.some.inj ho';unfold jC jM;rw[if_pos (by simp[Region.wanted,hg])];simp only[hk];intro w1 hw1;have je:=hC.below hw1;obtain⟨ha,hb⟩:=H w1 je hw1;obtain⟨v',w2,hrun,r1,r2,r4⟩:=Uy (P:=P) w1 base t o.type e inf z size bytes h1 h2 hz hsize hby hzs hsz v n xs ha u m news hb h1c h63 hbytes (Nat.le_trans hbase hw1.size);have hr:(execOp a.eval o).run P w1=.ok (.value v') w2:=by
  simp[execOp,hop,resolve,invoke,builtin,hs,hu,hrun,Result.andThen]
 unfold jL;rw[hr];have hC2:ah T w0 w2:=je.grown r2 (λk hk=>(Dk k hk).elim (λh=>.inr h.2) (λh=>.inl h.1));exact⟨hC2,r2.size,λk hN hnb hlt=>r2.block k hlt (λe=>by rcases Dk k e.symm with h|h;omega;exact hnb h.2),more bs w1 w2,λ_ h=>.inl h,λ_ h=>h,h _ (λ_ _ _ h=>h) w1 w2 v' je hw1 r1 r2 hC2 r4⟩
theorem aa4 {C:World->Prop} {N:Nat} {i:Nat} {l:List Nat} {bs:Nat->Prop} {a:Act} {w:World} {o:Oper} (ho:ops[i]?=some o) (hk:gu o=.act) (hg:o.guard=none) (hG:nJ C N) (hC:C w) (f:FuncId)
  (h:∀K:(Nat->Prop)->Act->World->Prop,(∀bs a w,WX P ops C N Q l bs a w->K bs a w)->∃args,(∀w',C w'->(execOp a.eval o).run P w'=.ok (.enter f args) w') /\
   ∀w1,C w1->Below w.heap.size w w1->Calls P f args w1 λe w2=>∃v,e=.returned v/\Below w1.heap.size w1 w2/\(C w2->K (more bs w1 w2) (a.put o.dst v) w2)):WX P ops C N Q (i::l) bs a w:=by
 intro o' ho';rw[ho]at ho';obtain rfl:=Option.some.inj ho';obtain⟨args,h1,h2⟩:=h _ λ_ _ _ h=>h;unfold jC jM;rw[if_pos (by simp[Region.wanted,hg])];simp only[hk];intro w1 hw1;have je:=hG.grow _ _ hC hw1;unfold jL;rw[h1 w1 je];refine(h2 w1 je hw1).mono ?_;rintro e w2⟨v,e1,e2,e3⟩;exact⟨v,e1,hG.grow _ _ je e2,e2.size,λk _ _ hk=>e2.block k hk,more bs w1 w2,λ_ h=>.inl h,λ_ h=>h,e3 (hG.grow _ _ je e2)⟩
end
theorem Uz {α:Type} {f:α->List Value} {sz:Nat} (hsz:0<sz) (hf:∀x,(f x).length=sz) {w:World} {v:Value} {xs:List α} {R:Nat->Nat->Nat->Prop} (h:iT sz v xs.length R)
  (hr:∀i b o,(hi:i<xs.length)->R i b (o)->∀j,j<sz->w.cell? ⟨b,o+j,none⟩=(f xs[i])[j]?):Dj w sz v xs.length (xs.flatMap f):=by
 obtain⟨a,cap,rfl,hc,hat⟩:=h;refine⟨flat_length hf xs,?_⟩;cases a with
 | none =>
  by_cases h0:xs.length=0
  ·exact .inl ⟨h0,cap,by rw[h0]⟩
  ·obtain⟨b,o,h1,_⟩:=hat 0 (by omega)
   cases h1
 | some ad =>
  refine .inr ⟨ad,cap,rfl,λj u hj=>?_⟩
  have hlt:j<(xs.flatMap f).length:=by
   rcases Nat.lt_or_ge j (xs.flatMap f).length with h|h
   ·exact h
   ·rw[List.getElem?_eq_none h]at hj;cases hj
  rw[flat_length hf]at hlt
  have hd:j=(j / sz)*sz+j % sz:=by rw[Nat.mul_comm];exact(Nat.div_add_mod j sz).symm
  have hq:j / sz<xs.length:=Nat.div_lt_of_lt_mul (by rw[Nat.mul_comm];exact hlt)
  have hm:j % sz<sz:=Nat.mod_lt _ hsz
  obtain⟨b,o,h1,h2⟩:=hat (j / sz) hq
  obtain rfl:=Option.some.inj h1
  have h3:=hr _ _ _ hq h2 (j % sz) hm
  rw[<-flat_get hf xs (j / sz) (j % sz) hq hm,<-hd,hj]at h3
  rw[<-h3]
  have hadd:({ block:=b,off:=o }:Addr).add j=⟨b,o+j,none⟩:=by
   unfold Addr.add;split
   ·rename_i h0;subst h0;rfl
   ·rfl
  rw[hadd,show o+j / sz*sz+j % sz=o+j by omega]
theorem aa5 {w:World} {v:Value} {ns:List Nd} (h:aZ w v ns):Dj w 3 v ns.length (ns.flatMap d_):=by
 refine Uz (by omega) rM h ?_;rintro i b o hi⟨_,h0,h1,h2⟩ j hj;match j,hj with
 | 0,_=>exact h0
 | 1,_=>exact h1
 | 2,_=>exact h2
def vH (w:World) (v:Value) (xs:List (Df×Value)):Prop :=
 iT 4 v xs.length (λi b o=>∃h:i<xs.length,∀j,j<4->w.cell? ⟨b,o+j,none⟩=(bM xs[i])[j]?)/\∀x∈xs,aZ w x.2 x.1.body
theorem vH.src {w:World} {v:Value} {xs:List (Df×Value)} (h:vH w v xs):Dj w 4 v xs.length (xs.flatMap bM) :=
 Uz (by omega) mF h.1 λi b o hi ⟨_,h⟩=>h
theorem vH.at {w:World} {v:Value} {xs:List (Df×Value)} (h:vH w v xs):aG w v (xs.map Prod.fst):=by
 obtain⟨⟨a,cap,rfl,hc,hat⟩,hb⟩:=h;refine⟨a,cap,by simp,by simpa using hc,λi hi=>?_⟩;have hi':i<xs.length:=by simpa using hi
 obtain⟨b,o,h1,_,h2⟩:=hat i hi';refine⟨b,o,h1,hi,?_⟩;rw[List.getElem_map];exact⟨h2 0 (by omega),h2 1 (by omega),h2 2 (by omega),xs[i].2,h2 3 (by omega),hb _ (List.getElem_mem _)⟩
theorem aG.vals {w:World} {v:Value} {L:List Df} (h:aG w v L):∃xs:List (Df×Value),xs.map Prod.fst=L/\vH w v xs:=by
 obtain⟨a,cap,rfl,hc,hat⟩:=h;have key:∀(n:Nat),n<=L.length->∃xs:List (Df×Value),xs.map Prod.fst=L.take n/\(∀i (hi:i<xs.length),∃b o,a=some ⟨b,o,none⟩/\∀j,j<4->w.cell? ⟨b,o+i*4+j,none⟩=(bM xs[i])[j]?)/\∀x∈xs,aZ w x.2 x.1.body:=by
  intro n;induction n with
  | zero=>intro _;exact⟨[],by simp,by simp,by simp⟩
  | succ n ih =>
   intro hn
   obtain⟨xs,e1,e2,e3⟩:=ih (by omega)
   have hlen:xs.length=n:=by have:=congrArg List.length e1;simp at this;omega
   obtain⟨b,o,h1,hi,c0,c1,c2,u,c3,hu⟩:=hat n (by omega)
   refine⟨xs++[(L[n],u)],?_,?_,?_⟩
   ·rw[List.map_append,e1,List.take_succ_eq_append_getElem (by omega)];rfl
   ·intro i hi'
    by_cases hin:i<xs.length
    ·obtain⟨b',o',g1,g2⟩:=e2 i hin
     refine⟨b',o',g1,λj hj=>?_⟩
     rw[List.getElem_append_left hin];exact g2 j hj
    ·have:i=n:=by simp at hi';omega
     subst this
     refine⟨b,o,h1,λj hj=>?_⟩
     rw[List.getElem_append_right (by omega)]
     simp only[hlen,Nat.sub_self,List.getElem_cons_zero]
     match j,hj with
     | 0,_=>exact c0
     | 1,_=>exact c1
     | 2,_=>exact c2
     | 3,_=>exact c3
   ·intro x hx
    rcases List.mem_append.1 hx with hx|hx
    ·exact e3 x hx
    ·simp at hx;subst hx;exact hu
 obtain⟨xs,e1,e2,e3⟩:=key L.length (Nat.le_refl _);rw[List.take_length]at e1;have hlen:xs.length=L.length:=by have:=congrArg List.length e1;simpa using this
 refine⟨xs,e1,⟨a,cap,by rw[hlen],by omega,λi hi=>?_⟩,e3⟩;obtain⟨b,o,g1,g2⟩:=e2 i hi;exact⟨b,o,g1,hi,g2⟩
theorem aa6 (ns:List Nd):∀u∈ns.flatMap d_,u.oneCell'=true:=by
 intro u hu;obtain⟨d,_,hd⟩:=List.mem_flatMap.1 hu;simp[d_]at hd;rcases hd with rfl|rfl|rfl<;>rfl
section
variable {P:Program} {ops:Array Oper} {C:World -> Prop} {N:Nat} {Q:Exit -> Act -> World -> Prop}
theorem UA {Q1:Exit->Act->World->Prop} (E:List Nat) (m:Nat) (hsel:Dc ops) (hG:nJ C N) (f:Nat) (hrange:∀(j:Nat) (oj:Oper),ops[j]?=some oj->∀e∈oj.after,Region.binds .any e=true->e.on<ops.size) (hself:∀j,j<ops.size->Region.waitsFor .any ops j j=false) :
  ∀(n:Nat) (l:List Nat) (listed:Array Bool) (bs:Nat->Prop) (a:Act) (w:World),l.length=n->(l.Pairwise λi j=>pO ops f i j=true)->(∀i∈l,i<ops.size)->listed.size=ops.size ->
   (∀k,k<ops.size->(listed.getD k true=false↔(k∈l\/k∈E)))->(∀e∈E,∀i∈l,rQ ops f e i=true/\Region.waitsFor .any ops i e=false/\i≠e)->Closed ops listed->C w->(∀k,bs k->k<w.heap.size) ->
   (∀(listed:Array Bool) (a:Act) (w:World),listed.size=ops.size->(∀k,k<ops.size->(listed.getD k true=false↔k∈E))->Closed ops listed->Q1 .normal a w->wpAny P .any ops Q m listed a w) ->
   WX P ops C N Q1 l bs a w->wpAny P .any ops Q (n+m) listed a w:=by
 intro n;induction n with
 | zero =>
  intro l listed bs a w hn _ _ hsz hun _ hcl _ _ hfin h
  have hl:l=[]:=List.eq_nil_of_length_eq_zero hn
  subst hl
  rw[Nat.zero_add]
  exact hfin listed a w hsz (λk hk=>by rw[hun k hk];simp) hcl h
 | succ n ih =>
  intro l listed bs a w hn hp hin hsz hun IY hcl hC hbs hfin h
  rw[Nat.add_right_comm]
  refine⟨λh0=>?_,λj hj=>?_⟩
  ·-- the first operation of the walk is ready
   match l,hn with
   | i::l,_ =>
    have hi:=hin i (List.mem_cons_self ..)
    have hi':ops[i]?=some ops[i]:=Array.getElem?_eq_getElem _
    have hr:i∈Region.ready .any ops listed:=by
     refine mem_ready.2 ⟨(hun i hi).2 (.inl (List.mem_cons_self ..)),_,hi',λe he hb=>?_⟩;have hes:=hrange i _ hi' e he hb;have hw:Region.waitsFor .any ops i e.on=true:=by
      unfold Region.waitsFor;rw[hi'];exact Array.any_eq_true'.2 ⟨e,he,by simp[hb]⟩
     have hnm:e.on ∉ i::l:=by
      intro hm;rcases List.mem_cons.1 hm with hm|hm
      ·rw[hm,hself i hi]at hw;cases hw
      ·have:=(List.pairwise_cons.1 hp).1 e.on hm;simp[pO,hw]at this
     have hes':e.on<listed.size:=by omega
     have hnE:e.on ∉ E:=λhm=>by
      have:=(IY e.on hm i (List.mem_cons_self ..)).2.1;rw[hw]at this;cases this
     cases hg:listed.getD e.on false with
     | true=>rfl
     | false=>exact absurd ((hun e.on hes).1 (getD_in hes' hg)) (λh=>h.elim hnm hnE)
    rw[h0]at hr
    cases hr
  ·obtain⟨hjun,oj,hoj,hall⟩:=mem_ready.1 hj
   have hjs:j<ops.size:=(Array.getElem?_eq_some_iff.1 hoj).1
   have hjl:j∈l:=by
    rcases(hun j hjs).1 hjun with h1|h1
    ·exact h1
    ·match l,hn with
     | i::l,_ =>
      have h2:=(IY j h1 i (List.mem_cons_self ..)).1
      have h3:=Nr hcl f j i oj hoj hall h2
      have h4:=(hun i (hin i (List.mem_cons_self ..))).2 (.inl (List.mem_cons_self ..))
      rw[getD_both h4]at h3
      cases h3
   obtain⟨s,t,rfl⟩:=List.append_of_mem hjl
   have hsl:s.length+t.length=n:=by simp at hn;omega
   have E8:∀i∈s,pO ops f i j=true:=λi hi=>(List.pairwise_append.1 hp).2.2 i hi j (List.mem_cons_self ..)
   have hins:∀i∈s,i<ops.size:=λi hi=>hin i (List.mem_append_left _ hi)
   have hno:∀i∈s,rQ ops f j i=false:=λi hi=>by
    cases hnb:rQ ops f j i with
    | false=>rfl
    | true =>
     have h1:=Nr hcl f j i oj hoj hall hnb
     have h2:=(hun i (hins i hi)).2 (.inl (List.mem_append_left _ hi))
     rw[getD_both h2]at h1
     cases h1
   have hsp:∀i∈s,∀oi,ops[i]?=some oi->oi.apart ops oj=true/\(gu oj≠.act\/gu oi=.still):=λi hi oi hoi=>by
    have h1:=E8 i hi;simp only[pO,hno i hi,hoi,hoj,Bool.false_or,Bool.and_eq_true,Bool.or_eq_true,decide_eq_true_eq]at h1;exact h1.2
   have hfr:∀i∈s,Free ops i j:=λi hi oi wV hoi Nv=>by
    obtain rfl:oj=wV:=Option.some.inj (hoj.symm.trans Nv);exact(hsp i hi oi hoi).1
   have hnd:j ∉ s++t:=by
    intro hm;rcases List.mem_append.1 hm with hm|hm
    ·have:=E8 j hm;simp[pO]at this
    ·have:=(List.pairwise_cons.1 (List.pairwise_append.1 hp).2.1).1 j hm;simp[pO]at this
   have Nw:j<listed.size:=by omega
   have next:∀bs' a' w',C w'->(∀k,bs' k->k<w'.heap.size)->WX P ops C N Q1 (s++t) bs' a' w'->wpAny P .any ops Q (n+m) (listed.setIfInBounds j true) a' w':=λbs' a' w' hC' hb' h'=>by
    refine ih (s++t) _ bs' a' w' (by simp;omega) ?_ ?_ (by simpa using hsz) (λk hk=>?_) (λe he i hi=>IY e he i (by rcases List.mem_append.1 hi with h|h;exact List.mem_append_left _ h;exact List.mem_append_right _ (List.mem_cons_of_mem _ h))) ?_ hC' hb' hfin h'
    ·refine List.Pairwise.sublist ?_ hp;exact List.Sublist.append_left (List.sublist_cons_self j t) s
    ·intro i hi;exact hin i (by rcases List.mem_append.1 hi with h|h;exact List.mem_append_left _ h;exact List.mem_append_right _ (List.mem_cons_of_mem _ h))
    ·rw[Ns Nw,hun k hk];constructor
     ·rintro⟨h0,h2⟩;rcases h0 with h1|h1
      ·rcases List.mem_append.1 h1 with h1|h1
       ·exact .inl (List.mem_append_left _ h1)
       ·rcases List.mem_cons.1 h1 with h1|h1
        ·exact absurd h1 h2
        ·exact .inl (List.mem_append_right _ h1)
      ·exact .inr h1
     ·rintro(h1|h1)
      ·refine⟨.inl ?_,λe=>hnd (e▸h1)⟩;rcases List.mem_append.1 h1 with h1|h1
       ·exact List.mem_append_left _ h1
       ·exact List.mem_append_right _ (List.mem_cons_of_mem _ h1)
      ·exact⟨.inr h1,λe=>(IY k h1 j hjl).2.2 e.symm⟩
    ·intro k ok hok hlk e he hb;by_cases hkj:j=k
     ·subst hkj;obtain rfl:ok=oj:=Option.some.inj (hok.symm.trans hoj);exact getD_set_true (hall e he hb)
     ·rw[getD_set_ne false hkj]at hlk;exact getD_set_true (hcl k ok hok hlk e he hb)
   unfold wpOp
   simp only[hoj]
   by_cases hw:Region.wanted oj (yielded ops a.tmps)=true
   ·rw[if_pos hw]
    left
    cases hk:gu oj with
    | still =>
     obtain⟨a',bs',w',hC',e1,e2,h1⟩:=IW hsel hG hoj t s bs a w hins hfr hC hbs h
     have h2:=h1 oj hoj
     unfold jC jM at h2
     rw[if_pos (by rw[e2];exact hw)]at h2
     simp only[hk]at h2
     obtain⟨v,h3,_⟩:=h2
     have hy:jd P ops C oj v a:=.inl ⟨hw,λw1 hw1=>by have:=h3 w1 hw1;unfold yF at this ⊢;rw[<-e1];exact this⟩
     have h4:=IX hsel hG hoj t s bs a w hfr hC h (.inl hk) hy
     refine Nj (C:=C) (K:=λa' w'=>WX P ops C N Q1 (s++t) bs a' w'/\w'=w) hC (λa' w' hC' h5=>next bs a' w' hC' (by rw[h5.2];exact hbs) h5.1) (.inl ⟨v,(hy.resolve_right λhh=>by rw[hh.1]at hw;cases hw).2,h4,rfl⟩)
    | act =>
     have h1:=Uw hsel hoj hk t s bs a w hins hfr (λi hi oi hoi=>((hsp i hi oi hoi).2).resolve_left (by simp[hk])) hC h hw
     exact h1.wp λv w2 ⟨c1,c2,bs',c5,c6⟩=>next bs' _ w2 c1 (λk hk'=>by rcases c5 k hk' with h5|h5;(have:=hbs k h5;omega);exact h5.2) c6
    | make =>
     obtain⟨a',bs',w',hC',e1,e2,h1⟩:=IW hsel hG hoj t s bs a w hins hfr hC hbs h
     have h2:=h1 oj hoj
     unfold jC jM at h2
     rw[if_pos (by rw[e2];exact hw)]at h2
     simp only[hk]at h2
     obtain⟨mk,ob,h3,_⟩:=h2
     have h4:=h3 w hC
     rw[e1]at h4
     have hB:=hG.base w hC
     have h5:=Ut hsel hoj hk hC rfl t s bs a w (w.alloc ob) hfr h hw h4 (aj w ob) (heap_alloc_new w ob) hB (λhh=>by have:=hbs _ hh;omega)
     unfold Oper.wp
     rw[h4,Oper.upon_value]
     exact next _ _ _ (hG.grow _ _ hC (aj w ob)) (λk hk'=>by rcases hk' with rfl|hk';simp;(have:=hbs k hk';simp;omega)) h5
   ·rw[if_neg hw]
    have hy:jd P ops C oj undef a:=.inr ⟨by simpa using hw,rfl⟩
    exact next bs _ w hC hbs (IX hsel hG hoj t s bs a w hfr hC h (.inr (by simpa using hw)) hy)
def UC (ops:Array Oper) (f:Nat) (jo iC:List Nat):Bool :=
 Region.noSelect ops&&yH ops f jo&&yH ops f iC&&Di ops (jo++iC)&&decide (jo.length+iC.length=ops.size) &&
  iC.all (λe=>jo.all λi=>rQ ops f e i&&!Region.waitsFor .any ops i e&&decide (i≠e))
def UD (P:Program) (ops:Array Oper) (Q:Exit->Act->World->Prop) (ord:List Nat) (a:Act) (w:World):Prop :=
 ∃(C:World->Prop) (N:Nat),nJ C N/\C w/\WX P ops C N Q ord (λ_=>False) a w
theorem rV {id:Nat} {a:Act} {w:World} {l:List Oper} (f:Nat) (jo iC:List Nat) (hm:P.follows .mixedOrders=true) (hB:UC l.toArray f jo iC=true)
  (hG:nJ C N) (hC:C w.drew) (h:WX P l.toArray C N (λ_ a' w'=>UD P l.toArray Q iC a' w') jo (λ_=>False) a w.drew):(Code.region id l.toArray true).wp P Q a w:=by
 simp only[UC,Bool.and_eq_true,decide_eq_true_eq]at hB;obtain⟨⟨⟨⟨⟨hsel,hp1⟩,hp2⟩,yI⟩,hlen⟩,hE⟩:=hB;simp only[Di,Bool.and_eq_true,List.all_eq_true,decide_eq_true_eq,Bool.not_eq_true',List.mem_range,List.contains_iff_mem]at yI;obtain⟨⟨h1,h2⟩,h3⟩:=yI;simp only[List.all_eq_true,Bool.and_eq_true,decide_eq_true_eq,Bool.not_eq_true']at hE;have hrange:∀(j:Nat) (oj:Oper),l.toArray[j]?=some oj->∀e∈oj.after,Region.binds .any e=true->e.on<l.toArray.size:=λj oj hj e he hb=>by
  have h4:=Array.all_eq_true'.1 h3 oj (Array.mem_of_getElem? hj);have h5:=Array.all_eq_true'.1 h4 e he;simpa[hb]using h5
 have hself:∀j,j<l.toArray.size->Region.waitsFor .any l.toArray j j=false:=λj hj=>(h1 j (h2 j hj)).2;refine wp_region_any hm ?_;rw[<-hlen];refine UA iC iC.length (Region.noSelect_spec hsel) hG f hrange hself jo.length jo _ (λ_=>False) a _ rfl (Dh jo hp1) (λi hi=>(h1 i (List.mem_append_left _ hi)).1) (by simpa using hlen) (λk hk=>?_)
  (λe he i hi=>⟨(hE e he i hi).1.1,(hE e he i hi).1.2,(hE e he i hi).2⟩) (λj oj _ hl=>?_) hC (λk hk=>hk.elim) ?_ h
 ·refine⟨λ_=>by have:=h2 k hk;rcases List.mem_append.1 this with h|h;exact .inl h;exact .inr h,λ_=>by rw[getD_in (by simpa[hlen]using hk) (getD_replicate_false _ _)]⟩
 ·rw[getD_replicate_false]at hl;cases hl
 ·rintro listed a' w' hsz hun hcl⟨C2,N2,hG2,hC2,hW2⟩;exact Nu (Region.noSelect_spec hsel) hG2 f hrange hself iC.length iC listed (λ_=>False) a' w' rfl (Dh iC hp2) (λi hi=>(h1 i (List.mem_append_right _ hi)).1) hsz hun hcl hC2 (λk hk=>hk.elim) hW2
end
theorem aa7 {P:Program} (w:World) (base:Nat) (t ty e:TypeId) (i:TypeInfo) (z:Value) (size bytes:Nat) (ht:P.underlying t=some (.slice e)) (hi:P.info? e=some i) (hz:i.zero=some z)
  (hsize:i.size=size) (hby:i.bytes=bytes) (hzs:z.cells.size=size) (hsz:0<size)
  (v:Value) (n:Nat) (xs:List Value) (hown:w.ownsRow base e size v n xs) (a:Addr) (m c:Nat) (news:List Value) (hl:news.length=m*size) (hnews:∀j u,news[j]?=some u->w.cell? (a.add j)=some u) (h1:∀u∈news,u.oneCell'=true)
  (h63:n+m<=maxLen) (hbytes:(n+m)*bytes<=140737488355328) (v':Value) (w':World) (hrun:(Builtin.append_ #[t,t] ty #[v,.slice (some a) m c]).run P w=.ok v' w') (hgr:w.grownBy w' v.ownBlock) (hloc:v'.ownBlock=v.ownBlock\/v'.ownBlock=some w.heap.size) :
  v'.ownBlock=v.ownBlock\/(v'.ownBlock=some w.heap.size/\w.grownBy w' none):=by
 subst hsize;subst hby;have hsmall:n+m<=9223372036854775807:=by simp only[maxLen]at h63;omega
 rcases hown.2 with⟨rfl,rfl⟩|⟨g,cap,cur,rfl,hbg,hg,hnc,hcm,hcs,htake⟩
 ·rcases hloc with h|h
  ·exact .inl h
  ·exact .inr ⟨h,hgr⟩
 ·by_cases hroom:n+m<=cap
  ·have hfit:n*i.size+news.length<=cur.size:=by rw[hl,hcs,<-Nat.add_mul];exact Nat.mul_le_mul_right _ hroom
   have hr:=run_append_room (P:=P) w t ty e i ht hi g n cap cur hg a m c news hl hnews h1 hroom hfit;rw[hrun]at hr;simp only[Result.ok.injEq]at hr;exact .inl (by rw[hr.1];rfl)
  ·have holds:∀j u,xs[j]?=some u->w.cell? ((⟨g,0,none⟩:Addr).add j)=some u:=hown.cells (g:=g) rfl;have hr:=run_append_grow (P:=P) w t ty e i z ht hi hz ⟨g,0,none⟩ n cap xs hown.1 holds a m c news hl hnews (by omega) (by omega) (growslice_fits (by omega) hbytes);rw[hrun]at hr;simp only[Result.ok.injEq]at hr;refine .inr ⟨by rw[hr.1];rfl,?_⟩;rw[hr.2];exact⟨rfl,rfl,rfl,by simp,λk hk _=>heap_alloc_old w.drew _ hk⟩
section
variable {P:Program} {ops:Array Oper} {Q:Exit -> Act -> World -> Prop} {C:World -> Prop} {N:Nat}
theorem UE {i:Nat} {l:List Nat} {bs:Nat->Prop} {a:Act} {w:World} {o:Oper} (ho:ops[i]?=some o) (hk:gu o=.act) (hg:o.guard=none) (hG:nJ C N) (hC:C w) (s x:Operand) (t:TypeId)
  (hop:o.op=Op.call { callee:=Callee.builtin Builtin.append,args:=#[s,x],argTypes:=#[t,t] })
  (base:Nat) (e:TypeId) (inf:TypeInfo) (z:Value) (size bytes:Nat) (h1:P.underlying t=some (.slice e)) (h2:P.info? e=some inf) (hz:inf.zero=some z)
  (hsize:inf.size=size) (hby:inf.bytes=bytes) (hzs:z.cells.size=size) (hsz:0<size)
  (v:Value) (n:Nat) (xs:List Value) (hs:a.eval s=v) (Dk:∀k,v.ownBlock=some k->k<N\/bs k) (ad:Addr) (m c:Nat) (news:List Value) (hx:a.eval x=.slice (some ad) m c) (hn:news.length=m*size)
  (h1c:∀u∈news,u.oneCell'=true) (h63:n+m<=maxLen) (hbytes:(n+m)*bytes<=140737488355328) (hbase:base<=w.heap.size)
  (H:∀w1,C w1->Below w.heap.size w w1->w1.ownsRow base e size v n xs/\(∀j u,news[j]?=some u->w1.cell? (ad.add j)=some u))
  (aa8:∀w1 w2 v',C w1->Below w.heap.size w w1->w2.ownsRow base e size v' (n+m) (xs++news)->w1.grownBy w2 v.ownBlock->(v'.ownBlock=v.ownBlock\/(v'.ownBlock=some w1.heap.size/\w1.grownBy w2 none))->C w2)
  (h:∀K:(Nat->Prop)->Act->World->Prop,(∀bs a w,WX P ops C N Q l bs a w->K bs a w)->∀w1 w2 v',C w1->Below w.heap.size w w1 ->
   w2.ownsRow base e size v' (n+m) (xs++news)->w1.grownBy w2 v.ownBlock->C w2->(v'.ownBlock=v.ownBlock\/(v'.ownBlock=some w1.heap.size/\w1.grownBy w2 none))->K (more bs w1 w2) (a.put o.dst v') w2) :
  WX P ops C N Q (i::l) bs a w:=by
 intro o' ho';rw[ho]at ho';obtain rfl:=Option.some.inj ho';unfold jC jM;rw[if_pos (by simp[Region.wanted,hg])];simp only[hk];intro w1 hw1;have je:=hG.grow _ _ hC hw1;obtain⟨ha,hb⟩:=H w1 je hw1;obtain⟨v',w2,hrun,r1,r2,r3,r4⟩:=run_append_own_at (P:=P) w1 base t o.type e inf z size bytes h1 h2 hz hsize hby hzs hsz v n xs ha ad m c news hn hb h1c h63 hbytes (Nat.le_trans hbase hw1.size);have r5:=aa7 (P:=P) w1 base t o.type e inf z size bytes h1 h2 hz hsize hby hzs hsz v n xs ha ad m c news hn hb h1c h63 hbytes v' w2 hrun r2 r4;have hr:(execOp a.eval o).run P w1=.ok (.value v') w2:=by
  simp[execOp,hop,resolve,invoke,builtin,hs,hx,hrun,Result.andThen]
 unfold jL;rw[hr];have hC2:=aa8 w1 w2 v' je hw1 r1 r2 r5;exact⟨hC2,r2.size,λk hN hnb hlt=>r2.block k hlt (λe=>by rcases Dk k e.symm with h|h;omega;exact hnb h),more bs w1 w2,λ_ h=>.inl h,λ_ h=>h,h _ (λ_ _ _ h=>h) w1 w2 v' je hw1 r1 r2 hC2 r5⟩
end
def kY (w0:World) (g n:Nat) (w:World):Prop:=ah (λj=>j=g) w0 w/\(∀j,j<n->w.cell? ⟨g,j,none⟩=w0.cell? ⟨g,j,none⟩)/\g<w0.heap.size
theorem kY.refl (w0:World) (g n:Nat) (h:g<w0.heap.size):kY w0 g n w0:=⟨ah.refl _ _,λ_ _=>rfl,h⟩
theorem kY.grows (w0:World) (g n:Nat):nJ (kY w0 g n) w0.heap.size :=
 ⟨λw w' h hb=>⟨h.1.below hb,λj hj=>(hb.cell (p:=⟨g,j,none⟩) (Nat.lt_of_lt_of_le h.2.2 h.1.size)).trans (h.2.1 j hj),h.2.2⟩,λw h=>h.1.size⟩
theorem kY.append {w0 w1 w2:World} {g n base e size:Nat} {v v':Value} {k m:Nat} {xs news:List Value} (h:kY w0 g n w1) (hv:v.ownBlock=some g) (ho1:w1.ownsRow base e size v k xs) (hn:n<=k*size)
  (ho:w2.ownsRow base e size v' m (xs++news)) (hm:k<=m) (hg:w1.grownBy w2 v.ownBlock) (hl:v'.ownBlock=v.ownBlock\/(v'.ownBlock=some w1.heap.size/\w1.grownBy w2 none)):kY w0 g n w2:=by
 refine⟨h.1.grown hg (λj hj=>by rw[hv]at hj;cases hj;exact .inr rfl),λj hj=>?_,h.2.2⟩;rw[<-h.2.1 j hj];rcases hl with hl|⟨_,hl⟩
 ·rw[hv]at hl;have e1:∀{w:World} {v:Value} {k:Nat} {xs:List Value},w.ownsRow base e size v k xs->v.ownBlock=some g->j<k*size->w.cell? ⟨g,j,none⟩=xs[j]?:=by
   intro w v k xs ho' hv hj;rcases ho'.2 with⟨rfl,_⟩|⟨g',cap,cur,rfl,_⟩
   ·simp[Value.ownBlock]at hv
   ·simp[Value.ownBlock]at hv;subst hv;exact World.ownsRow.cellAt ho' j hj
  have hkm:k*size<=m*size:=Nat.mul_le_mul_right _ hm;rw[e1 ho hl (by omega),e1 ho1 hv (by omega),List.getElem?_append_left (by rw[ho1.1];omega)]
 ·exact World.cell?_of_block (w:=w1) (hl.block g (Nat.lt_of_lt_of_le h.2.2 h.1.size) (by simp))
abbrev W2:=Int×Int
def gZ (k:Int):W2 :=
 if k=2 then(2,2)else if k=3\/k=11 then(1,2)else if k=4\/k=12 then(1,0)else if k=5\/k=9 then(2,1)else if k=6\/k=10 then(0,1)else(1,1)
def gB (n:Nd):Bool :=
 decide (n.name=ByteArray.empty)&&decide (1<=n.kind)&&decide (n.kind<=14) &&
  (if n.kind=1 then decide (0<=n.value)&&decide (n.value<=12)else if n.kind=7\/n.kind=13 then decide (0<=n.value)&&decide (n.value<=96)else decide (n.value=0))
def fH (n:Nd):W2:=if n.kind=1 then(n.value,n.value)else gZ n.kind
def eY (name:ByteArray):List Df->Nat->Int
 | [],_=>-1
 | d::r,k=>if d.name=name then k else eY name r (k+1)
def findD (L:List Df) (name:ByteArray):Option Df:=L.find? λd=>decide (d.name=name)
def aO (L:List Df) (n:Nd):Option W2 :=
 if n.kind=17 then(if n.value=0 then(findD L n.name).map λd=>(d.inn,d.out)else none)
 else if gB n then some (fH n)else none
def gJ (k:Int) (a b:W2):Option W2 :=
 if k=15 then(if a.2=b.1 then some (a.1,b.2)else none)
 else if a.1+b.1<=12/\a.2+b.2<=12 then some (a.1+b.1,a.2+b.2)else none
def bU (leaf:Nd->Option W2):List Nd->List W2->Option (List W2)
 | [],st=>some st
 | n::r,st =>
  if n.kind=15\/n.kind=16 then
   (if n.value=0/\n.name=ByteArray.empty then
    (match st with
    | b::a::st'=>(match gJ n.kind a b with
     | some w=>bU leaf r (w::st')
     | none=>none)
    | _=>none)
   else none)
  else(match leaf n with
   | some w=>bU leaf r (w::st)
   | none=>none)
def aS (leaf:Nd->Option W2) (ns:List Nd):Option W2 :=
 if 1<=ns.length/\ns.length<=400 then
  (match bU leaf ns []with
  | some [w]=>some w
  | _=>none)
 else none
section
variable {leaf:Nd -> Option W2} {n:Nd} {r:List Nd} {st:List W2}
theorem IZ (hk:¬(n.kind=15\/n.kind=16)) (h:leaf n=none):bU leaf (n::r) st=none:=by
 unfold bU;rw[if_neg hk,h]
theorem IQ {x:W2} (hk:¬(n.kind=15\/n.kind=16)) (h:leaf n=some x):bU leaf (n::r) st=bU leaf r (x::st):=by
 conv=>lhs;unfold bU
 rw[if_neg hk,h]
theorem UF (hk:n.kind=15\/n.kind=16) (h:¬(n.value=0/\n.name=ByteArray.empty)):bU leaf (n::r) st=none:=by
 unfold bU;rw[if_pos hk,if_neg h]
theorem UG (hk:n.kind=15\/n.kind=16) (h:st.length<2):bU leaf (n::r) st=none:=by
 unfold bU;rw[if_pos hk];match st,h with
 | [],_=>split<;>rfl
 | [a],_=>split<;>rfl
theorem UH {a b:W2} (hk:n.kind=15\/n.kind=16) (h:gJ n.kind a b=none):bU leaf (n::r) (b::a::st)=none:=by
 unfold bU;rw[if_pos hk];simp only[h];split<;>rfl
theorem UJ {a b x:W2} (hk:n.kind=15\/n.kind=16) (hv:n.value=0) (hm:n.name=ByteArray.empty) (h:gJ n.kind a b=some x):bU leaf (n::r) (b::a::st)=bU leaf r (x::st):=by
 conv=>lhs;unfold bU
 rw[if_pos hk,if_pos ⟨hv,hm⟩];simp only[h]
end
end Go.Proofs.YtikgblkfmpecfaaGreatDoor
