import Derived.Test.YtkhpobekconobaaGreatHAB
set_option linter.all false
set_option maxRecDepth 100000
set_option maxHeartbeats 0
namespace Go.Proofs.YtkhpobekconobaaGreat
open Go.RowKit
section
variable {P:Program} {ops:Array Oper} {C:World -> Prop} {N:Nat} {Q:Exit -> Act -> World -> Prop}
inductive anq where
 | still|act|make
 deriving DecidableEq
def jW (o:Oper):anq :=
 match o.op with
 | .call c=>(match c.callee with
  | .builtin .len=>.still
  | .builtin .cap=>.still
  | .builtin .min=>.still
  | .builtin .max=>.still
  | _=>.act)
 | .store ..=>.act
 | .mapUpdate ..=>.act
 | .alloc ..=>.make
 | .box ..=>.make
 | .buildSlice ..=>.make
 | .makeSlice ..=>.make
 | .makeMap ..=>.make
 | _=>.still
def rJ (P:Program) (o:Oper) (a:Act) (w1:World) (R:Value->World->Prop):Prop :=
 match(execOp a.eval o).run P w1 with
 | .ok (.value v) w2=>R v w2
 | .ok .skip w2=>R undef w2
 | .ok (.enter f args) w2=>Calls P f args w2 λe w3=>∃v,e=.returned v/\R v w3
 | _=>False
theorem rJ.mono {o:Oper} {a:Act} {w:World} {R R':Value->World->Prop} (h:rJ P o a w R) (hr:∀v w2,R v w2->R' v w2):rJ P o a w R':=by
 unfold rJ at *;generalize(execOp a.eval o).run P w=r at *;cases r with
 | ok n w' =>
  cases n<;>simp only at h ⊢
  case value v=>exact hr _ _ h
  case skip=>exact hr _ _ h
  case enter f args=>exact Calls.mono h λe w3 ⟨v,e1,e2⟩=>⟨v,e1,hr _ _ e2⟩
 | halt x w'=>simp only at h
theorem rJ.some {o:Oper} {a:Act} {w:World} {R:Value->World->Prop} (h:rJ P o a w R):∃v w2,R v w2:=by
 unfold rJ at *;generalize(execOp a.eval o).run P w=r at *;cases r with
 | ok n w' =>
  cases n<;>simp only at h
  case value v=>exact⟨_,_,h⟩
  case skip=>exact⟨_,_,h⟩
  case enter f args=>obtain⟨_,w3,v,_,e2⟩:=adQ h;exact⟨_,_,e2⟩
 | halt x w'=>simp only at h
theorem rJ.congr {o:Oper} {a a':Act} {w:World} {R:Value->World->Prop} (h:rJ P o a w R) (he:execOp a'.eval o=execOp a.eval o):rJ P o a' w R:=by
 unfold rJ at *;rw[he];exact h
theorem rJ.wp {o:Oper} {a:Act} {w:World} {R:Value->World->Prop} {K:Act->World->Prop} {Q':Exit->Act->World->Prop} (h:rJ P o a w R) (hr:∀v w2,R v w2->K (a.put o.dst v) w2):o.wp P a w K Q':=by
 unfold rJ at h;unfold Oper.wp;generalize(execOp a.eval o).run P w=r at *;cases r with
 | ok n w' =>
  cases n<;>simp only at h<;>simp only[Oper.upon]
  case value v=>exact hr _ _ h
  case skip=>exact hr _ _ h
  case enter f args=>exact Calls.mono h λe w3 ⟨v,e1,e2⟩=>by subst e1;exact hr _ _ e2
 | halt x w'=>simp only at h
def rM (P:Program) (C:World->Prop) (N:Nat) (o:Oper) (bs:Nat->Prop) (a:Act) (w:World) (K:(Nat->Prop)->Act->World->Prop):Prop :=
 match jW o with
 | .still=>∃v,(∀w',C w'->MJ P o a v w')/\K bs (a.put o.dst v) w
 | .act=>∀w1,Below w.heap.size w w1->rJ P o a w1 λv w2=>C w2/\w1.heap.size<=w2.heap.size/\(∀k,N<=k->¬bs k->k<w1.heap.size->w2.heap[k]?=w1.heap[k]?) /\
   ∃bs':Nat->Prop,(∀k,bs k->bs' k)/\(∀k,bs' k->bs k\/(w1.heap.size<=k/\k<w2.heap.size))/\K bs' (a.put o.dst v) w2
 | .make=>∃(mk:Nat->Value) (ob:Obj),(∀w',C w'->(execOp a.eval o).run P w'=.ok (.value (mk w'.heap.size)) (w'.alloc ob)) /\
   ∀b w',Below w.heap.size w w'->w'.heap[b]?=some ob->N<=b->¬bs b->K (λk=>k=b\/bs k) (a.put o.dst (mk b)) w'
def qX (P:Program) (ops:Array Oper) (C:World->Prop) (N:Nat) (o:Oper) (bs:Nat->Prop) (a:Act) (w:World) (K:(Nat->Prop)->Act->World->Prop):Prop :=
 if Region.wanted o (yielded ops a.tmps)then rM P C N o bs a w K else K bs (a.put o.dst undef) w
def WX (P:Program) (ops:Array Oper) (C:World->Prop) (N:Nat) (Q:Exit->Act->World->Prop):List Nat->(Nat->Prop)->Act->World->Prop
 | [],_,a,w=>Q .normal a w
 | i::l,bs,a,w=>∀o,ops[i]?=some o->qX P ops C N o bs a w (WX P ops C N Q l)
structure Au (C:World->Prop) (N:Nat):Prop where
 grow:∀w w',C w->Below w.heap.size w w'->C w'
 base:∀w,C w->N<=w.heap.size
def avw (P:Program) (ops:Array Oper) (C:World->Prop) (o:Oper) (mk:Nat->Value) (ob:Obj) (a:Act):Prop :=
 Region.wanted o (yielded ops a.tmps)=true/\∀w',C w'->(execOp a.eval o).run P w'=.ok (.value (mk w'.heap.size)) (w'.alloc ob)
theorem anr {w:World} {o o':Obj} (h:w.alloc o=w.alloc o'):o=o':=by
 have h1:=congrArg (λx:World=>x.heap[w.heap.size]?) h;simp only[XR]at h1;exact Zy h1
theorem aH (w:World) (o:Obj):Below w.heap.size w (w.alloc o):=(Zl _ _).alloc (Zj _) _
theorem ant (b c:Nat) (bs:Nat->Prop):(λk=>k=b\/(k=c\/bs k))=λk=>k=c\/(k=b\/bs k):=by
 funext k;exact propext ⟨λh=>by rcases h with h|h|h<;>simp[h],λh=>by rcases h with h|h|h<;>simp[h]⟩
def Free (ops:Array Oper) (i j:Nat):Prop:=∀oi oj,ops[i]?=some oi->ops[j]?=some oj->oi.apart ops oj=true
def Si (ops:Array Oper):Prop:=∀(j:Nat) (o:Oper) cs b,ops[j]?=some o->o.op≠.select cs b
theorem MN {oi oj:Oper} {u:Value} {a:Act} (hap:oi.apart ops oj=true) (tu:∀cs b,oi.op≠.select cs b) :
  execOp (a.put oj.dst u).eval oi=execOp a.eval oi/\Region.wanted oi (yielded ops (a.put oj.dst u).tmps)=Region.wanted oi (yielded ops a.tmps):=by
 obtain⟨h1,h2,h3⟩:=XH hap;exact⟨Vc oi tu a oj.dst u h3,Vb oi a oj.dst u h3⟩
theorem JI {oi oj:Oper} {v:Value} {a:Act} (hap:oi.apart ops oj=true) (hsj:∀cs b,oj.op≠.select cs b) :
  execOp (a.put oi.dst v).eval oj=execOp a.eval oj/\Region.wanted oj (yielded ops (a.put oi.dst v).tmps)=Region.wanted oj (yielded ops a.tmps):=by
 obtain⟨h1,h2,h3⟩:=XH hap;exact⟨Vc oj hsj a oi.dst v h1,Vb oj a oi.dst v h1⟩
theorem ag4 (jG:Si ops) {j b:Nat} {oj:Oper} {V:Value} {ob:Obj} {wj:World} (hj:ops[j]?=some oj) (hkj:jW oj=.make) (hCj:C wj) (hbj:wj.heap.size=b) (l2:List Nat) :
  ∀(l1:List Nat) (bs:Nat->Prop) (a:Act) (w w':World),(∀i∈l1,Free ops i j)->WX P ops C N Q (l1++j::l2) bs a w->Region.wanted oj (yielded ops a.tmps)=true ->
   (execOp a.eval oj).run P wj=.ok (.value V) (wj.alloc ob)->Below w.heap.size w w'->w'.heap[b]?=some ob->N<=b->¬bs b ->
   WX P ops C N Q (l1++l2) (λk=>k=b\/bs k) (a.put oj.dst V) w':=by
 intro l1;induction l1 with
 | nil =>
  intro bs a w w' _ h hw hrun hgr hb hN jD;have h1:=h oj hj;unfold qX at h1;rw[ZE hw]at h1;unfold rM at h1;rw[hkj]at h1;obtain⟨mk,ob',e1,e2⟩:=h1;have e3:=e1 wj hCj;rw[hrun]at e3;simp only[Ve,Next.value.injEq]at e3;obtain⟨e4,e5⟩:=e3;have e6:=anr e5;subst e6;rw[hbj]at e4;rw[e4];exact e2 b w' hgr hb hN jD
 | cons i l1 ih =>
  intro bs a w w' iP h hw hrun hgr hb hN jD oi hi;have hap:=iP i (ZO ..) oi oj hi hj;have tu:=λcs b=>jG i oi cs b hi;have hsj:=λcs b=>jG j oj cs b hj;have Iq:∀i∈l1,Free ops i j:=λx hx=>iP x (Ya _ hx);have h1:=h oi hi;have sw:∀v,(a.put oi.dst v).put oj.dst V=(a.put oj.dst V).put oi.dst v:=λv=>RY hap;have run':∀v,(execOp (a.put oi.dst v).eval oj).run P wj=.ok (.value V) (wj.alloc ob):=λv=>by rw[(JI hap hsj).1];exact hrun
  have abO:∀v,Region.wanted oj (yielded ops (a.put oi.dst v).tmps)=true:=λv=>by rw[(JI hap hsj).2];exact hw
  unfold qX at h1 ⊢;rw[(MN (u:=V) hap tu).2];by_cases Dv:Region.wanted oi (yielded ops a.tmps)=true
  ·rw[ZE Dv]at h1 ⊢;unfold rM at h1 ⊢;cases hk:jW oi with
   | still =>
    simp only[hk]at h1 ⊢;obtain⟨v,e1,e2⟩:=h1;refine⟨v,λw1 dQ=>?_,?_⟩
    ·have:=e1 w1 dQ;unfold MJ at this ⊢;rw[(MN (u:=V) hap tu).1];exact this
    ·rw[<-sw];exact ih _ _ _ _ Iq e2 (abO v) (run' v) hgr hb hN jD
   | act =>
    simp only[hk]at h1 ⊢;intro w1 dQ;have hb1:w1.heap[b]?=some ob:=by
     have hlt:b<w'.heap.size:=(ZP.1 hb).1;rw[dQ.block b hlt];exact hb
    have adW:b<w1.heap.size:=(ZP.1 hb1).1;refine((h1 w1 (hgr.trans (dQ.mono hgr.size))).congr (MN (u:=V) hap tu).1).mono ?_;rintro v w2⟨c1,c2,c3,bs',c4,c5,c6⟩;refine⟨c1,c2,λk h2 h3 h4=>c3 k h2 (λh=>h3 (.inr h)) h4,λk=>k=b\/bs' k,λk eH=>eH.imp id (c4 k),λk eH=>?_,?_⟩
    ·rcases eH with eH|eH
     ·exact .inl (.inl eH)
     ·exact(c5 k eH).imp .inr id
    ·rw[<-sw];refine ih _ _ _ _ Iq c6 (abO v) (run' v) (Zl _ _) ?_ hN ?_
     ·rw[c3 b hN jD adW];exact hb1
     ·intro wu;rcases c5 b wu with h5|h5
      ·exact jD h5
      ·omega
   | make =>
    simp only[hk]at h1 ⊢;obtain⟨mk,obi,e1,e2⟩:=h1;refine⟨mk,obi,λw1 dQ=>?_,λb' w1 dQ hb' hN' ag5=>?_⟩
    ·rw[(MN (u:=V) hap tu).1];exact e1 w1 dQ
    ·have hlt:b<w'.heap.size:=(ZP.1 hb).1;have e3:=e2 b' w1 (hgr.trans (dQ.mono hgr.size)) hb' hN' (λh=>ag5 (.inr h));rw[<-sw,ant];refine ih _ _ _ _ Iq e3 (abO _) (run' _) (Zl _ _) ?_ hN ?_
     ·rw[dQ.block b hlt];exact hb
     ·rintro(h|h)
      ·exact ag5 (.inl h.symm)
      ·exact jD h
  ·rw[ZH Dv]at h1 ⊢;rw[<-sw];exact ih _ _ _ _ Iq h1 (abO _) (run' _) hgr hb hN jD
theorem abP (jG:Si ops) (hG:Au C N) {j:Nat} {oj:Oper} (hj:ops[j]?=some oj) (l2:List Nat) :
  ∀(l1:List Nat) (bs:Nat->Prop) (a:Act) (w:World),(∀i∈l1,i<ops.size)->(∀i∈l1,Free ops i j)->C w->(∀k,bs k->k<w.heap.size)->WX P ops C N Q (l1++j::l2) bs a w ->
   ∃a' bs' w',C w'/\execOp a'.eval oj=execOp a.eval oj/\Region.wanted oj (yielded ops a'.tmps)=Region.wanted oj (yielded ops a.tmps)/\WX P ops C N Q (j::l2) bs' a' w':=by
 intro l1;induction l1 with
 | nil=>exact λbs a w _ _ hC _ h=>⟨a,bs,w,hC,rfl,rfl,h⟩
 | cons i l1 ih =>
  intro bs a w bV iP hC jD h;have adX:∀i∈l1,i<ops.size:=λx hx=>bV x (Ya _ hx);have Iq:∀i∈l1,Free ops i j:=λx hx=>iP x (Ya _ hx);have hsj:=λcs b=>jG j oj cs b hj;cases hi:ops[i]? with
  | none =>
   have:=bV i (ZO ..);rw[YA this]at hi;cases hi
  | some oi =>
   have hap:=iP i (ZO ..) oi oj hi hj;have h1:=h oi hi;have back:∀v bs' w',C w'->(∀k,bs' k->k<w'.heap.size)->WX P ops C N Q (l1++j::l2) bs' (a.put oi.dst v) w' ->
     ∃a' bs' w',C w'/\execOp a'.eval oj=execOp a.eval oj/\Region.wanted oj (yielded ops a'.tmps)=Region.wanted oj (yielded ops a.tmps)/\WX P ops C N Q (j::l2) bs' a' w':=λv bs' w' wI hb' h'=>by
    obtain⟨a',b',w'',e1,e2,e3,e4⟩:=ih bs' (a.put oi.dst v) w' adX Iq wI hb' h';exact⟨a',b',w'',e1,e2.trans (JI hap hsj).1,e3.trans (JI hap hsj).2,e4⟩
   unfold qX at h1;by_cases Dv:Region.wanted oi (yielded ops a.tmps)=true
   ·rw[ZE Dv]at h1;unfold rM at h1;cases hk:jW oi with
    | still=>simp only[hk]at h1;obtain⟨v,e1,e2⟩:=h1;exact back v bs w hC jD e2
    | act =>
     simp only[hk]at h1;obtain⟨v,w2,c1,c2,c3,bs',c4,c5,c6⟩:=(h1 w (Zl _ _)).some;exact back v bs' w2 c1 (λk eH=>by rcases c5 k eH with h5|h5;(have:=jD k h5;omega);exact h5.2) c6
    | make =>
     simp only[hk]at h1;obtain⟨mk,ob,e1,e2⟩:=h1;have hB:=hG.base w hC;exact back _ _ (w.alloc ob) (hG.grow _ _ hC (aH w ob)) (λk eH=>by rcases eH with rfl|eH;simp;(have:=jD k eH;simp;omega))
      (e2 w.heap.size (w.alloc ob) (aH w ob) (XR w ob) hB (λh=>by have:=jD _ h;omega))
   ·rw[ZH Dv]at h1;exact back undef bs w hC jD h1
theorem abQ (jG:Si ops) (hG:Au C N) {j:Nat} {oj:Oper} {u:Value} (hj:ops[j]?=some oj) (l2:List Nat) :
  ∀(l1:List Nat) (bs:Nat->Prop) (a:Act) (w:World),(∀i∈l1,Free ops i j)->C w->WX P ops C N Q (l1++j::l2) bs a w ->
   (jW oj=.still\/Region.wanted oj (yielded ops a.tmps)=false)->qC P ops C oj u a->WX P ops C N Q (l1++l2) bs (a.put oj.dst u) w:=by
 intro l1;induction l1 with
 | nil =>
  intro bs a w _ hC h hk hy;have h1:=h oj hj;unfold qX at h1;by_cases hw:Region.wanted oj (yielded ops a.tmps)=true
  ·rw[ZE hw]at h1;have eH:jW oj=.still:=hk.resolve_right (by rw[hw];simp);unfold rM at h1;simp only[eH]at h1;obtain⟨v,e1,e2⟩:=h1
   have:qC P ops C oj v a:=.inl ⟨hw,e1⟩
   rw[hy.unique hC this];exact e2
  ·rw[ZH hw]at h1
   have:qC P ops C oj undef a:=.inr ⟨by simpa using hw,rfl⟩
   rw[hy.unique hC this];exact h1
 | cons i l1 ih =>
  intro bs a w iP hC h hk hy oi hi;have hap:=iP i (ZO ..) oi oj hi hj;have tu:=λcs b=>jG i oi cs b hi;have hsj:=λcs b=>jG j oj cs b hj;have Iq:∀i∈l1,Free ops i j:=λx hx=>iP x (Ya _ hx);have h1:=h oi hi;have sw:∀v,(a.put oi.dst v).put oj.dst u=(a.put oj.dst u).put oi.dst v:=λv=>RY hap;have go:∀v bs' w',C w'->WX P ops C N Q (l1++j::l2) bs' (a.put oi.dst v) w'->WX P ops C N Q (l1++l2) bs' ((a.put oj.dst u).put oi.dst v) w':=λv bs' w' wI h'=>by
   rw[<-sw];exact ih bs' _ w' Iq wI h' (hk.imp id λh=>by rw[(JI hap hsj).2];exact h) (hy.of_same (JI hap hsj).1 (JI hap hsj).2)
  unfold qX at h1 ⊢;rw[(MN (u:=u) hap tu).2];by_cases Dv:Region.wanted oi (yielded ops a.tmps)=true
  ·rw[ZE Dv]at h1 ⊢;unfold rM at h1 ⊢;cases FM:jW oi with
   | still =>
    simp only[FM]at h1 ⊢;obtain⟨v,e1,e2⟩:=h1;refine⟨v,λw1 dQ=>?_,go _ _ _ hC e2⟩;have:=e1 w1 dQ;unfold MJ at this ⊢;rw[(MN (u:=u) hap tu).1];exact this
   | act =>
    simp only[FM]at h1 ⊢;intro w1 dQ;refine((h1 w1 dQ).congr (MN (u:=u) hap tu).1).mono ?_;rintro v w2⟨c1,c2,c3,bs',c4,c5,c6⟩;exact⟨c1,c2,c3,bs',c4,c5,go _ _ _ c1 c6⟩
   | make =>
    simp only[FM]at h1 ⊢;obtain⟨mk,ob,e1,e2⟩:=h1;refine⟨mk,ob,λw1 dQ=>by rw[(MN (u:=u) hap tu).1];exact e1 w1 dQ,λb w1 dQ hb hN jD=>?_⟩;exact go _ _ _ (hG.grow _ _ hC dQ) (e2 b w1 dQ hb hN jD)
  ·rw[ZH Dv]at h1 ⊢;exact go _ _ _ hC h1
theorem ag6 (jG:Si ops) {j:Nat} {oj:Oper} (hj:ops[j]?=some oj) (hkj:jW oj=.act) (l2:List Nat) :
  ∀(l1:List Nat) (bs:Nat->Prop) (a:Act) (w:World),(∀i∈l1,i<ops.size)->(∀i∈l1,Free ops i j)->(∀i∈l1,∀oi,ops[i]?=some oi->jW oi=.still)->C w->WX P ops C N Q (l1++j::l2) bs a w ->
   Region.wanted oj (yielded ops a.tmps)=true ->
   rJ P oj a w λv w2=>C w2/\w.heap.size<=w2.heap.size/\∃bs':Nat->Prop,(∀k,bs' k->bs k\/(w.heap.size<=k/\k<w2.heap.size))/\WX P ops C N Q (l1++l2) bs' (a.put oj.dst v) w2:=by
 intro l1;induction l1 with
 | nil =>
  intro bs a w _ _ _ hC h hw;have h1:=h oj hj;unfold qX at h1;rw[ZE hw]at h1;unfold rM at h1;simp only[hkj]at h1;exact(h1 w (Zl _ _)).mono λv w2 ⟨c1,c2,_,bs',_,c5,c6⟩=>⟨c1,c2,bs',c5,c6⟩
 | cons i l1 ih =>
  intro bs a w bV iP hst hC h hw;have adX:∀i∈l1,i<ops.size:=λx hx=>bV x (Ya _ hx);have hi:ops[i]?=some (ops[i]'(bV i (ZO ..))):=YA _;generalize ops[i]'(bV i (ZO ..))=oi at hi;have hap:=iP i (ZO ..) oi oj hi hj;have tu:=λcs b=>jG i oi cs b hi;have hsj:=λcs b=>jG j oj cs b hj;have Iq:∀i∈l1,Free ops i j:=λx hx=>iP x (Ya _ hx);have abR:∀i∈l1,∀oi,ops[i]?=some oi->jW oi=.still:=λx hx=>hst x (Ya _ hx);have FM:=hst i (ZO ..) oi hi;have h1:=h oi hi;have key:∃v,qC P ops C oi v a/\WX P ops C N Q (l1++j::l2) bs (a.put oi.dst v) w:=by
   unfold qX at h1;by_cases Dv:Region.wanted oi (yielded ops a.tmps)=true
   ·rw[ZE Dv]at h1;unfold rM at h1;simp only[FM]at h1;obtain⟨v,e1,e2⟩:=h1;exact⟨v,.inl ⟨Dv,e1⟩,e2⟩
   ·rw[ZH Dv]at h1;exact⟨undef,.inr ⟨by simpa using Dv,rfl⟩,h1⟩
  obtain⟨v,hy,h2⟩:=key;have h3:=ih bs (a.put oi.dst v) w adX Iq abR hC h2 (by rw[(JI hap hsj).2];exact hw);refine(h3.congr (JI hap hsj).1.symm).mono ?_;rintro u w2⟨c1,c2,bs',c5,c6⟩;refine⟨c1,c2,bs',c5,λo ho=>?_⟩;rw[hi]at ho;obtain rfl:=Zy ho;have hy':=hy.fwd (u:=u) hap tu;rw[RY hap]at c6;unfold qX rM;rcases hy' with⟨q1,q2⟩|⟨q1,q2⟩
  ·rw[ZE q1];simp only[FM];exact⟨v,q2,c6⟩
  ·rw[ZH (by rw[q1];simp)];rw[<-q2];exact c6
def FQ (ops:Array Oper):Nat->Nat->Nat->Bool
 | 0,_,_=>false
 | f+1,j,i=>Region.waitsFor .any ops j i ||(List.range ops.size).any λp=>Region.waitsFor .any ops j p&&FQ ops f p i
def Closed (ops:Array Oper) (listed:Array Bool):Prop :=
 ∀j oj,ops[j]?=some oj->listed.getD j false=true->∀e∈oj.after,Region.binds .any e=true->listed.getD e.on false=true
theorem adY {listed:Array Bool} (hc:Closed ops listed):∀(f j i:Nat) (oj:Oper),ops[j]?=some oj->(∀e∈oj.after,Region.binds .any e=true->listed.getD e.on false=true)->FQ ops f j i=true->listed.getD i false=true:=by
 intro f;induction f with
 | zero=>intro j i oj _ _ h;cases h
 | succ f ih =>
  intro j i oj hj hall h;have step:∀p,Region.waitsFor .any ops j p=true->listed.getD p false=true:=λp hp=>by
   obtain⟨JG,uV,e,he,hb,BN⟩:=Vr hp;obtain rfl:oj=JG:=Zy (hj.symm.trans uV);rw[<-BN];exact hall e he hb
  simp only[FQ,Wo,XA,Zu]at h;rcases h with h|⟨p,_,h1,h2⟩
  ·exact step i h
  ·have hp:=step p h1;have wJ:p<listed.size:=by
    rcases Yj p listed.size with h'|h'
    ·exact h'
    ·simp[Array.getElem?_eq_none h']at hp
   cases hop:ops[p]? with
   | none =>
    cases f with
    | zero=>cases h2
    | succ f =>
     have no:∀x,Region.waitsFor .any ops p x=false:=λx=>by unfold Region.waitsFor;rw[hop]
     simp[FQ,no]at h2
   | some op=>exact ih p i op hop (hc p op hop hp) h2
def BQ (ops:Array Oper) (f i j:Nat):Bool :=
 decide (i≠j)&&!Region.waitsFor .any ops i j &&
  (FQ ops f j i ||(match ops[i]?,ops[j]? with
   | some oi,some oj=>oi.apart ops oj&&(decide (jW oj≠.act) || decide (jW oi=.still))
   | _,_=>false))
def Sj (ops:Array Oper) (f:Nat):List Nat->Bool
 | []=>true
 | i::l=>l.all (BQ ops f i)&&Sj ops f l
theorem abS {f:Nat}:∀l:List Nat,Sj ops f l=true->l.Pairwise λi j=>BQ ops f i j=true
 | [],_=>Xf
 | i::l,h=>by
  simp only[Sj,Zu]at h;exact List.Pairwise.cons (λj hj=>Z7.1 h.1 j hj) (abS l h.2)
def abT (ops:Array Oper) (ord:List Nat):Bool :=
 ord.all (λi=>decide (i<ops.size)&&!Region.waitsFor .any ops i i)&&(List.range ops.size).all (λi=>ord.contains i)&&ops.all λo=>o.after.all λe=>!Region.binds .any e || decide (e.on<ops.size)
def ag7 (ops:Array Oper) (f:Nat) (ord:List Nat):Bool:=Region.noSelect ops&&Sj ops f ord&&abT ops ord&&decide (ord.length=ops.size)
theorem ag8 {listed:Array Bool} {j k:Nat} (hj:j<listed.size):(listed.setIfInBounds j true).getD k true=false↔listed.getD k true=false/\k≠j:=by
 by_cases h:j=k
 ·subst h;simp[hj]
 ·rw[getD_set_ne true h];exact⟨λx=>⟨x,λe=>h e.symm⟩,λx=>x.1⟩
theorem ag9 (jG:Si ops) (hG:Au C N) (f:Nat) (Sl:∀(j:Nat) (oj:Oper),ops[j]?=some oj->∀e∈oj.after,Region.binds .any e=true->e.on<ops.size) (Sr:∀j,j<ops.size->Region.waitsFor .any ops j j=false) :
  ∀(n:Nat) (l:List Nat) (listed:Array Bool) (bs:Nat->Prop) (a:Act) (w:World),l.length=n->(l.Pairwise λi j=>BQ ops f i j=true)->(∀i∈l,i<ops.size)->listed.size=ops.size ->
   (∀k,k<ops.size->(listed.getD k true=false↔k∈l))->Closed ops listed->C w->(∀k,bs k->k<w.heap.size)->WX P ops C N Q l bs a w->wpAny P .any ops Q n listed a w:=by
 intro n;induction n with
 | zero =>
  intro l listed bs a w hn _ _ hsz jC _ _ _ h;have hl:l=[]:=Y4 hn;subst hl;refine⟨Xz.2 λj hj=>?_,h⟩;obtain⟨h1,o,ho,_⟩:=Xk.1 hj;have:=(jC j (ZP.1 ho).1).1 h1;cases this
 | succ n ih =>
  intro l listed bs a w hn hp bV hsz jC iQ hC jD h;refine⟨λh0=>?_,λj hj=>?_⟩
  ·-- the first operation of the walk is ready
   match l,hn with
   | i::l,_ =>
    have hi:=bV i (ZO ..);have jy:ops[i]?=some ops[i]:=YA _;have hr:i∈Region.ready .any ops listed:=by
     refine Xk.2 ⟨(jC i hi).2 (ZO ..),_,jy,λe he hb=>?_⟩;have hes:=Sl i _ jy e he hb;have hw:Region.waitsFor .any ops i e.on=true:=by
      unfold Region.waitsFor;rw[jy];exact Vx.2 ⟨e,he,by simp[hb]⟩
     have lu:e.on ∉ i::l:=by
      intro hm;rcases ZU.1 hm with hm|hm
      ·rw[hm,Sr i hi]at hw;cases hw
      ·have:=(Yd.1 hp).1 e.on hm;simp[BQ,hw]at this
     have adZ:e.on<listed.size:=by omega
     cases hg:listed.getD e.on false with
     | true=>rfl
     | false=>exact absurd ((jC e.on hes).1 (VH adZ hg)) lu
    rw[h0]at hr;cases hr
  ·obtain⟨BO,oj,lX,hall⟩:=Xk.1 hj;have hjs:j<ops.size:=(ZP.1 lX).1;have uY:=(jC j hjs).1 BO;obtain⟨s,t,rfl⟩:=Vw uY;have OY:s.length+t.length=n:=by simp at hn;omega
   have aai:∀i∈s,BQ ops f i j=true:=λi hi=>(YO.1 hp).2.2 i hi j (ZO ..);have JK:∀i∈s,i<ops.size:=λi hi=>bV i (ZV _ hi);have hno:∀i∈s,FQ ops f j i=false:=λi hi=>by
    cases d_:FQ ops f j i with
    | false=>rfl
    | true =>
     have h1:=adY iQ f j i oj lX hall d_;have h2:=(jC i (JK i hi)).2 (ZV _ hi);rw[WS h2]at h1;cases h1
   have hsp:∀i∈s,∀oi,ops[i]?=some oi->oi.apart ops oj=true/\(jW oj≠.act\/jW oi=.still):=λi hi oi hoi=>by
    have h1:=aai i hi;simp only[BQ,hno i hi,hoi,lX,Vt,Zu,Wo,ZF]at h1;exact h1.2
   have iP:∀i∈s,Free ops i j:=λi hi oi JG hoi ad4=>by
    obtain rfl:oj=JG:=Zy (lX.symm.trans ad4);exact(hsp i hi oi hoi).1
   have dI:j ∉ s++t:=by
    intro hm;rcases Zs.1 hm with hm|hm
    ·have:=aai j hm;simp[BQ]at this
    ·have:=(Yd.1 (YO.1 hp).2.1).1 j hm;simp[BQ]at this
   have ad5:j<listed.size:=by omega
   have next:∀bs' a' w',C w'->(∀k,bs' k->k<w'.heap.size)->WX P ops C N Q (s++t) bs' a' w'->wpAny P .any ops Q n (listed.setIfInBounds j true) a' w':=λbs' a' w' wI hb' h'=>by
    refine ih (s++t) _ bs' a' w' (by simp;omega) ?_ ?_ (by simpa using hsz) (λk hk=>?_) ?_ wI hb' h'
    ·refine WZ ?_ hp;exact WB (WN j t) s
    ·intro i hi;exact bV i (by rcases Zs.1 hi with h|h;exact ZV _ h;exact Ym _ (Ya _ h))
    ·rw[ag8 ad5,jC k hk];constructor
     ·rintro⟨h1,h2⟩;rcases Zs.1 h1 with h1|h1
      ·exact ZV _ h1
      ·rcases ZU.1 h1 with h1|h1
       ·exact absurd h1 h2
       ·exact Ym _ h1
     ·intro h1;refine⟨?_,λe=>dI (e▸h1)⟩;rcases Zs.1 h1 with h1|h1
      ·exact ZV _ h1
      ·exact Ym _ (Ya _ h1)
    ·intro k ok aP hlk e he hb;by_cases hkj:j=k
     ·subst hkj;obtain rfl:ok=oj:=Zy (aP.symm.trans lX);exact Wk (hall e he hb)
     ·rw[getD_set_ne false hkj]at hlk;exact Wk (iQ k ok aP hlk e he hb)
   unfold wpOp;simp only[lX];by_cases hw:Region.wanted oj (yielded ops a.tmps)=true
   ·rw[ZE hw];left;cases hk:jW oj with
    | still =>
     obtain⟨a',bs',w',wI,e1,e2,h1⟩:=abP jG hG lX t s bs a w JK iP hC jD h;have h2:=h1 oj lX;unfold qX rM at h2;rw[ZE (by rw[e2];exact hw)]at h2;simp only[hk]at h2;obtain⟨v,h3,_⟩:=h2;have hy:qC P ops C oj v a:=.inl ⟨hw,λw1 dQ=>by have:=h3 w1 dQ;unfold MJ at this ⊢;rw[<-e1];exact this⟩;have h4:=abQ jG hG lX t s bs a w iP hC h (.inl hk) hy;refine adP (C:=C) (K:=λa' w'=>WX P ops C N Q (s++t) bs a' w'/\w'=w) hC (λa' w' wI h5=>next bs a' w' wI (by rw[h5.2];exact jD) h5.1) (.inl ⟨v,(hy.resolve_right λhh=>by rw[hh.1]at hw;cases hw).2,h4,rfl⟩)
    | act =>
     have h1:=ag6 jG lX hk t s bs a w JK iP (λi hi oi hoi=>((hsp i hi oi hoi).2).resolve_left (by simp[hk])) hC h hw;exact h1.wp λv w2 ⟨c1,c2,bs',c5,c6⟩=>next bs' _ w2 c1 (λk eH=>by rcases c5 k eH with h5|h5;(have:=jD k h5;omega);exact h5.2) c6
    | make =>
     obtain⟨a',bs',w',wI,e1,e2,h1⟩:=abP jG hG lX t s bs a w JK iP hC jD h;have h2:=h1 oj lX;unfold qX rM at h2;rw[ZE (by rw[e2];exact hw)]at h2;simp only[hk]at h2;obtain⟨mk,ob,h3,_⟩:=h2;have h4:=h3 w hC;rw[e1]at h4;have hB:=hG.base w hC;have h5:=ag4 jG lX hk hC rfl t s bs a w (w.alloc ob) iP h hw h4 (aH w ob) (XR w ob) hB (λhh=>by have:=jD _ hh;omega);unfold Oper.wp;rw[h4,Vf];exact next _ _ _ (hG.grow _ _ hC (aH w ob)) (λk eH=>by rcases eH with rfl|eH;simp;(have:=jD k eH;simp;omega)) h5
   ·rw[ZH hw];have hy:qC P ops C oj undef a:=.inr ⟨by simpa using hw,rfl⟩;exact next bs _ w hC jD (abQ jG hG lX t s bs a w iP hC h (.inr (by simpa using hw)) hy)
theorem h_ {id:Nat} {a:Act} {w:World} {l:List Oper} (f:Nat) (ord:List Nat) (hm:P.follows .mixedOrders=true) (hB:ag7 l.toArray f ord=true)
  (hG:Au C N) (hC:C w.drew) (h:WX P l.toArray C N Q ord (λ_=>False) a w.drew):(Code.region id l.toArray true).wp P Q a w:=by
 simp only[ag7,Zu,ZF]at hB;obtain⟨⟨⟨jG,anu⟩,aaj⟩,hlen⟩:=hB;simp only[abT,Zu,Z7,ZF,Wa,ZW,Yh]at aaj;obtain⟨⟨h1,h2⟩,h3⟩:=aaj;refine Vz hm ?_;rw[<-hlen];refine ag9 (Xy jG) hG f (λj oj hj e he hb=>?_) (λj hj=>(h1 j (h2 j hj)).2) ord.length ord _ (λ_=>False) a _ rfl (abS ord anu) (λi hi=>(h1 i hi).1) (by simpa using hlen) (λk hk=>?_) (λj oj _ hl=>?_) hC (λk hk=>hk.elim) h
 ·have h4:=XG.1 h3 oj (Va hj);have h5:=XG.1 h4 e he;simpa[hb]using h5
 ·exact⟨λ_=>h2 k hk,λ_=>by rw[VH (by simpa[hlen]using hk) (Xc _ _)]⟩
 ·rw[Xc]at hl;cases hl
structure aC (T:Nat->Prop) (w w':World):Prop where
 os:w'.os=w.os
 tape:w'.tape=w.tape
 output:w'.output=w.output
 size:w.heap.size<=w'.heap.size
 block:∀k,k<w.heap.size->¬T k->w'.heap[k]?=w.heap[k]?
theorem aC.refl (T:Nat->Prop) (w:World):aC T w w:=⟨rfl,rfl,rfl,Zj _,λ_ _ _=>rfl⟩
theorem aC.below {T:Nat->Prop} {w0 w w':World} (h:aC T w0 w) (hb:Below w.heap.size w w'):aC T w0 w' :=
 ⟨hb.os.trans h.os,hb.tape.trans h.tape,hb.output.trans h.output,ZI h.size hb.size,λk hk ht=>(hb.block k (Yc hk h.size)).trans (h.block k hk ht)⟩
theorem aC.aJ (T:Nat->Prop) (w0:World):Au (aC T w0) w0.heap.size:=⟨λ_ _ h hb=>h.below hb,λ_ h=>h.size⟩
theorem aC.cell {T:Nat->Prop} {w0 w:World} (h:aC T w0 w):(∀b o,b<w0.heap.size->¬T b->w.cell? ⟨b,o,none⟩=w0.cell? ⟨b,o,none⟩)/\(∀b o,b<w0.heap.size->¬T b->w.frozen? ⟨b,o,none⟩=w0.frozen? ⟨b,o,none⟩) :=
 ⟨λb o hb ht=>XS (w:=w0) (h.block b hb ht),λb o hb ht=>Vd (w:=w0) (h.block b hb ht)⟩
def dD:Nat->Prop:=λ_=>False
theorem aC.toBelow {w0 w:World} (h:aC dD w0 w):Below w0.heap.size w0 w:=⟨h.os,h.tape,h.output,h.size,λk hk=>h.block k hk (λh=>h)⟩
theorem dR {bs:Nat->Prop} {a:Act} {w:World} (h:Q .normal a w):WX P ops C N Q [] bs a w:=h
theorem Ir {i:Nat} {l:List Nat} {bs:Nat->Prop} {a:Act} {w:World} {o:Oper} (ho:ops[i]?=some o) (hk:jW o=.still) (hg:o.guard=none)
  (h:∀K:(Nat->Prop)->Act->World->Prop,(∀bs a w,WX P ops C N Q l bs a w->K bs a w)->∃v,(∀w',C w'->(execOp a.eval o).run P w'=.ok (.value v) w')/\K bs (a.put o.dst v) w):WX P ops C N Q (i::l) bs a w:=by
 intro o' iY;rw[ho]at iY;obtain rfl:=Zy iY;obtain⟨v,h1,h2⟩:=h _ λ_ _ _ h=>h;unfold qX rM;rw[ZE (by simp[Region.wanted,hg])];simp only[hk];exact⟨v,λw' hw'=>.inl (h1 w' hw'),h2⟩
theorem i_ {T:Nat->Prop} {w0:World} {i:Nat} {l:List Nat} {bs:Nat->Prop} {a:Act} {w:World} {o:Oper} {v:Value} (ho:ops[i]?=some o) (hk:jW o=.still) (hg:o.guard=none)
  (h1:∀w',(∀b o,b<w0.heap.size->¬T b->w'.cell? ⟨b,o,none⟩=w0.cell? ⟨b,o,none⟩)->(∀b o,b<w0.heap.size->¬T b->w'.frozen? ⟨b,o,none⟩=w0.frozen? ⟨b,o,none⟩)->(execOp a.eval o).run P w'=.ok (.value v) w')
  (h:∀K:(Nat->Prop)->Act->World->Prop,(∀bs a w,WX P ops (aC T w0) N Q l bs a w->K bs a w)->K bs (a.put o.dst v) w):WX P ops (aC T w0) N Q (i::l) bs a w :=
 Ir ho hk hg λK hK=>⟨v,λw' hw'=>h1 w' hw'.cell.1 hw'.cell.2,h K hK⟩
theorem dh {w0:World} {i:Nat} {l:List Nat} {bs:Nat->Prop} {a:Act} {w:World} {o:Oper} {v:Value} (ho:ops[i]?=some o) (hk:jW o=.still) (hg:o.guard=none)
  (h1:∀w',(∀b o,b<w0.heap.size->w'.cell? ⟨b,o,none⟩=w0.drew.cell? ⟨b,o,none⟩)->(∀b o,b<w0.heap.size->w'.frozen? ⟨b,o,none⟩=w0.drew.frozen? ⟨b,o,none⟩)->(execOp a.eval o).run P w'=.ok (.value v) w')
  (h:∀K:(Nat->Prop)->Act->World->Prop,(∀bs a w,WX P ops (aC dD w0.drew) N Q l bs a w->K bs a w)->K bs (a.put o.dst v) w):WX P ops (aC dD w0.drew) N Q (i::l) bs a w :=
 Ir ho hk hg λK hK=>⟨v,λw' hw'=>h1 w' (λb o hb=>hw'.cell.1 b o (by simpa using hb) (λh=>h)) (λb o hb=>hw'.cell.2 b o (by simpa using hb) (λh=>h)),h K hK⟩
theorem anv {i:Nat} {l:List Nat} {bs:Nat->Prop} {a:Act} {w:World} {o:Oper} (ho:ops[i]?=some o)
  (h:∀K:(Nat->Prop)->Act->World->Prop,(∀bs a w,WX P ops C N Q l bs a w->K bs a w)->Region.wanted o (yielded ops a.tmps)=false/\K bs (a.put o.dst undef) w):WX P ops C N Q (i::l) bs a w:=by
 intro o' iY;rw[ho]at iY;obtain rfl:=Zy iY;obtain⟨h1,h2⟩:=h _ λ_ _ _ h=>h;unfold qX;rw[ZH (by rw[h1];simp)];exact h2
theorem anw {i:Nat} {l:List Nat} {bs:Nat->Prop} {a:Act} {w:World} {o:Oper} (ho:ops[i]?=some o) (hk:jW o=.still)
  (h:∀K:(Nat->Prop)->Act->World->Prop,(∀bs a w,WX P ops C N Q l bs a w->K bs a w)->Region.wanted o (yielded ops a.tmps)=true/\∃v,(∀w',C w'->(execOp a.eval o).run P w'=.ok (.value v) w')/\K bs (a.put o.dst v) w):WX P ops C N Q (i::l) bs a w:=by
 intro o' iY;rw[ho]at iY;obtain rfl:=Zy iY;obtain⟨hw,v,h1,h2⟩:=h _ λ_ _ _ h=>h;unfold qX rM;rw[ZE hw];simp only[hk];exact⟨v,λw' hw'=>.inl (h1 w' hw'),h2⟩
theorem anx {i:Nat} {l:List Nat} {bs:Nat->Prop} {a:Act} {w:World} {o:Oper} (ho:ops[i]?=some o) (hk:jW o=.act) (hG:Au C N) (hC:C w) (f:FuncId)
  (h:∀K:(Nat->Prop)->Act->World->Prop,(∀bs a w,WX P ops C N Q l bs a w->K bs a w)->Region.wanted o (yielded ops a.tmps)=true/\∃args,(∀w',C w'->(execOp a.eval o).run P w'=.ok (.enter f args) w') /\
   ∀w1,C w1->Below w.heap.size w w1->Calls P f args w1 λe w2=>∃v,e=.returned v/\Below w1.heap.size w1 w2/\(C w2->K bs (a.put o.dst v) w2)):WX P ops C N Q (i::l) bs a w:=by
 intro o' iY;rw[ho]at iY;obtain rfl:=Zy iY;obtain⟨hw,args,h1,h2⟩:=h _ λ_ _ _ h=>h;unfold qX rM;rw[ZE hw];simp only[hk];intro w1 dQ;have oO:=hG.grow _ _ hC dQ;unfold rJ;rw[h1 w1 oO];refine(h2 w1 oO dQ).mono ?_;rintro e w2⟨v,e1,e2,e3⟩;exact⟨v,e1,hG.grow _ _ oO e2,e2.size,λk _ _ hk=>e2.block k hk,bs,λ_ h=>h,λ_ h=>.inl h,e3 (hG.grow _ _ oO e2)⟩
theorem fD {i:Nat} {l:List Nat} {bs:Nat->Prop} {a:Act} {w:World} {o:Oper} (ho:ops[i]?=some o) (hk:jW o=.act) (hg:o.guard=none) (hG:Au C N) (hC:C w) (f:FuncId)
  (h:∀K:(Nat->Prop)->Act->World->Prop,(∀bs a w,WX P ops C N Q l bs a w->K bs a w)->∃args,(∀w',C w'->(execOp a.eval o).run P w'=.ok (.enter f args) w') /\
   ∀w1,C w1->Below w.heap.size w w1->Calls P f args w1 λe w2=>∃v,e=.returned v/\Below w1.heap.size w1 w2/\(C w2->K bs (a.put o.dst v) w2)):WX P ops C N Q (i::l) bs a w :=
 anx ho hk hG hC f λK hK=>⟨by simp[Region.wanted,hg],h K hK⟩
theorem jd {i:Nat} {l:List Nat} {bs:Nat->Prop} {a:Act} {w:World} {o:Oper} (ho:ops[i]?=some o) (hk:jW o=.act) (hg:o.guard=none) (hG:Au C N) (hC:C w)
  (h:∀K:(Nat->Prop)->Act->World->Prop,(∀bs a w,WX P ops C N Q l bs a w->K bs a w)->∀w1,C w1->Below w.heap.size w w1->∃w2,(execOp a.eval o).run P w1=.ok .skip w2 /\
   (C w2/\w1.heap.size<=w2.heap.size/\∀k,N<=k->¬bs k->k<w1.heap.size->w2.heap[k]?=w1.heap[k]?)/\K bs (a.put o.dst undef) w2):WX P ops C N Q (i::l) bs a w:=by
 intro o' iY;rw[ho]at iY;obtain rfl:=Zy iY;unfold qX rM;rw[ZE (by simp[Region.wanted,hg])];simp only[hk];intro w1 dQ;obtain⟨w2,h1,⟨h2,h3,h4⟩,h5⟩:=h _ (λ_ _ _ h=>h) w1 (hG.grow _ _ hC dQ) dQ;unfold rJ;rw[h1];exact⟨h2,h3,h4,bs,λ_ h=>h,λ_ h=>.inl h,h5⟩
theorem ku {i:Nat} {l:List Nat} {bs:Nat->Prop} {a:Act} {w:World} {o:Oper} (ho:ops[i]?=some o) (hk:jW o=.make) (hg:o.guard=none) (hG:Au C N) (hC:C w) (mk:Nat->Value)
  (h:∀K:(Nat->Prop)->Act->World->Prop,(∀bs a w,WX P ops C N Q l bs a w->K bs a w)->∃ob,(∀w',C w'->(execOp a.eval o).run P w'=.ok (.value (mk w'.heap.size)) (w'.alloc ob)) /\
   ∀b w',C w'->Below w.heap.size w w'->w'.heap[b]?=some ob->N<=b->¬bs b->K (λk=>k=b\/bs k) (a.put o.dst (mk b)) w'):WX P ops C N Q (i::l) bs a w:=by
 intro o' iY;rw[ho]at iY;obtain rfl:=Zy iY;obtain⟨ob,h1,h2⟩:=h _ λ_ _ _ h=>h;unfold qX rM;rw[ZE (by simp[Region.wanted,hg])];simp only[hk];exact⟨mk,ob,h1,λb w' hw' hb hN jD=>h2 b w' (hG.grow _ _ hC hw') hw' hb hN jD⟩
theorem made_cell {w:World} {b:Nat} {cs:Array Value} {t:TypeId} (h:w.heap[b]?=some (.cells cs t)):(∀o,w.cell? ⟨b,o,none⟩=cs[o]?)/\(∀o,w.frozen? ⟨b,o,none⟩=false)/\b<w.heap.size :=
 ⟨λo=>cell_of_row w b o cs t (0,0) h,λo=>frozen_of_row w b o cs t h,(ZP.1 h).1⟩
theorem bF {T:Nat->Prop} {w0 w:World} (h:aC T w0 w) {a:Addr} (ha:w0.heap.size<=a.block\/T a.block) (u:Value):aC T w0 (w.setCell a u) :=
 ⟨h.os,h.tape,h.output,by simpa[World.setCell]using h.size,λk hk ht=>by
  rw[Zm _ _ _ _ (by rintro rfl;rcases ha with ha|ha;omega;exact ht ha)];exact h.block k hk ht⟩
end
end Go.Proofs.YtkhpobekconobaaGreat
