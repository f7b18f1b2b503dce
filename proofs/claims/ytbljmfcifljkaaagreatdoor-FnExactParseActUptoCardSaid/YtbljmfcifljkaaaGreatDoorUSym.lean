/-
  A symbolic run of a region that draws its order and makes terms: one lemma for each kind of operation, at any act. Own work.
-/
import Derived.Test.YtbljmfcifljkaaaGreatDoorUAF
import Derived.Test.YtbljmfcifljkaaaGreatDoorUMS
set_option linter.all false
set_option maxRecDepth 100000
set_option maxHeartbeats 8000000
namespace Go.Proofs.YtbljmfcifljkaaaGreatDoor
open Go.RowKit
set_option maxRecDepth 100000
set_option maxHeartbeats 4000000
inductive SV where
 | val (v:Value)
 | box (t:Tr)
 | tm (t:Tr)
 | row2 (s t:Tr)
 | row3 (s t u:Tr)
 | ru (r:Rul)
def SvOk (T:Nat → Prop) (w0 w:World) (B:Nat):SV → Value → Prop
 | .val u,v=>v=u
 | .box t,v=>∃ b a n c,v=.pointer (some ⟨b,0,none⟩)∧¬ T b∧w0.cell? ⟨b,0,none⟩=some (.slice a n c)∧NdsOwn w0 B (.slice a n c) t.nodes
 | .tm t,v=>∃ a n c,v=.agg #[.slice a n c]∧NdsOwn w B (.slice a n c) t.nodes
 | .row2 s t,v=>∃ b v1 v2,v=.slice (some ⟨b,0,none⟩) 2 2∧w.heap[b]?=some (.cells #[v1,v2] 30)∧NdsOwn w B v1 s.nodes∧NdsOwn w B v2 t.nodes
 | .row3 s t u,v=>∃ b v1 v2 v3,v=.slice (some ⟨b,0,none⟩) 3 3∧w.heap[b]?=some (.cells #[v1,v2,v3] 30)∧NdsOwn w B v1 s.nodes∧NdsOwn w B v2 t.nodes∧NdsOwn w B v3 u.nodes
 | .ru r,v=>∃ a1 n1 c1 a2 n2 c2,v=.agg #[.string r.name,.slice a1 n1 c1,.slice a2 n2 c2]∧NdsOwn w B (.slice a1 n1 c1) r.left∧NdsOwn w B (.slice a2 n2 c2) r.right
theorem SvOk.keep {T:Nat → Prop} {w0 w w':World} {B:Nat} (hb:Below w.heap.size w w'):∀ {x:SV} {v:Value},SvOk T w0 w B x v → SvOk T w0 w' B x v
 | .val u,v,h=>h
 | .box t,v,h=>h
 | .tm t,v,⟨a,n,c,h1,h2⟩=>⟨a,n,c,h1,h2.keep hb⟩
 | .row2 s t,v,⟨b,v1,v2,h1,h2,h3,h4⟩=>⟨b,v1,v2,h1,made_at h2 hb,h3.keep hb,h4.keep hb⟩
 | .row3 s t u,v,⟨b,v1,v2,v3,h1,h2,h3,h4,h5⟩=>⟨b,v1,v2,v3,h1,made_at h2 hb,h3.keep hb,h4.keep hb,h5.keep hb⟩
 | .ru r,v,⟨a1,n1,c1,a2,n2,c2,h1,h2,h3⟩=>⟨a1,n1,c1,a2,n2,c2,h1,h2.keep hb,h3.keep hb⟩
theorem ev_tmp (a:Act) (s:Nat):a.eval (.tmp s)=a.tmps[s]?.getD undef:=by simp [Act.eval]
section
variable {ops:Array Oper} {Q:Exit → Act → World → Prop} {T:Nat → Prop} {w0 w:World} {B i s d:Nat} {l:List Nat} {bs:Nat → Prop} {a:Act} {o:Oper}
theorem sy_load {t:Tr} (ho:ops[i]?=some o) (hg:o.guard=none) (hd:o.dst=some d) (hop:o.op=.load 30 (.tmp s)) (hs:SvOk T w0 w B (.box t) (a.eval (.tmp s))) (hC:Exc T w0 w) (hW:Below w0.heap.size w0 w)
  (h:∀ v,SvOk T w0 w B (.tm t) v → WX Tryz.prog ops (Exc T w0) w0.heap.size Q l bs (a.put (some d) v) w):WX Tryz.prog ops (Exc T w0) w0.heap.size Q (i :: l) bs a w:=by
 refine x_still ho (by unfold opKind;rw [hop]) hg (fun K hK=>?_)
 obtain ⟨b,aa,n,c,e,hT,h1,h2⟩:=hs
 refine ⟨.agg #[.slice aa n c],fun w' hw'=>?_,?_⟩
 ·have h3:=(hw'.cell.1 b 0 (cell_lt h1) hT).trans h1
  obtain ⟨dst,op,ty,pos,af,gd⟩:=o
  simp only at hop
  subst hop
  rw [ev_tmp] at e
  go_simp
 ·rw [hd]
  exact hK _ _ _ (h _ ⟨aa,n,c,rfl,h2.keep hW⟩)
theorem sy_move {u:Value} (ho:ops[i]?=some o) (hg:o.guard=none) (hd:o.dst=some d) (hop:o.op=.move (.tmp s)) (hs:SvOk T w0 w B (.val u) (a.eval (.tmp s)))
  (h:∀ v,SvOk T w0 w B (.val u) v → WX Tryz.prog ops (Exc T w0) w0.heap.size Q l bs (a.put (some d) v) w):WX Tryz.prog ops (Exc T w0) w0.heap.size Q (i :: l) bs a w:=by
 refine x_still ho (by unfold opKind;rw [hop]) hg (fun K hK=>?_)
 have e:a.eval (.tmp s)=u:=hs
 refine ⟨u,fun w' hw'=>?_,?_⟩
 ·obtain ⟨dst,op,ty,pos,af,gd⟩:=o
  simp only at hop
  subst hop
  rw [ev_tmp] at e
  go_simp
 ·rw [hd]
  exact hK _ _ _ (h _ rfl)
theorem sy_call {f:FuncId} {args:Array Operand} {ats:Array TypeId} {vs:Array Value} {t:Tr} (ho:ops[i]?=some o) (hg:o.guard=none) (hd:o.dst=some d) (hop:o.op=.call { callee:=.value (.func f),args:=args,argTypes:=ats })
  (hC:Exc T w0 w) (hB:B≤w0.heap.size) (hrun:∀ w',(execOp a.eval o).run Tryz.prog w'=.ok (.enter f vs) w')
  (hc:∀ w',Below w.heap.size w w' → Calls Tryz.prog f vs w' (TmcP t.nodes w'))
  (h:∀ v w',Exc T w0 w' → Below w.heap.size w w' → SvOk T w0 w' B (.tm t) v → WX Tryz.prog ops (Exc T w0) w0.heap.size Q l bs (a.put (some d) v) w'):WX Tryz.prog ops (Exc T w0) w0.heap.size Q (i :: l) bs a w:=by
 refine x_call ho (by unfold opKind;rw [hop]) hg (Exc.grows _ _) hC f (fun K hK=>?_)
 refine ⟨vs,fun w' _=>hrun w',fun w1 hw1 hb1=>?_⟩
 refine (hc w1 hb1).mono ?_
 rintro e w2 ⟨v,rfl,ho2,hb2⟩
 refine ⟨_,rfl,hb2,fun hw2=>?_⟩
 rw [hd]
 obtain ⟨aa,c,rfl⟩:=ho2.slice
 exact hK _ _ _ (h _ w2 hw2 (hb1.trans (hb2.mono hb1.size)) ⟨aa,_,c,rfl,ho2.mono (by have:=hw1.size;omega)⟩)
theorem run_call {f:FuncId} {args:Array Operand} {vs:Array Value} {ats:Array TypeId} (hop:o.op=.call { callee:=.value (.func f),args:=args,argTypes:=ats }) (e:args.map a.eval=vs) (hf:∀ w,Sem.run Tryz.prog (callFunc f vs) w=.ok (.enter f vs) w) (w':World):(execOp a.eval o).run Tryz.prog w'=.ok (.enter f vs) w':=by
 obtain ⟨dst,op,ty,pos,af,gd⟩:=o
 simp only at hop
 subst hop
 have e2:a.eval (.func f)=.func (.func f) #[] #[]:=rfl
 simp only [execOp,resolve,e,e2,Deferred.ofValue]
 simp [invoke,hf]
theorem sy_sub {x y:Operand} {z u:Int} (ho:ops[i]?=some o) (hg:o.guard=none) (hd:o.dst=some d) (hop:o.op=.binOp .sub 3 x y 3) (e1:a.eval x=.int .i64 z) (e2:a.eval y=.int .i64 u) (he:IntKind.i64.wrap (z - u)=z - u)
  (h:∀ v,SvOk T w0 w B (.val (.int .i64 (z - u))) v → WX Tryz.prog ops (Exc T w0) w0.heap.size Q l bs (a.put (some d) v) w):WX Tryz.prog ops (Exc T w0) w0.heap.size Q (i :: l) bs a w:=by
 refine x_still ho (by unfold opKind;rw [hop]) hg (fun K hK=>?_)
 refine ⟨.int .i64 (z - u),fun w' hw'=>?_,?_⟩
 ·obtain ⟨dst,op,ty,pos,af,gd⟩:=o
  simp only at hop
  subst hop
  simp only [execOp,e1,e2]
  go_simp
 ·rw [hd]
  exact hK _ _ _ (h _ rfl)
theorem sy_row2 {s1 s2:Nat} {t1 t2:Tr} (ho:ops[i]?=some o) (hg:o.guard=none) (hd:o.dst=some d) (hop:o.op=.buildSlice 215 2 #[(0,.tmp s1),(1,.tmp s2)])
  (h1:SvOk T w0 w B (.tm t1) (a.eval (.tmp s1))) (h2:SvOk T w0 w B (.tm t2) (a.eval (.tmp s2))) (hC:Exc T w0 w)
  (h:∀ v w' bs',Exc T w0 w' → Below w.heap.size w w' → SvOk T w0 w' B (.row2 t1 t2) v → WX Tryz.prog ops (Exc T w0) w0.heap.size Q l bs' (a.put (some d) v) w'):WX Tryz.prog ops (Exc T w0) w0.heap.size Q (i :: l) bs a w:=by
 obtain ⟨a1,n1,c1,e1,g1⟩:=h1
 obtain ⟨a2,n2,c2,e2,g2⟩:=h2
 refine x_make ho (by unfold opKind;rw [hop]) hg (Exc.grows _ _) hC (fun b=>.slice (some ⟨b,0,none⟩) 2 2) (fun K hK=>?_)
 refine ⟨.cells #[.slice a1 n1 c1,.slice a2 n2 c2] 30,fun w' hw'=>?_,fun b w' hw' hb hbo hN hnb=>?_⟩
 ·obtain ⟨dst,op,ty,pos,af,gd⟩:=o
  simp only at hop
  subst hop
  rw [ev_tmp] at e1 e2
  go_simp
 ·rw [hd]
  exact hK _ _ _ (h _ w' _ hw' hb ⟨b,_,_,rfl,hbo,g1.keep hb,g2.keep hb⟩)
theorem sy_row3 {s1 s2 s3:Nat} {t1 t2 t3:Tr} (ho:ops[i]?=some o) (hg:o.guard=none) (hd:o.dst=some d) (hop:o.op=.buildSlice 215 3 #[(0,.tmp s1),(1,.tmp s2),(2,.tmp s3)])
  (h1:SvOk T w0 w B (.tm t1) (a.eval (.tmp s1))) (h2:SvOk T w0 w B (.tm t2) (a.eval (.tmp s2))) (h3:SvOk T w0 w B (.tm t3) (a.eval (.tmp s3))) (hC:Exc T w0 w)
  (h:∀ v w' bs',Exc T w0 w' → Below w.heap.size w w' → SvOk T w0 w' B (.row3 t1 t2 t3) v → WX Tryz.prog ops (Exc T w0) w0.heap.size Q l bs' (a.put (some d) v) w'):WX Tryz.prog ops (Exc T w0) w0.heap.size Q (i :: l) bs a w:=by
 obtain ⟨a1,n1,c1,e1,g1⟩:=h1
 obtain ⟨a2,n2,c2,e2,g2⟩:=h2
 obtain ⟨a3,n3,c3,e3,g3⟩:=h3
 refine x_make ho (by unfold opKind;rw [hop]) hg (Exc.grows _ _) hC (fun b=>.slice (some ⟨b,0,none⟩) 3 3) (fun K hK=>?_)
 refine ⟨.cells #[.slice a1 n1 c1,.slice a2 n2 c2,.slice a3 n3 c3] 30,fun w' hw'=>?_,fun b w' hw' hb hbo hN hnb=>?_⟩
 ·obtain ⟨dst,op,ty,pos,af,gd⟩:=o
  simp only at hop
  subst hop
  rw [ev_tmp] at e1 e2 e3
  go_simp
 ·rw [hd]
  exact hK _ _ _ (h _ w' _ hw' hb ⟨b,_,_,_,rfl,hbo,g1.keep hb,g2.keep hb,g3.keep hb⟩)
theorem sy_fn {f:FuncId} {args:Array Operand} {ats:Array TypeId} {vs:Array Value} {u:Value} (ho:ops[i]?=some o) (hg:o.guard=none) (hd:o.dst=some d) (hop:o.op=.call { callee:=.value (.func f),args:=args,argTypes:=ats })
  (hC:Exc T w0 w) (hrun:∀ w',(execOp a.eval o).run Tryz.prog w'=.ok (.enter f vs) w')
  (hc:∀ w':World,Calls Tryz.prog f vs w' fun e w2=>e=.returned u∧Below w'.heap.size w' w2)
  (h:∀ v w',Exc T w0 w' → Below w.heap.size w w' → SvOk T w0 w' B (.val u) v → WX Tryz.prog ops (Exc T w0) w0.heap.size Q l bs (a.put (some d) v) w'):WX Tryz.prog ops (Exc T w0) w0.heap.size Q (i :: l) bs a w:=by
 refine x_call ho (by unfold opKind;rw [hop]) hg (Exc.grows _ _) hC f (fun K hK=>?_)
 refine ⟨vs,fun w' _=>hrun w',fun w1 hw1 hb1=>?_⟩
 refine (hc w1).mono ?_
 rintro e w2 ⟨rfl,hb2⟩
 refine ⟨_,rfl,hb2,fun hw2=>?_⟩
 rw [hd]
 exact hK _ _ _ (h _ w2 hw2 (hb1.trans (hb2.mono hb1.size)) rfl)
theorem sy_rule {nm:ByteArray} {s1 s2:Nat} {l1 l2:Tr} {ats:Array TypeId} (ho:ops[i]?=some o) (hg:o.guard=none) (hd:o.dst=some d) (hop:o.op=.call { callee:=.value (.func 38),args:=#[.const (.string nm),.tmp s1,.tmp s2],argTypes:=ats })
  (h1:SvOk T w0 w B (.tm l1) (a.eval (.tmp s1))) (h2:SvOk T w0 w B (.tm l2) (a.eval (.tmp s2))) (hC:Exc T w0 w)
  (h:∀ v w',Exc T w0 w' → Below w.heap.size w w' → SvOk T w0 w' B (.ru ⟨nm,l1.nodes,l2.nodes⟩) v → WX Tryz.prog ops (Exc T w0) w0.heap.size Q l bs (a.put (some d) v) w'):WX Tryz.prog ops (Exc T w0) w0.heap.size Q (i :: l) bs a w:=by
 obtain ⟨a1,n1,c1,e1,g1⟩:=h1
 obtain ⟨a2,n2,c2,e2,g2⟩:=h2
 have e0:a.eval (.const (.string nm))=.string nm:=rfl
 refine x_call ho (by unfold opKind;rw [hop]) hg (Exc.grows _ _) hC 38 (fun K hK=>?_)
 refine ⟨#[.string nm,.agg #[.slice a1 n1 c1],.agg #[.slice a2 n2 c2]],fun w' _=>run_call hop (by simp [e0,e1,e2]) (fun w=>by kernel_rfl) w',fun w1 hw1 hb1=>?_⟩
 refine (axRule_any nm a1 n1 c1 a2 n2 c2 w1).mono ?_
 rintro e w2 ⟨rfl,hb2⟩
 refine ⟨_,rfl,hb2,fun hw2=>?_⟩
 rw [hd]
 have hk:=hb1.trans (hb2.mono hb1.size)
 exact hK _ _ _ (h _ w2 hw2 hk ⟨a1,n1,c1,a2,n2,c2,rfl,g1.keep hk,g2.keep hk⟩)
end
abbrev Sg:=List (Nat × SV)
def numOf (σ:Sg):Operand → Option Int
 | .const (.int .i64 z)=>some z
 | .tmp s=>(match σ.lookup s with
  | some (.val (.int .i64 z))=>some z
  | _=>none)
 | _=>none
def smallT (t:Tr):Bool:=Nat.ble t.nodes.length 1000
inductive Ob where
 | mir (t:Tr)
 | fn (f:Nat) (vs:Array Value)
 | sub (z u:Int)
def ObOk (kf:Nat → Value):Ob → Prop
 | .mir t=>AxTr t
 | .sub z u=>IntKind.i64.wrap (z - u)=z - u
 | .fn f vs=>∀ w:World,Calls Tryz.prog f vs w fun e w'=>e=.returned (kf f)∧Below w.heap.size w w'
def symCall2 (kf:Nat → Value) (σ:Sg) (f:Nat) (args:List Operand):Option (SV × List Ob) :=
 if f=82 then (match args with
  | [.tmp s]=>(match σ.lookup s with
   | some (.tm t)=>some (.tm t.mir,[.mir t])
   | _=>none)
  | _=>none)
 else if f=38 then (match args with
  | [.const (.string nm),.tmp s,.tmp r]=>(match σ.lookup s,σ.lookup r with
   | some (.tm t),some (.tm u)=>some (.ru ⟨nm,t.nodes,u.nodes⟩,[])
   | _,_=>none)
  | _=>none)
 else if f=156 then (match args with
  | [x,y,z]=>(match numOf σ x,numOf σ y,numOf σ z with
   | some j,some k,some l=>some (.val (kf 156),[.fn 156 #[.int .i64 j,.int .i64 k,.int .i64 l]])
   | _,_,_=>none)
  | _=>none)
 else if f=157 then (match args with
  | [x,y,z]=>(match numOf σ x,numOf σ y,numOf σ z with
   | some j,some k,some l=>some (.val (kf 157),[.fn 157 #[.int .i64 j,.int .i64 k,.int .i64 l]])
   | _,_,_=>none)
  | _=>none)
 else none
def symCall (kf:Nat → Value) (σ:Sg) (f:Nat) (args:List Operand):Option (SV × List Ob) :=
 if f=83 then (match args with
  | [x]=>(numOf σ x).map fun z=>(.tm (lf z 0),[])
  | _=>none)
 else if f=87 then (match args with
  | [x]=>(numOf σ x).map fun z=>(.tm (lf 7 z),[])
  | _=>none)
 else if f=84 then (match args with
  | [x]=>(numOf σ x).map fun z=>(.tm (lf 1 z),[])
  | _=>none)
 else if f=88 then (match args with
  | [x,y]=>(match numOf σ x,numOf σ y with
   | some j,some z=>some (.tm (lf j z),[])
   | _,_=>none)
  | _=>none)
 else if f=85 then (match args with
  | [.tmp s]=>(match σ.lookup s with
   | some (.row2 t u)=>if smallT t && smallT u then some (.tm (.seq t u),[]) else none
   | some (.row3 t u v)=>if smallT t && (smallT u && smallT v) then some (.tm (.seq (.seq t u) v),[]) else none
   | _=>none)
  | _=>none)
 else if f=86 then (match args with
  | [.tmp s]=>(match σ.lookup s with
   | some (.row2 t u)=>if smallT t && smallT u then some (.tm (.par t u),[]) else none
   | some (.row3 t u v)=>if smallT t && (smallT u && smallT v) then some (.tm (.par (.par t u) v),[]) else none
   | _=>none)
  | _=>none)
 else symCall2 kf σ f args
def symOp (kf:Nat → Value) (σ:Sg) (o:Oper):Option (SV × List Ob):=match o.op with
 | .load ty (.tmp s)=>if ty=30 then (match σ.lookup s with
   | some (.box t)=>some (.tm t,[])
   | _=>none) else none
 | .move (.tmp s)=>(match σ.lookup s with
   | some (.val u)=>some (.val u,[])
   | _=>none)
 | .buildSlice ty n ⟨parts⟩=>if ty=215 then (match n,parts with
   | 2,[(0,.tmp s),(1,.tmp r)]=>(match σ.lookup s,σ.lookup r with
    | some (.tm t),some (.tm u)=>some (.row2 t u,[])
    | _,_=>none)
   | 3,[(0,.tmp s),(1,.tmp r),(2,.tmp q)]=>(match σ.lookup s,σ.lookup r,σ.lookup q with
    | some (.tm t),some (.tm u),some (.tm v)=>some (.row3 t u v,[])
    | _,_,_=>none)
   | _,_=>none) else none
 | .binOp .sub ty x y ty2=>if ty=3∧ty2=3 then (match numOf σ x,numOf σ y with
   | some z,some u=>some (.val (.int .i64 (z - u)),[.sub z u])
   | _,_=>none) else none
 | .call ⟨.value (.func f),⟨args⟩,_⟩=>symCall kf σ f args
 | _=>none
def isNoneB (g:Option (Nat × Bool)):Bool:=match g with
 | none=>true
 | some _=>false
def symRun (kf:Nat → Value) (ops:Array Oper) (n:Nat):List Nat → Sg → List Ob → Option (Sg × List Ob × List Nat)
 | [],σ,ob=>some (σ,ob,[])
 | i :: l,σ,ob=>match ops[i]? with
  | none=>none
  | some o=>match o.dst with
   | none=>none
   | some d=>if isNoneB o.guard && decide (d<n) then (match symOp kf σ o with
     | none=>none
     | some (x,ob')=>(match symRun kf ops n l ((d,x) :: σ) (ob' ++ ob) with
      | none=>none
      | some (σ',ob'',ds)=>some (σ',ob'',d :: ds))) else none
def puts:Act → List Nat → List Value → Act
 | a,d :: ds,v :: vs=>puts (a.put (some d) v) ds vs
 | a,_,_=>a
def StOk (T:Nat → Prop) (w0 w:World) (B:Nat) (σ:Sg) (a:Act):Prop:=∀ s x,σ.lookup s=some x → SvOk T w0 w B x (a.eval (.tmp s))
theorem StOk.keep {T:Nat → Prop} {w0 w w':World} {B:Nat} {σ:Sg} {a:Act} (hb:Below w.heap.size w w') (h:StOk T w0 w B σ a):StOk T w0 w' B σ a:=fun s x hx=>(h s x hx).keep hb
theorem StOk.put {T:Nat → Prop} {w0 w:World} {B d:Nat} {σ:Sg} {a:Act} {x:SV} {v:Value} (h:StOk T w0 w B σ a) (hd:d<a.tmps.size) (hv:SvOk T w0 w B x v):StOk T w0 w B ((d,x) :: σ) (a.put (some d) v):=by
 intro s y hy
 rw [ev_tmp]
 by_cases hs:s=d
 ·subst hs
  simp only [List.lookup_cons,beq_self_eq_true] at hy
  cases hy
  simp only [Act.put]
  rw [Array.getElem?_setIfInBounds_self_of_lt hd]
  exact hv
 ·have hb:(s == d)=false:=by simpa using hs
  simp only [List.lookup_cons,hb] at hy
  have:=h s y hy
  rw [ev_tmp] at this
  simp only [Act.put]
  rw [Array.getElem?_setIfInBounds_ne (fun e=>hs e.symm)]
  exact this
theorem numOf_eval {T:Nat → Prop} {w0 w:World} {B:Nat} {σ:Sg} {a:Act} {x:Operand} {z:Int} (h:StOk T w0 w B σ a) (hx:numOf σ x=some z):a.eval x=.int .i64 z:=by
 unfold numOf at hx
 split at hx
 ·cases hx;rfl
 ·split at hx
  ·rename_i s u hu
   cases hx
   exact h _ _ hu
  ·cases hx
 ·cases hx
section
variable {kf:Nat → Value} {ops:Array Oper} {Q:Exit → Act → World → Prop} {T:Nat → Prop} {w0 w:World} {B i d:Nat} {l:List Nat} {bs:Nat → Prop} {a:Act} {o:Oper} {σ:Sg} {x:SV} {ob:List Ob}
theorem sym_call2 {f:Nat} {args:List Operand} {ats:Array TypeId} (h:symCall2 kf σ f args=some (x,ob)) (ho:ops[i]?=some o) (hg:o.guard=none) (hd:o.dst=some d) (hop:o.op=.call { callee:=.value (.func f),args:=⟨args⟩,argTypes:=ats })
  (hst:StOk T w0 w B σ a) (hC:Exc T w0 w) (hB:B≤w0.heap.size) (hob:∀ t ∈ ob,ObOk kf t)
  (H:∀ v w',Exc T w0 w' → Below w.heap.size w w' → SvOk T w0 w' B x v → WX Tryz.prog ops (Exc T w0) w0.heap.size Q l bs (a.put (some d) v) w'):WX Tryz.prog ops (Exc T w0) w0.heap.size Q (i :: l) bs a w:=by
 unfold symCall2 at h
 split at h
 ·rename_i hf
  subst hf
  split at h
  ·rename_i s
   split at h
   ·rename_i t hl
    cases h
    obtain ⟨aa,n,c,e,h1⟩:=hst _ _ hl
    exact sy_call (vs:=#[.agg #[.slice aa n c]]) ho hg hd hop hC hB (fun w'=>run_call hop (by simp [e]) (fun w=>by kernel_rfl) w') (fun w' hk=>tmMirrorT t (show AxTr t from hob (.mir t) (by simp)) _ _ (h1.keep hk).at) H
   ·cases h
  ·cases h
 split at h
 ·rename_i hf
  subst hf
  split at h
  ·rename_i nm s r
   split at h
   ·rename_i t u hl hr
    cases h
    exact sy_rule ho hg hd hop (hst _ _ hl) (hst _ _ hr) hC H
   ·cases h
  ·cases h
 split at h
 ·rename_i hf
  subst hf
  split at h
  ·rename_i y1 y2 y3
   cases hz:numOf σ y1 with
   | none=>rw [hz] at h;cases h
   | some z1 =>
    cases hz2:numOf σ y2 with
    | none=>rw [hz,hz2] at h;cases h
    | some z2 =>
     cases hz3:numOf σ y3 with
     | none=>rw [hz,hz2,hz3] at h;cases h
     | some z3 =>
      rw [hz,hz2,hz3] at h
      cases h
      have e:=numOf_eval hst hz
      have e2:=numOf_eval hst hz2
      have e3:=numOf_eval hst hz3
      exact sy_fn (vs:=#[.int .i64 z1,.int .i64 z2,.int .i64 z3]) ho hg hd hop hC (fun w'=>run_call hop (by simp [e,e2,e3]) (fun w=>by kernel_rfl) w') (hob (.fn _ _) (by simp)) H
  ·cases h
 split at h
 ·rename_i hf
  subst hf
  split at h
  ·rename_i y1 y2 y3
   cases hz:numOf σ y1 with
   | none=>rw [hz] at h;cases h
   | some z1 =>
    cases hz2:numOf σ y2 with
    | none=>rw [hz,hz2] at h;cases h
    | some z2 =>
     cases hz3:numOf σ y3 with
     | none=>rw [hz,hz2,hz3] at h;cases h
     | some z3 =>
      rw [hz,hz2,hz3] at h
      cases h
      have e:=numOf_eval hst hz
      have e2:=numOf_eval hst hz2
      have e3:=numOf_eval hst hz3
      exact sy_fn (vs:=#[.int .i64 z1,.int .i64 z2,.int .i64 z3]) ho hg hd hop hC (fun w'=>run_call hop (by simp [e,e2,e3]) (fun w=>by kernel_rfl) w') (hob (.fn _ _) (by simp)) H
  ·cases h
 ·cases h
theorem sym_call {f:Nat} {args:List Operand} {ats:Array TypeId} (h:symCall kf σ f args=some (x,ob)) (ho:ops[i]?=some o) (hg:o.guard=none) (hd:o.dst=some d) (hop:o.op=.call { callee:=.value (.func f),args:=⟨args⟩,argTypes:=ats })
  (hst:StOk T w0 w B σ a) (hC:Exc T w0 w) (hB:B≤w0.heap.size) (hob:∀ t ∈ ob,ObOk kf t)
  (H:∀ v w',Exc T w0 w' → Below w.heap.size w w' → SvOk T w0 w' B x v → WX Tryz.prog ops (Exc T w0) w0.heap.size Q l bs (a.put (some d) v) w'):WX Tryz.prog ops (Exc T w0) w0.heap.size Q (i :: l) bs a w:=by
 unfold symCall at h
 split at h
 ·rename_i hf
  subst hf
  split at h
  ·rename_i y
   cases hz:numOf σ y with
   | none=>rw [hz] at h;cases h
   | some z =>
    rw [hz] at h
    cases h
    have e:=numOf_eval hst hz
    exact sy_call (vs:=#[.int .i64 z]) ho hg hd hop hC hB (fun w'=>run_call hop (by simp [e]) (fun w=>by kernel_rfl) w') (fun w' _=>axOneT z w') H
  ·cases h
 split at h
 ·rename_i hf
  subst hf
  split at h
  ·rename_i y
   cases hz:numOf σ y with
   | none=>rw [hz] at h;cases h
   | some z =>
    rw [hz] at h
    cases h
    have e:=numOf_eval hst hz
    exact sy_call (vs:=#[.int .i64 z]) ho hg hd hop hC hB (fun w'=>run_call hop (by simp [e]) (fun w=>by kernel_rfl) w') (fun w' _=>axScaleT z w') H
  ·cases h
 split at h
 ·rename_i hf
  subst hf
  split at h
  ·rename_i y
   cases hz:numOf σ y with
   | none=>rw [hz] at h;cases h
   | some z =>
    rw [hz] at h
    cases h
    have e:=numOf_eval hst hz
    exact sy_call (vs:=#[.int .i64 z]) ho hg hd hop hC hB (fun w'=>run_call hop (by simp [e]) (fun w=>by kernel_rfl) w') (fun w' _=>tmIdT z w') H
  ·cases h
 split at h
 ·rename_i hf
  subst hf
  split at h
  ·rename_i y1 y2
   cases hz:numOf σ y1 with
   | none=>rw [hz] at h;cases h
   | some z1 =>
    cases hz2:numOf σ y2 with
    | none=>rw [hz,hz2] at h;cases h
    | some z2 =>
     rw [hz,hz2] at h
     cases h
     have e:=numOf_eval hst hz
     have e2:=numOf_eval hst hz2
     exact sy_call (vs:=#[.int .i64 z1,.int .i64 z2]) ho hg hd hop hC hB (fun w'=>run_call hop (by simp [e,e2]) (fun w=>by kernel_rfl) w') (fun w' _=>tmOneT z1 z2 w') H
  ·cases h
 split at h
 ·rename_i hf
  subst hf
  split at h
  ·rename_i s
   split at h
   ·rename_i t u hl
    split at h
    ·rename_i hs
     cases h
     simp only [Bool.and_eq_true] at hs
     obtain ⟨b,v1,v2,e,h1,h2,h3⟩:=hst _ _ hl
     exact sy_call (vs:=#[.slice (some ⟨b,0,none⟩) 2 2]) ho hg hd hop hC hB (fun w'=>run_call hop (by simp [e]) (fun w=>by kernel_rfl) w') (fun w' hk=>gSeq2 (made_at h1 hk) (h2.keep hk) (h3.keep hk) hs.1 hs.2) H
    ·cases h
   ·rename_i t u v hl
    split at h
    ·rename_i hs
     cases h
     simp only [Bool.and_eq_true] at hs
     obtain ⟨b,v1,v2,v3,e,h1,h2,h3,h4⟩:=hst _ _ hl
     exact sy_call (vs:=#[.slice (some ⟨b,0,none⟩) 3 3]) ho hg hd hop hC hB (fun w'=>run_call hop (by simp [e]) (fun w=>by kernel_rfl) w') (fun w' hk=>gSeq3 (made_at h1 hk) (h2.keep hk) (h3.keep hk) (h4.keep hk) hs.1 hs.2.1 hs.2.2) H
    ·cases h
   ·cases h
  ·cases h
 split at h
 ·rename_i hf
  subst hf
  split at h
  ·rename_i s
   split at h
   ·rename_i t u hl
    split at h
    ·rename_i hs
     cases h
     simp only [Bool.and_eq_true] at hs
     obtain ⟨b,v1,v2,e,h1,h2,h3⟩:=hst _ _ hl
     exact sy_call (vs:=#[.slice (some ⟨b,0,none⟩) 2 2]) ho hg hd hop hC hB (fun w'=>run_call hop (by simp [e]) (fun w=>by kernel_rfl) w') (fun w' hk=>gPar2 (made_at h1 hk) (h2.keep hk) (h3.keep hk) hs.1 hs.2) H
    ·cases h
   ·rename_i t u v hl
    split at h
    ·rename_i hs
     cases h
     simp only [Bool.and_eq_true] at hs
     obtain ⟨b,v1,v2,v3,e,h1,h2,h3,h4⟩:=hst _ _ hl
     exact sy_call (vs:=#[.slice (some ⟨b,0,none⟩) 3 3]) ho hg hd hop hC hB (fun w'=>run_call hop (by simp [e]) (fun w=>by kernel_rfl) w') (fun w' hk=>gPar3 (made_at h1 hk) (h2.keep hk) (h3.keep hk) (h4.keep hk) hs.1 hs.2.1 hs.2.2) H
    ·cases h
   ·cases h
  ·cases h
 exact sym_call2 h ho hg hd hop hst hC hB hob H
theorem sym_op (h:symOp kf σ o=some (x,ob)) (ho:ops[i]?=some o) (hg:o.guard=none) (hd:o.dst=some d) (hst:StOk T w0 w B σ a) (hC:Exc T w0 w) (hW:Below w0.heap.size w0 w) (hB:B≤w0.heap.size) (hob:∀ t ∈ ob,ObOk kf t)
  (H:∀ v w' bs',Exc T w0 w' → Below w.heap.size w w' → SvOk T w0 w' B x v → WX Tryz.prog ops (Exc T w0) w0.heap.size Q l bs' (a.put (some d) v) w'):WX Tryz.prog ops (Exc T w0) w0.heap.size Q (i :: l) bs a w:=by
 unfold symOp at h
 split at h
 ·rename_i ty s hop
  split at h
  ·rename_i hty
   subst hty
   split at h
   ·rename_i t hl
    cases h
    exact sy_load ho hg hd hop (hst _ _ hl) hC hW fun v hv=>H v w _ hC (Below.refl _ _) hv
   ·cases h
  ·cases h
 ·rename_i s hop
  split at h
  ·rename_i u hl
   cases h
   exact sy_move ho hg hd hop (hst _ _ hl) fun v hv=>H v w _ hC (Below.refl _ _) hv
  ·cases h
 ·rename_i ty n parts hop
  split at h
  ·rename_i hty
   subst hty
   split at h
   ·split at h
    ·rename_i t u hl hr
     cases h
     exact sy_row2 ho hg hd hop (hst _ _ hl) (hst _ _ hr) hC fun v w' bs' h1 h2 h3=>H v w' bs' h1 h2 h3
    ·cases h
   ·split at h
    ·rename_i t u v hl hr hq
     cases h
     exact sy_row3 ho hg hd hop (hst _ _ hl) (hst _ _ hr) (hst _ _ hq) hC fun v w' bs' h1 h2 h3=>H v w' bs' h1 h2 h3
    ·cases h
   ·cases h
  ·cases h
 ·rename_i ty x y ty2 hop
  split at h
  ·rename_i hty
   obtain ⟨rfl,rfl⟩:=hty
   cases hz:numOf σ x with
   | none=>rw [hz] at h;cases h
   | some z =>
    cases hu:numOf σ y with
    | none=>rw [hz,hu] at h;cases h
    | some u =>
     rw [hz,hu] at h
     cases h
     exact sy_sub ho hg hd hop (numOf_eval hst hz) (numOf_eval hst hu) (show IntKind.i64.wrap (z - u)=z - u from hob (.sub z u) (by simp)) fun v hv=>H v w _ hC (Below.refl _ _) hv
  ·cases h
 ·rename_i f args ats hop
  exact sym_call h ho hg hd hop hst hC hB hob fun v w' h1 h2 h3=>H v w' _ h1 h2 h3
 ·cases h
end
theorem sym_mem {kf:Nat → Value} {ops:Array Oper} {n:Nat}:∀ (l:List Nat) (σ:Sg) (ob:List Ob) {σ':Sg} {ob':List Ob} {ds:List Nat},symRun kf ops n l σ ob=some (σ',ob',ds) → ∀ t ∈ ob,t ∈ ob'
 | [],σ,ob,σ',ob',ds,h,t,ht=>by simp only [symRun,Option.some.injEq,Prod.mk.injEq] at h;rw [← h.2.1];exact ht
 | i :: l,σ,ob,σ',ob',ds,h,t,ht=>by
  unfold symRun at h
  split at h
  ·cases h
  ·split at h
   ·cases h
   ·split at h
    ·split at h
     ·cases h
     ·split at h
      ·cases h
      ·rename_i h1
       simp only [Option.some.injEq,Prod.mk.injEq] at h
       rw [← h.2.1]
       exact sym_mem l _ _ h1 t (List.mem_append_right _ ht)
    ·cases h
theorem sym_run {kf:Nat → Value} {ops:Array Oper} {n:Nat} {Q:Exit → Act → World → Prop} {T:Nat → Prop} {w0:World} {B:Nat} {rest:List Nat}:∀ (l:List Nat) (σ:Sg) (ob:List Ob) {σ':Sg} {ob':List Ob} {ds:List Nat} (h:symRun kf ops n l σ ob=some (σ',ob',ds)) (hob:∀ t ∈ ob',ObOk kf t) (a:Act) (w:World) (bs:Nat → Prop)
  (hn:a.tmps.size=n) (hst:StOk T w0 w B σ a) (hC:Exc T w0 w) (hW:Below w0.heap.size w0 w) (hB:B≤w0.heap.size)
  (H:∀ vs w' bs',vs.length=ds.length → Exc T w0 w' → Below w.heap.size w w' → StOk T w0 w' B σ' (puts a ds vs) → WX Tryz.prog ops (Exc T w0) w0.heap.size Q rest bs' (puts a ds vs) w'),WX Tryz.prog ops (Exc T w0) w0.heap.size Q (l ++ rest) bs a w
 | [],σ,ob,σ',ob',ds,h,hob,a,w,bs,hn,hst,hC,hW,hB,H=>by
  simp only [symRun,Option.some.injEq,Prod.mk.injEq] at h
  obtain ⟨rfl,rfl,rfl⟩:=h
  exact H [] w bs rfl hC (Below.refl _ _) hst
 | i :: l,σ,ob,σ',ob',ds,h,hob,a,w,bs,hn,hst,hC,hW,hB,H=>by
  unfold symRun at h
  split at h
  ·cases h
  ·rename_i o ho
   split at h
   ·cases h
   ·rename_i d hd
    split at h
    ·rename_i hg
     simp only [Bool.and_eq_true,decide_eq_true_eq] at hg
     have hgn:o.guard=none:=by
      have:=hg.1
      unfold isNoneB at this
      split at this
      ·assumption
      ·cases this
     split at h
     ·cases h
     ·rename_i x ob1 hx
      split at h
      ·cases h
      ·rename_i σ2 ob2 ds2 h1
       simp only [Option.some.injEq,Prod.mk.injEq] at h
       obtain ⟨rfl,rfl,rfl⟩:=h
       rw [List.cons_append]
       refine sym_op hx ho hgn hd hst hC hW hB (fun t ht=>hob t (sym_mem l _ _ h1 t (List.mem_append_left _ ht))) fun v w' bs' h2 h3 h4=>?_
       refine sym_run l _ _ h1 hob _ w' bs' (by rw [← hn];simp [Act.put]) ((hst.keep h3).put (by rw [hn];exact hg.2) h4) h2 (hW.trans (h3.mono hW.size)) hB ?_
       intro vs w2 bs2 hl h5 h6 h7
       exact H (v :: vs) w2 bs2 (by simp [hl]) h5 (h3.trans (h6.mono h3.size)) h7
    ·cases h
def symSg (kf:Nat → Value) (ops:Array Oper) (n:Nat) (l:List Nat) (σ:Sg):Sg:=match symRun kf ops n l σ [] with
 | some (σ',_,_)=>σ'
 | none=>[]
def symOb (kf:Nat → Value) (ops:Array Oper) (n:Nat) (l:List Nat) (σ:Sg):List Ob:=match symRun kf ops n l σ [] with
 | some (_,ob,_)=>ob
 | none=>[]
def symDs (kf:Nat → Value) (ops:Array Oper) (n:Nat) (l:List Nat) (σ:Sg):List Nat:=match symRun kf ops n l σ [] with
 | some (_,_,ds)=>ds
 | none=>[]
theorem puts_size:∀ (ds:List Nat) (vs:List Value) (a:Act),(puts a ds vs).tmps.size=a.tmps.size
 | [],vs,a=>by rw [puts];intro _ _ _ _ h;cases h
 | d :: ds,[],a=>by rw [puts];intro _ _ _ _ _ h;cases h
 | d :: ds,v :: vs,a=>by rw [puts,puts_size ds vs];simp [Act.put]
theorem sym_go {kf:Nat → Value} {ops:Array Oper} {n:Nat} {Q:Exit → Act → World → Prop} {T:Nat → Prop} {w0:World} {B:Nat} {rest:List Nat} (l:List Nat) (σ:Sg) (h:(symRun kf ops n l σ []).isSome=true) (a:Act) (w:World) (bs:Nat → Prop)
  (hn:a.tmps.size=n) (hst:StOk T w0 w B σ a) (hC:Exc T w0 w) (hW:Below w0.heap.size w0 w) (hB:B≤w0.heap.size)
  (hob:∀ t ∈ symOb kf ops n l σ,ObOk kf t)
  (H:∀ vs w' bs',vs.length=(symDs kf ops n l σ).length → Exc T w0 w' → Below w.heap.size w w' → StOk T w0 w' B (symSg kf ops n l σ) (puts a (symDs kf ops n l σ) vs) → WX Tryz.prog ops (Exc T w0) w0.heap.size Q rest bs' (puts a (symDs kf ops n l σ) vs) w'):WX Tryz.prog ops (Exc T w0) w0.heap.size Q (l ++ rest) bs a w:=by
 cases hr:symRun kf ops n l σ [] with
 | none=>rw [hr] at h;cases h
 | some r =>
  obtain ⟨σ',ob',ds⟩:=r
  have e1:symSg kf ops n l σ=σ':=by unfold symSg;rw [hr]
  have e2:symOb kf ops n l σ=ob':=by unfold symOb;rw [hr]
  have e3:symDs kf ops n l σ=ds:=by unfold symDs;rw [hr]
  rw [e2] at hob
  rw [e1,e3] at H
  exact sym_run l σ [] hr hob a w bs hn hst hC hW hB H
theorem puts_def:∀ (ds:List Nat) (vs:List Value) (a:Act),(puts a ds vs).defers=a.defers
 | [],vs,a=>by rw [puts];intro _ _ _ _ h;cases h
 | d :: ds,[],a=>by rw [puts];intro _ _ _ _ _ h;cases h
 | d :: ds,v :: vs,a=>by rw [puts,puts_def ds vs];simp [Act.put]
theorem ruS_made {w:World} {B b n:Nat} {xs:List RuV} (hbo:w.heap[b]?=some (.cells (xs.flatMap ruCells).toArray 32)) (hB:B≤b) (hn:xs.length=n) (hm:n≤1000) (hall:RuAllO w B xs):RuS w B (.slice (some ⟨b,0,none⟩) n n) xs:=by
 subst hn
 have hl:=flat_length ruCells_len xs
 exact ⟨⟨hl,.inr ⟨b,_,_,rfl,hB,hbo,Nat.le_refl _,by unfold maxLen;omega,by simpa using hl,List.take_of_length_le (by rw [List.toList_toArray,hl];exact Nat.le_refl _)⟩⟩,hall⟩
theorem sym_end {kf:Nat → Value} {ops:Array Oper} {n:Nat} {Q:Exit → Act → World → Prop} {T:Nat → Prop} {w0:World} {B:Nat} {rest:List Nat} (l:List Nat) (σ:Sg) (obs:List Ob) (fs:Sg) (h:(symRun kf ops n l σ []).isSome=true) (hobs:symOb kf ops n l σ=obs) (hfs:fs.map (fun x=>(symSg kf ops n l σ).lookup x.1)=fs.map (fun x=>some x.2)) (a:Act) (w:World) (bs:Nat → Prop)
  (hn:a.tmps.size=n) (hst:StOk T w0 w B σ a) (hC:Exc T w0 w) (hW:Below w0.heap.size w0 w) (hB:B≤w0.heap.size)
  (hob:∀ t ∈ obs,ObOk kf t)
  (H:∀ (A:Act) w' bs',A.tmps.size=n → A.defers=a.defers → Exc T w0 w' → Below w.heap.size w w' → (∀ x ∈ fs,SvOk T w0 w' B x.2 (A.eval (.tmp x.1))) → WX Tryz.prog ops (Exc T w0) w0.heap.size Q rest bs' A w'):WX Tryz.prog ops (Exc T w0) w0.heap.size Q (l ++ rest) bs a w:=by
 refine sym_go l σ h a w bs hn hst hC hW hB (hobs ▸ hob) ?_
 intro vs w' bs' hl h1 h2 h3
 refine H _ w' bs' ((puts_size _ _ _).trans hn) (puts_def _ _ _) h1 h2 ?_
 intro x hx
 refine h3 x.1 x.2 ?_
 have hm:∀ (L:Sg),L.map (fun x=>(symSg kf ops n l σ).lookup x.1)=L.map (fun x=>some x.2) → ∀ x ∈ L,(symSg kf ops n l σ).lookup x.1=some x.2:=by
  intro L
  induction L with
  | nil=>intro _ x hx;cases hx
  | cons y L ih =>
   intro he x hx
   simp only [List.map_cons,List.cons.injEq] at he
   rcases List.mem_cons.1 hx with rfl|hx
   ·exact he.1
   ·exact ih he.2 x hx
 exact hm fs hfs x hx
end Go.Proofs.YtbljmfcifljkaaaGreatDoor
