import Derived.Test.YtkhpobekconobaaGreatHAI
import Derived.Tactics2
import Derived.Defers
import Derived.Laws.Pointers
import Derived.Laws.LoneSync
import Derived.RegionTactic
import Derived.RegionCalls
import Derived.Laws.NewBlocks
import Derived.Deep.WholeRow
import Derived.Lib.AppendIntMem
import Derived.Lib.AppendZeros
import Derived.Lib.AppendZerosOnto
import Derived.KernelRfl
set_option linter.all false
set_option maxRecDepth 100000
set_option maxHeartbeats 0
namespace Go.Proofs.YtkhpobekconobaaGreat
def lf (k v:Int):Tr:=.leaf ⟨k,v,⟨#[]⟩⟩
def axT (k l m s n:Int):List (ByteArray×Tr×Tr) :=
 [(⟨#[99,111,112,121,97,115]⟩,(.seq (lf 3 0) (.par (lf 3 0) (lf 1 1))),(.seq (lf 3 0) (.par (lf 1 1) (lf 3 0)))),
  (⟨#[99,111,112,121,117,110]⟩,(.seq (lf 3 0) (.par (lf 4 0) (lf 1 1))),(lf 1 1)),
  (⟨#[99,111,112,121,99,109]⟩,(.seq (lf 3 0) (lf 2 0)),(lf 3 0)),
  (⟨#[97,100,100,97,115]⟩,(.seq (.par (lf 5 0) (lf 1 1)) (lf 5 0)),(.seq (.par (lf 1 1) (lf 5 0)) (lf 5 0))),
  (⟨#[97,100,100,117,110]⟩,(.seq (.par (lf 6 0) (lf 1 1)) (lf 5 0)),(lf 1 1)),
  (⟨#[97,100,100,99,109]⟩,(.seq (lf 2 0) (lf 5 0)),(lf 5 0)),
  (⟨#[97,100,100,99,111,112,121]⟩,(.seq (lf 5 0) (lf 3 0)),(.seq (.seq (.par (lf 3 0) (lf 3 0)) (.par (.par (lf 1 1) (lf 2 0)) (lf 1 1))) (.par (lf 5 0) (lf 5 0)))),
  (⟨#[97,100,100,100,105,115]⟩,(.seq (lf 5 0) (lf 4 0)),(.par (lf 4 0) (lf 4 0))),
  (⟨#[122,101,114,111,99,111,112]⟩,(.seq (lf 6 0) (lf 3 0)),(.par (lf 6 0) (lf 6 0))),
  (⟨#[122,101,114,111,100,105,115]⟩,(.seq (lf 6 0) (lf 4 0)),(lf 1 0)),
  (⟨#[115,99,111,110,101]⟩,(lf 7 1),(lf 1 1)),
  (⟨#[115,99,122,101,114,111]⟩,(lf 7 0),(.seq (lf 4 0) (lf 6 0))),
  (⟨#[115,99,109,117,108]⟩,(.seq (lf 7 k) (lf 7 l)),(lf 7 m)),
  (⟨#[115,99,97,100,100]⟩,(.seq (.seq (lf 3 0) (.par (lf 7 k) (lf 7 l))) (lf 5 0)),(lf 7 s)),
  (⟨#[115,99,116,104,114,117,97]⟩,(.seq (lf 5 0) (lf 7 k)),(.seq (.par (lf 7 k) (lf 7 k)) (lf 5 0))),
  (⟨#[115,99,116,104,114,117,99]⟩,(.seq (lf 7 k) (lf 3 0)),(.seq (lf 3 0) (.par (lf 7 k) (lf 7 k)))),
  (⟨#[115,99,100,105,115]⟩,(.seq (lf 7 k) (lf 4 0)),(lf 4 0)),
  (⟨#[122,101,114,111,115,99]⟩,(.seq (lf 6 0) (lf 7 k)),(lf 6 0)),
  (⟨#[102,114,111,98,99,111,112,121]⟩,(.seq (.par (lf 3 0) (lf 1 1)) (.par (lf 1 1) (lf 9 0))),(.seq (lf 9 0) (lf 3 0))),
  (⟨#[115,112,101,99,105,97,108]⟩,(.seq (lf 3 0) (lf 9 0)),(lf 1 1)),
  (⟨#[102,114,111,98,97,100,100]⟩,(.seq (.par (lf 11 0) (lf 1 1)) (.par (lf 1 1) (lf 5 0))),(.seq (lf 5 0) (lf 11 0))),
  (⟨#[97,100,100,115,112,101,99]⟩,(.seq (lf 11 0) (lf 5 0)),(lf 1 1)),
  (⟨#[98,111,110,101,99,111,112]⟩,(.seq (lf 10 0) (lf 4 0)),(lf 1 0)),
  (⟨#[98,111,110,101,97,100,100]⟩,(.seq (lf 6 0) (lf 12 0)),(lf 1 0)),
  (⟨#[97,100,100,99,97,112]⟩,(.seq (lf 5 0) (lf 12 0)),(.seq (.seq (.par (lf 1 1) (lf 7 n)) (lf 9 0)) (lf 4 0))),
  (⟨#[115,99,105,110,118]⟩,(.seq (lf 7 k) (lf 13 k)),(lf 1 1)),
  (⟨#[99,111,115,99,105,110,118]⟩,(.seq (lf 13 k) (lf 7 k)),(lf 1 1))]
def aek:List (ByteArray×ByteArray×ByteArray) :=
 [(⟨#[99,111,112,121,97,115]⟩,⟨#[99,111,112,121,32,59,32,40,99,111,112,121,32,42,32,105,100,32,49,41]⟩,⟨#[99,111,112,121,32,59,32,40,105,100,32,49,32,42,32,99,111,112,121,41]⟩),
  (⟨#[99,111,112,121,117,110]⟩,⟨#[99,111,112,121,32,59,32,40,100,105,115,99,97,114,100,32,42,32,105,100,32,49,41]⟩,⟨#[105,100,32,49]⟩),
  (⟨#[99,111,112,121,99,109]⟩,⟨#[99,111,112,121,32,59,32,115,119,97,112]⟩,⟨#[99,111,112,121]⟩),
  (⟨#[97,100,100,97,115]⟩,⟨#[40,97,100,100,32,42,32,105,100,32,49,41,32,59,32,97,100,100]⟩,⟨#[40,105,100,32,49,32,42,32,97,100,100,41,32,59,32,97,100,100]⟩),
  (⟨#[97,100,100,117,110]⟩,⟨#[40,122,101,114,111,32,42,32,105,100,32,49,41,32,59,32,97,100,100]⟩,⟨#[105,100,32,49]⟩),
  (⟨#[97,100,100,99,109]⟩,⟨#[115,119,97,112,32,59,32,97,100,100]⟩,⟨#[97,100,100]⟩),
  (⟨#[97,100,100,99,111,112,121]⟩,⟨#[97,100,100,32,59,32,99,111,112,121]⟩,⟨#[40,40,99,111,112,121,32,42,32,99,111,112,121,41,32,59,32,40,40,105,100,32,49,32,42,32,115,119,97,112,41,32,42,32,105,100,32,49,41,41,32,59,32,40,97,100,100,32,42,32,97,100,100,41]⟩),
  (⟨#[97,100,100,100,105,115]⟩,⟨#[97,100,100,32,59,32,100,105,115,99,97,114,100]⟩,⟨#[100,105,115,99,97,114,100,32,42,32,100,105,115,99,97,114,100]⟩),
  (⟨#[122,101,114,111,99,111,112]⟩,⟨#[122,101,114,111,32,59,32,99,111,112,121]⟩,⟨#[122,101,114,111,32,42,32,122,101,114,111]⟩),
  (⟨#[122,101,114,111,100,105,115]⟩,⟨#[122,101,114,111,32,59,32,100,105,115,99,97,114,100]⟩,⟨#[105,100,32,48]⟩),
  (⟨#[115,99,111,110,101]⟩,⟨#[115,99,97,108,101,32,49]⟩,⟨#[105,100,32,49]⟩),
  (⟨#[115,99,122,101,114,111]⟩,⟨#[115,99,97,108,101,32,48]⟩,⟨#[100,105,115,99,97,114,100,32,59,32,122,101,114,111]⟩),
  (⟨#[115,99,109,117,108]⟩,⟨#[115,99,97,108,101,32,75,32,59,32,115,99,97,108,101,32,76]⟩,⟨#[115,99,97,108,101,32,77]⟩),
  (⟨#[115,99,97,100,100]⟩,⟨#[40,99,111,112,121,32,59,32,40,115,99,97,108,101,32,75,32,42,32,115,99,97,108,101,32,76,41,41,32,59,32,97,100,100]⟩,⟨#[115,99,97,108,101,32,83]⟩),
  (⟨#[115,99,116,104,114,117,97]⟩,⟨#[97,100,100,32,59,32,115,99,97,108,101,32,75]⟩,⟨#[40,115,99,97,108,101,32,75,32,42,32,115,99,97,108,101,32,75,41,32,59,32,97,100,100]⟩),
  (⟨#[115,99,116,104,114,117,99]⟩,⟨#[115,99,97,108,101,32,75,32,59,32,99,111,112,121]⟩,⟨#[99,111,112,121,32,59,32,40,115,99,97,108,101,32,75,32,42,32,115,99,97,108,101,32,75,41]⟩),
  (⟨#[115,99,100,105,115]⟩,⟨#[115,99,97,108,101,32,75,32,59,32,100,105,115,99,97,114,100]⟩,⟨#[100,105,115,99,97,114,100]⟩),
  (⟨#[122,101,114,111,115,99]⟩,⟨#[122,101,114,111,32,59,32,115,99,97,108,101,32,75]⟩,⟨#[122,101,114,111]⟩),
  (⟨#[102,114,111,98,99,111,112,121]⟩,⟨#[40,99,111,112,121,32,42,32,105,100,32,49,41,32,59,32,40,105,100,32,49,32,42,32,99,111,99,111,112,121,41]⟩,⟨#[99,111,99,111,112,121,32,59,32,99,111,112,121]⟩),
  (⟨#[115,112,101,99,105,97,108]⟩,⟨#[99,111,112,121,32,59,32,99,111,99,111,112,121]⟩,⟨#[105,100,32,49]⟩),
  (⟨#[102,114,111,98,97,100,100]⟩,⟨#[40,99,111,97,100,100,32,42,32,105,100,32,49,41,32,59,32,40,105,100,32,49,32,42,32,97,100,100,41]⟩,⟨#[97,100,100,32,59,32,99,111,97,100,100]⟩),
  (⟨#[97,100,100,115,112,101,99]⟩,⟨#[99,111,97,100,100,32,59,32,97,100,100]⟩,⟨#[105,100,32,49]⟩),
  (⟨#[98,111,110,101,99,111,112]⟩,⟨#[99,111,100,105,115,99,97,114,100,32,59,32,100,105,115,99,97,114,100]⟩,⟨#[105,100,32,48]⟩),
  (⟨#[98,111,110,101,97,100,100]⟩,⟨#[122,101,114,111,32,59,32,99,111,122,101,114,111]⟩,⟨#[105,100,32,48]⟩),
  (⟨#[97,100,100,99,97,112]⟩,⟨#[97,100,100,32,59,32,99,111,122,101,114,111]⟩,⟨#[40,40,105,100,32,49,32,42,32,115,99,97,108,101,32,78,41,32,59,32,99,111,99,111,112,121,41,32,59,32,100,105,115,99,97,114,100]⟩),
  (⟨#[115,99,105,110,118]⟩,⟨#[115,99,97,108,101,32,75,32,59,32,99,111,115,99,97,108,101,32,75]⟩,⟨#[105,100,32,49]⟩),
  (⟨#[99,111,115,99,105,110,118]⟩,⟨#[99,111,115,99,97,108,101,32,75,32,59,32,115,99,97,108,101,32,75]⟩,⟨#[105,100,32,49]⟩)]
def apn (k:Int):Int:=if 3<=k/\k<=8 then k+6 else if 9<=k/\k<=14 then k-6 else k
def Tr.SY:Tr->Tr
 | .leaf n=>.leaf ⟨apn n.kind,n.value,n.name⟩
 | .seq a b=>.seq b.SY a.SY
 | .par a b=>.par a.SY b.SY
def bM:ByteArray:=⟨#[109]⟩
open Go.RowKit
theorem ahY (v:Value) (ns:List Nd) (n:Nd) (w:World) (hv:dG w v (ns++[n])) (hl:ns.length<=100000):Calls Tryz.prog 106 #[.agg #[v]] w λe w'=>e=.returned (.int .i64 n.kind)/\Below w.heap.size w w':=by
 obtain⟨a,cap,rfl,hc,hat⟩:=hv;have hln:(ns++[n]).length=ns.length+1:=by simp
 obtain⟨b,o,rfl,hlt,n0,n1,n2⟩:=hat ns.length (by rw[hln];omega);have e9:(ns++[n])[ns.length]'hlt=n:=by simp
 rw[e9]at n0;rw[hln];have e1:IntKind.i64.wrap ((ns.length:Int)+1-1)=(ns.length:Int):=by rw[show(ns.length:Int)+1-1=(ns.length:Int)by omega];exact Z8 _ (by omega)
 have hz:=cell_lt n0;clear hat hln e9 hc n1 n2 hlt;go_enter Tryz.func106,Tryz.ntmps106;go_wp2;go_ret;exact⟨rfl,aH _ _⟩
def apo:List Nat:=[75,76,77,83,78]
structure apq (w:World) (v:Value) (xs:List ByteArray):Prop where
 len:xs.length=5
 at':∃g o c,v=.slice (some ⟨g,o,none⟩) 10 c/\10<=c/\∀k,∀h:k<5,w.cell? ⟨g,o+2*k,none⟩=some (.string ⟨#[UInt8.ofNat (apo.getD k 0)]⟩)/\w.cell? ⟨g,o+(2*k+1),none⟩=some (.string (xs[k]'(by omega)))
def apr (n:Nat) (f:Nat->Value):Array Value:=(Array.range n).map f
def TabAt (w:World) (tb:Nat) (t:TypeId) (n:Nat) (f:Nat->Value):Prop:=w.heap[tb]?=some (.cells (apr n f) t (0,0))
theorem addr_add (g o j:Nat):(⟨g,o,none⟩:Addr).add j=⟨g,o+j,none⟩:=by
 unfold Addr.add;split<;>simp_all
structure avH (w:World) (b:Nat) (v:Value) (xs:List ByteArray):Prop where
 c0:w.cell? ⟨b,0,none⟩=some (.int .u32 0)
 c1:w.cell? ⟨b,1,none⟩=some (.int .i32 0)
 c3:w.cell? ⟨b,3,none⟩=some .nilIface
 c4:w.cell? ⟨b,4,none⟩=some v
 fz:∀j,w.frozen? ⟨b,j,none⟩=false
 on:apq w v xs
def avI (w:World) (B:Nat) (ys:List Nj):Prop:=(∀y∈ys,jA w B y.2.1 y.1.left/\jA w B y.2.2 y.1.right/\Apart y.2.1 y.2.2)/\ys.Pairwise ahO
theorem aps (n:Nd):FU [] n=fZ n:=by
 unfold FU;by_cases h:n.kind=17
 ·rw[ZE h];unfold fZ;by_cases he:n.name=ByteArray.empty
  ·rw[ZH (by simp[he]),ZH (by omega),ZH (by omega),ZH (by omega)];rfl
  ·rw[ZE he];rfl
 ·rw[ZH h]
theorem apt (v:Value) (ns:List Nd) (L:List Df) (hLe:L=[]) (w:World) (hv:dG w v ns) (hn:ns.length<=1048576) (hs:∀d∈ns,d.name.size<=1048576) :
  Calls Tryz.prog 154 #[v,.func (.func 155) #[] #[]] w (ahR L ns w):=by
 have hsm:∀d∈L,Sm (d.inn,d.out):=by subst hLe;simp
 have rC:∀n,FU L n=fZ n:=by subst hLe;exact aps
 have HTY:=Za rC;clear hLe rC;obtain⟨a,cap,rfl,hc,hat⟩:=hv;by_cases hl:1<=ns.length/\ns.length<=400
 ·have g1:inB ns.length 1 400=true:=by simp[inB];omega
  go_enter Tryz.func154,Tryz.ntmps154;go_wp2_with (go_at_call 70;refine(rG _ _ _ _).mono ?_;rintro e w1⟨rfl,rfl⟩)
  have acj:∀n x,jJ L n=some x->Sm x:=λn x h=>aoH hsm h;obtain⟨i0,hi,hz0,hz1,hz2⟩:=Yg aoG;go_loopw [6,22] (λv i wr=>∃(k:Nat) (st:List W2),k<=ns.length/\i=.int .i64 k/\Pg L ns w wr v k st) (λ_ i _=>ns.length-(intOf i).toNat)
  case atStart =>
   refine⟨0,[],Zw _,rfl,⟨?_,by simp⟩,(by simp[Hid]:Hid (eX (jJ L) ns []=eX (jJ L) (ns.drop 0) ([]:List W2).reverse)),(Zl _ _).alloc (by simp[DI]) _,Zj _,.inl rfl⟩;have:=World.ownsRow_lit (base:=w.heap.size+1) (size:=2) (e:=189) (DI w) #[] 0 (by simp[DI]) (by unfold maxLen;omega) rfl;simpa[DI]using this
  case round =>
   obtain⟨k,st,hk,rfl,hst⟩:=hrel;obtain⟨r0,r1,S9,S_,hsz,aI⟩:=hst.facts;by_cases hlt:k<ns.length
   ·obtain⟨b,o,rfl,_,dI⟩:=hat k hlt;obtain⟨c0,c1,c2⟩:=dI.keep aI;have lu:=hs ns[k] (Zp _);clear hat dI hs;by_cases uZ:ns[k].kind=15\/ns[k].kind=16
    ·have F6:=ZN hlt;have Ph:=hst.2.1;have mX:((ns[k].kind != 15)=false)\/((ns[k].kind != 15)=true/\(ns[k].kind != 16)=false):=by
      rcases uZ with h|h<;>simp[h]
     by_cases hval:ns[k].value=0/\ns[k].name=ByteArray.empty
     ·obtain⟨hv0,CO⟩:=hval;have gv:(ns[k].value != 0)=false:=by simp[hv0]
      have gn:(!ns[k].name.toList.isEmpty)=false:=by have:=(Yq _).2 CO;simp[this]
      by_cases hlen:st.length<2
      ·have HT:Hid (bP (jJ L) ns=none):=(show bP (jJ L) ns=none by
        unfold bP;rw[ZE hl,Ph.out,F6,agQ uZ (by simpa using hlen)])
       have gl:(st.length:Int)<2:=by omega
       obtain⟨ao,cp,rfl⟩:=acf hst.1.1;clear hv0 CO F6 Ph uZ hst;rcases mX with gk|⟨gk,Pj⟩
       all_goals
        go_wp2;refine Zt (v:=.tuple #[.agg #[.int .i64 0,.int .i64 0],.bool false]) (by simp[results,Tryz.results154,go_sem,hsz,r0,r1]) rfl ⟨(0,0),by rw[HT.out];rfl,by rw[HT.out];simp,?_⟩
        (repeat(first|(with_reducible refine Xh ?_ ?_ _;rotate_left;(first|omega|(simp;done)|(simp;omega)))|(with_reducible refine YI ?_ ?_ _;rotate_left;(first|exact Zj _|(simp;done)|(simp;omega)))|(with_reducible refine XQ ?_)));exact aI
      ·obtain⟨st0,p,q,rfl⟩:=aoJ st hlen;obtain⟨g,cp,rfl,hgc,F7,wR,kH⟩:=aar hst.1.1 (by simp);simp only[Zk,Yv,Y6,Yp,Nat.reduceAdd]at hst hgc;have F8:Sm p/\Sm q:=⟨hst.1.2 p (by simp),hst.1.2 q (by simp)⟩
       have Aw:wr.ownsRow (w.heap.size+1) 189 2 (.slice (some ⟨g,0,none⟩) (st0.length+2) cp) (st0.length+2) ((st0++[p,q]).flatMap J8):=by
        have h0:=hst.1.1;rw[show(st0++[p,q]).length=st0.length+2 by simp]at h0;exact h0
       have d0:=mV O_ Aw st0.length 0 (by simp) (by omega);have d1:=mV O_ Aw st0.length 1 (by simp) (by omega);have d2:=mV O_ Aw (st0.length+1) 0 (by simp) (by omega);have d3:=mV O_ Aw (st0.length+1) 1 (by simp) (by omega);simp[J8]at d0 d1 d2 d3;have gl:¬((st0.length:Int)+2)<2:=by omega
       have hl0:st0.length<=1048576:=by have:=hst.2.2.2.1;simp at this;omega
       have aat:∀x,og ns[k].kind p q=some x->Hid (eX (jJ L) ns []=eX (jJ L) (ns.drop (k+1)) (x::st0.reverse)):=λx hx=>(show eX (jJ L) ns []=_ by
        rw[Ph.out,F6];have e:(st0++[p,q]).reverse=q::p::st0.reverse:=by simp
        rw[e,agS uZ hv0 CO hx])
       have aau:og ns[k].kind p q=none->Hid (bP (jJ L) ns=none):=λhx=>(show bP (jJ L) ns=none by
        unfold bP;have e:(st0++[p,q]).reverse=q::p::st0.reverse:=by simp
        rw[ZE hl,Ph.out,F6,e,agR uZ hx])
       have ahZ:=aoC ns[k].kind p q;have HH:=Zb aat aau;have HJ:=Za (Zb HH ahZ);clear hv0 CO F6 Ph uZ HH ahZ aat aau;rcases mX with gk|⟨gk,Pj⟩
       all_goals
        go_wp2_with fail
        have e1:IntKind.i64.wrap ((st0.length:Int)+2-1-1)=(st0.length:Int):=by rw[show(st0.length:Int)+2-1-1=(st0.length:Int)by omega];exact Z8 _ (by omega)
        have e2:((st0.length:Int)+2-1).toNat=st0.length+1:=by omega
        have e3:0<=(st0.length:Int)+2-1/\(st0.length:Int)+2-1<(st0.length:Int)+2:=by omega
        have e4:0<=(st0.length:Int)/\(st0.length:Int)<(st0.length:Int)+2:=by omega
        have e5:1<=(st0.length:Int)+2:=by omega
        refine h_ (C:=aC (dD) _) 2 [0,1,2,3,4,5,6,7,8,9,10,11,12,13,14,15,16,17] (by kernel_rfl) (by kernel_rfl) (aC.aJ _ _) (aC.refl _ _) ?_;iterate 11 (apply dh rfl rfl rfl;(focus intro u hc' hf';go_simp<;>rfl);intro K hK;go_simp;apply hK;clear hK K)
        refine fD rfl rfl rfl (aC.aJ _ _) (aC.refl _ _) 173 (λK hK=>?_);apply Zq;refine⟨λw' hw'=>?_,λw' hw' dF=>?_⟩;(focus go_simp;rfl);refine(aoD _ p q _ F8.1 F8.2).mono ?_;rintro e w3⟨rfl,hb3⟩;refine⟨_,rfl,hb3,λhx=>?_⟩;go_simp;apply hK;clear hK K;iterate 3 (apply dh rfl rfl rfl;(focus intro u hc' hf';go_simp<;>rfl);intro K hK;go_simp;apply hK;clear hK K)
        refine ku rfl rfl rfl (aC.aJ _ _) hx (λb=>.pointer (some ⟨b,0,none⟩)) (λK hK=>?_);apply Zq;refine⟨λw' hw'=>?_,λbb w4 hw4 hb4 aW hNb d_=>?_⟩
        ·go_simp;rfl
        go_simp;refine hK _ _ _ ?_;clear hK K;refine jd rfl rfl rfl (aC.aJ _ _) hw4 (λK hK=>?_);intro w5 gu bH;obtain⟨m0,m1,m2⟩:=made_cell ((bH.block bb (made_cell aW).2.2).trans aW);refine⟨(w5.setCell ⟨bb,0,none⟩ (.int .i64 (mM ns[k].kind p q).1.1)).setCell ⟨bb,1,none⟩ (.int .i64 (mM ns[k].kind p q).1.2),?_,⟨bF (bF gu (.inl hNb) _) (.inl hNb) _,by simp,λj _ hj _=>by rw[Zm _ _ _ _ (λh=>hj (by simp[h])),Zm _ _ _ _ (λh=>hj (by simp[h]))]⟩,?_⟩
        ·go_simp
        go_simp;refine hK _ _ _ ?_;clear hK K;iterate 1 (apply dh rfl rfl rfl;(focus intro u hc' hf';go_simp<;>rfl);intro K hK;go_simp;apply hK;clear hK K)
        refine dR ?_;have aV:Below wr.heap.size wr ((w5.setCell ⟨bb,0,none⟩ (.int .i64 (mM ns[k].kind p q).1.1)).setCell ⟨bb,1,none⟩ (.int .i64 (mM ns[k].kind p q).1.2)):=by
         have h0:wr.heap.size<=bb:=by simp at hNb;omega
         exact(((((Zl _ _).alloc (Zj _) _).drew.trans (gu.toBelow.mono (by simp))).setCell h0 _).setCell h0 _)
        have n0:((w5.setCell ⟨bb,0,none⟩ (.int .i64 (mM ns[k].kind p q).1.1)).setCell ⟨bb,1,none⟩ (.int .i64 (mM ns[k].kind p q).1.2)).cell? ⟨bb,0,none⟩=some (.int .i64 (mM ns[k].kind p q).1.1):=by go_simp
        have n1:((w5.setCell ⟨bb,0,none⟩ (.int .i64 (mM ns[k].kind p q).1.1)).setCell ⟨bb,1,none⟩ (.int .i64 (mM ns[k].kind p q).1.2)).cell? ⟨bb,1,none⟩=some (.int .i64 (mM ns[k].kind p q).1.2):=by go_simp
        have wu:wr.heap.size<=bb:=by simp at hNb;omega
        have acn:bb<((w5.setCell ⟨bb,0,none⟩ (.int .i64 (mM ns[k].kind p q).1.1)).setCell ⟨bb,1,none⟩ (.int .i64 (mM ns[k].kind p q).1.2)).heap.size:=by simpa using m2
        generalize(w5.setCell ⟨bb,0,none⟩ (.int .i64 (mM ns[k].kind p q).1.1)).setCell ⟨bb,1,none⟩ (.int .i64 (mM ns[k].kind p q).1.2)=w6 at aV n0 n1 acn;obtain⟨hc6,hf6,II⟩:=n_ aV;have q0:=hc6 w.heap.size 0 hsz;have q1:=hc6 w.heap.size 1 hsz;rw[r0]at q0;rw[r1]at q1;have hz6:w.heap.size<w6.heap.size:=by omega
        clear hw4 hb4 aW hNb gu bH m0 m1 m2 hx hb3;cases gV:(mM ns[k].kind p q).2
        ·have HT:Hid (bP (jJ L) ns=none):=HJ.out.1.2 (by rw[<-HJ.out.2,ZH (by simp[gV])]);clear HJ gV;go_wp2;refine Zt (v:=.tuple #[.agg #[.int .i64 0,.int .i64 0],.bool false]) (by simp[results,Tryz.results154,go_sem,hz6,q0,q1]) rfl ⟨(0,0),by rw[HT.out];rfl,by rw[HT.out];simp,?_⟩
         (repeat(first|(with_reducible refine Xh ?_ ?_ _;rotate_left;(first|omega|(simp;done)|(simp;omega)))|(with_reducible refine YI ?_ ?_ _;rotate_left;(first|exact Zj _|(simp;done)|(simp;omega)))|(with_reducible refine XQ ?_)));exact aI.trans (aV.mono (by omega))
        ·have CP:og ns[k].kind p q=some (mM ns[k].kind p q).1:=by rw[<-HJ.out.2,ZE gV]
         have hgo:=HJ.out.1.1 _ CP;have J_:=aoI F8.1 F8.2 CP;clear HJ gV CP;generalize(mM ns[k].kind p q).1=x at *;have e6:0<=(st0.length:Int)/\(st0.length:Int)<=(cp:Int):=by omega
         have hbg:¬bb=g:=by omega
         have ah0:w6.ownsRow (w.heap.size+1) 189 2 (.slice (some ⟨g,0,none⟩) st0.length cp) st0.length (st0.flatMap J8):=by
          have h0:=ahQ (jL aV Aw) st0.length (by omega);rw[ZL,List.take_left' (by have:=flat_length O_ st0;omega)]at h0;exact h0
         go_wp2_with fail
         refine h_ (C:=aC ((λj=>j=g)) _) 2 [0,1,2,3,4,5,6,7] (by kernel_rfl) (by kernel_rfl) (aC.aJ _ _) (aC.refl _ _) ?_;iterate 4 (apply i_ rfl rfl rfl;(focus intro u hc' hf';(try simp only[Zo]at hc' hf');go_simp<;>rfl);intro K hK;go_simp;apply hK;clear hK K)
         refine Ir rfl rfl rfl (λK hK=>?_);apply Zq;refine⟨λw' hw'=>?_,?_⟩
         ·obtain⟨hc9,hf9⟩:=hw'.cell;have hq:=hc9 bb 0 (by simp;exact acn) hbg;have rQ:=hc9 bb 1 (by simp;exact acn) hbg;go_simp;rfl
         go_simp;refine hK _ _ _ ?_;clear hK K;refine ku rfl rfl rfl (aC.aJ _ _) (aC.refl _ _) (λb=>.slice (some ⟨b,0,none⟩) 1 1) (λK hK=>?_);apply Zq;refine⟨λw' hw'=>?_,λb7 w7 f_ dA aW hNb d_=>?_⟩
         ·go_simp;rfl
         go_simp;refine hK _ _ _ ?_;clear hK K;refine anz rfl rfl rfl f_ _ _ 228 rfl (w.heap.size+1) 189 i0 2 Tryz.underlying228 hi hz1 g st0.length cp (st0.flatMap J8) rfl (by simp;omega) rfl ⟨b7,0,none⟩ 1 1 [.int .i64 x.1,.int .i64 x.2] rfl rfl ?c1 (by omega) ?c2 ?_
         case c1=>intro u hu;simp at hu;rcases hu with rfl|rfl<;>rfl
         case c2 =>
          intro w8 dY bJ;refine⟨jL bJ (jL dA ah0.drew),?_⟩;obtain⟨m0,m1,m2⟩:=made_cell ((bJ.block b7 (made_cell aW).2.2).trans aW);intro j u hj
          match j,hj with
          | 0,hj=>simp at hj;subst hj;simp[Addr.add,m0]
          | 1,hj=>simp at hj;subst hj;simp[Addr.add,m0]
         intro K hK w8 w9 dY bJ aav ah1 Pm;go_simp;refine hK _ _ _ ?_;clear hK K;iterate 1 (apply i_ rfl rfl rfl;(focus intro u hc' hf';(try simp only[Zo]at hc' hf');go_simp<;>rfl);intro K hK;go_simp;apply hK;clear hK K)
         refine dR ?_;have dX:Below (w.heap.size+1) wr w9:=(((aV.mono (by omega)).drew.trans (dA.mono (by simp;omega))).trans (bJ.mono (by have:=dA.size;simp at this;omega))).grown ah1 (by have:=dA.size;have:=bJ.size;simp at *;omega) (λj hj=>by cases hj;omega);have ou:=aoL hst hgo J_ dX aav;clear hst hgo J_ dX aav ah1 Pm bJ dY dA f_ ah0 Aw;go_wp2;go_roundw
         case rel=>exact⟨k+1,_,by omega,by go_num,ou⟩
         case measure=>simp[intOf];omega
     ·have HT:Hid (bP (jJ L) ns=none):=(show bP (jJ L) ns=none by
       unfold bP;rw[ZE hl,Ph.out,F6,agP uZ hval])
      have IJ:(ns[k].value != 0)=true\/((ns[k].value != 0)=false/\(!ns[k].name.toList.isEmpty)=true):=by
       by_cases h0:ns[k].value=0
       ·exact .inr ⟨by simp[h0],by simpa using λh=>hval ⟨h0,(Yq _).1 h⟩⟩
       ·exact .inl (by simp[h0])
      clear hval F6 Ph uZ hst;rcases mX with gk|⟨gk,Pj⟩<;>rcases IJ with gv|⟨gv,gv'⟩
      all_goals
       go_wp2;refine Zt (v:=.tuple #[.agg #[.int .i64 0,.int .i64 0],.bool false]) (by simp[results,Tryz.results154,go_sem,hsz,r0,r1]) rfl ⟨(0,0),by rw[HT.out];rfl,by rw[HT.out];simp,?_⟩
       (repeat(first|(with_reducible refine Xh ?_ ?_ _;rotate_left;(first|omega|(simp;done)|(simp;omega)))|(with_reducible refine YI ?_ ?_ _;rotate_left;(first|exact Zj _|(simp;done)|(simp;omega)))|(with_reducible refine XQ ?_)));exact aI
    ·have g15:(ns[k].kind != 15)=true:=by simp;omega
     have g16:(ns[k].kind != 16)=true:=by simp;omega
     have AU:=anP ns[k];rw[<-HTY.out ns[k]]at AU;cases aP:(FU L ns[k]).2
     ·have HT:Hid (bP (jJ L) ns=none):=(show bP (jJ L) ns=none by
       unfold bP;rw[ZE hl,hst.2.1.out,ZN hlt,abH uZ (by simp[jJ,aP])])
      have jf:=Za aP;clear aP uZ;go_wp2_with (go_at_call 155;refine(AU _).mono ?_;rintro e w2⟨rfl,hb2⟩;rw[jf.out];obtain⟨hc2,hf2,hs2⟩:=n_ hb2;have q0:=aK hb2 (agO r0 _);have q1:=aK hb2 (agO r1 _);simp only[Zn]at hs2 hb2;have hz2:w.heap.size<w2.heap.size:=by omega)
      refine Zt (v:=.tuple #[.agg #[.int .i64 0,.int .i64 0],.bool false]) (by simp[results,Tryz.results154,go_sem,hz2,q0,q1]) rfl ⟨(0,0),by rw[HT.out];rfl,by rw[HT.out];simp,?_⟩
      (repeat(first|(with_reducible refine Xh ?_ ?_ _;rotate_left;(first|omega|(simp;done)|(simp;omega)))|(with_reducible refine YI ?_ ?_ _;rotate_left;(first|exact Zj _|(simp;done)|(simp;omega)))|(with_reducible refine XQ ?_)));exact(aI.alloc (by omega) _).trans (hb2.mono (by omega))
     ·have qh:jJ L ns[k]=some (FU L ns[k]).1:=by simp[jJ,aP]
      have hx:=acj _ _ qh;have hgo:Hid (eX (jJ L) ns []=eX (jJ L) (ns.drop (k+1)) ((FU L ns[k]).1::st.reverse)):=(show eX (jJ L) ns []=_ by
       rw[hst.2.1.out,ZN hlt,abI uZ qh])
      have jf:=Za aP;clear aP uZ qh;obtain⟨x,vF⟩:∃x,(FU L ns[k]).1=x:=⟨_,rfl⟩
      rw[vF]at hx hgo;have HX:=Za vF;clear vF;have Aw:=hst.1.1;have avJ:=hst.2.2.2.1;go_wp2_with (first|(go_at_call 155;refine(AU _).mono ?_;rintro e w2⟨rfl,hb2⟩;rw[jf.out,HX.out];have hown2:=jL hb2 (Aw.alloc _);have apu:=hb2.size;simp only[Zn]at apu)|(at_builtin;refine wpList_append_own _ rfl _ _ 228 rfl (w.heap.size+1) 189 i0 _ 2 16 Tryz.underlying228 hi hz0 hz1 hz2 rfl (by decide) _ _ _ rfl ((hown2.alloc _).alloc _) ⟨w2.heap.size+1,0,none⟩ 1 1 [.int .i64 x.1,.int .i64 x.2] rfl rfl ?c1 ?c2 ?c3 ?c4 ?c5 ?_))
      case c1 =>
       intro j u hj
       match j,hj with
       | 0,hj=>simp at hj;subst hj;simp[Addr.add]
       | 1,hj=>simp at hj;subst hj;simp[Addr.add]
      case c2=>intro u hu;simp at hu;rcases hu with rfl|rfl<;>rfl
      case c3=>unfold maxLen;omega
      case c4=>omega
      case c5=>simp;omega
      intro v' w3 MQ hgrow _;have kV:=aoK hst hgo hx hb2 MQ hgrow;clear MQ hgrow hown2 Aw hb2 hst hgo;go_wp2;go_roundw
      case rel=>exact⟨k+1,_,by omega,by go_num,kV⟩
      case measure=>simp[intOf];omega
   ·have Ar:k=ns.length:=by omega
    subst Ar;have hne:st≠[]:=hst.2.2.2.2.resolve_left (by omega);obtain⟨x,st1,rfl⟩:=List.exists_cons_of_ne_nil hne;obtain⟨g,cp,rfl,hgc,F7,wR,kH⟩:=aar hst.1.1 (by simp);have d0:=mV O_ hst.1.1 0 0 (by simp) (by omega);have d1:=mV O_ hst.1.1 0 1 (by simp) (by omega);simp[J8]at d0 d1;have hgo:=hst.2.1.out;rw[WJ]at hgo;clear hne hat hst;rcases st1 with _|⟨y,st1⟩
    ·have HT:Hid (bP (jJ L) ns=some x):=(show bP (jJ L) ns=some x by
      unfold bP;rw[ZE hl,hgo];rfl)
     clear hgo;go_wp2;refine Zt (v:=.tuple #[.agg #[.int .i64 x.1,.int .i64 x.2],.bool true]) (by simp[results,Tryz.results154,go_sem,hsz,r0,r1,S9,S_]) rfl ⟨x,by rw[HT.out];rfl,by rw[HT.out];simp,?_⟩
     (repeat(first|(with_reducible refine Xh ?_ ?_ _;rotate_left;(first|omega|(simp;done)|(simp;omega)))|(with_reducible refine YI ?_ ?_ _;rotate_left;(first|exact Zj _|(simp;done)|(simp;omega)))|(with_reducible refine XQ ?_)));exact aI
    ·have HT:Hid (bP (jJ L) ns=none):=(show bP (jJ L) ns=none by
      unfold bP;rw[ZE hl,hgo];have e:(x::y::st1).reverse=st1.reverse++[y,x]:=by simp
      rw[e];rcases st1.reverse with _|⟨a,_|⟨b,r⟩⟩<;>rfl)
     clear hgo;go_wp2;refine Zt (v:=.tuple #[.agg #[.int .i64 x.1,.int .i64 x.2],.bool false]) (by simp[results,Tryz.results154,go_sem,hsz,r0,r1,S9,S_];omega) rfl ⟨x,by rw[HT.out];rfl,by rw[HT.out];simp,?_⟩
     (repeat(first|(with_reducible refine Xh ?_ ?_ _;rotate_left;(first|omega|(simp;done)|(simp;omega)))|(with_reducible refine YI ?_ ?_ _;rotate_left;(first|exact Zj _|(simp;done)|(simp;omega)))|(with_reducible refine XQ ?_)));exact aI
 ·have g1:inB ns.length 1 400=false:=by simp[inB];omega
  have HT:=Za (show bP (jJ L) ns=none by unfold bP;rw[ZH hl]);go_enter Tryz.func154,Tryz.ntmps154;go_wp2_with (go_at_call 70;refine(rG _ _ _ _).mono ?_;rintro e w1⟨rfl,rfl⟩)
  refine Zt (v:=.tuple #[.agg #[.int .i64 0,.int .i64 0],.bool false]) (by simp[results,Tryz.results154,go_sem]) rfl ⟨(0,0),by rw[HT.out];rfl,by rw[HT.out];simp,?_⟩;repeat(first|exact Zl _ _|with_reducible refine XQ ?_|refine Xh ?_ (by simp<;>omega) _)
theorem ah2 (v:Value) (ns:List Nd) (w:World) (hv:dG w v ns) (hn:ns.length<=1048576) (hs:∀d∈ns,d.name.size<=1048576) :
  Calls Tryz.prog 126 #[.agg #[v]] w (ahR [] ns w):=by
 obtain⟨a,cap,rfl⟩:=hv.slice;have hB:Below w.heap.size w ((w.alloc (.cells #[.slice a ns.length cap] 64)).alloc (.cells #[.int .i64 0,.int .i64 0] 189)):=((Zl _ _).alloc (Zj _) _).alloc (by simp) _;go_enter Tryz.func126,Tryz.ntmps126;go_wp2_with (go_at_call 154;refine(apt _ ns [] rfl _ (hv.keep hB) hn hs).mono ?_;rintro e w2⟨x,rfl,hx,hb2⟩;have hs2:=hb2.size;simp only[Zn]at hs2;have q0:=hb2.cell (p:=⟨w.heap.size+1,0,none⟩) (by simp);have q1:=hb2.cell (p:=⟨w.heap.size+1,1,none⟩) (by simp);have q2:=hb2.frozen (p:=⟨w.heap.size+1,0,none⟩) (by simp);have q3:=hb2.frozen (p:=⟨w.heap.size+1,1,none⟩) (by simp);simp[go_sem]at q0 q1 q2 q3;have hz2:w.heap.size+1<w2.heap.size:=by omega)
 refine Zt (v:=.tuple #[.agg #[.int .i64 x.1,.int .i64 x.2],.bool (bP (jJ []) ns).isSome]) (by simp[results,Tryz.results126,go_sem,q0,q1,q2,q3,hz2]) rfl ⟨x,rfl,hx,?_⟩;exact((hB.trans (hb2.mono (by simp;omega))).setCell (by simp) _).setCell (by simp) _
def Tr.LK:Tr->Prop
 | .leaf n=>¬(n.kind=15\/n.kind=16)
 | .seq a b=>a.LK/\b.LK
 | .par a b=>a.LK/\b.LK
def Tr.ty (leaf:Nd->Option W2):Tr->Option W2
 | .leaf n=>leaf n
 | .seq a b=>match a.ty leaf,b.ty leaf with
  | some x,some y=>og 15 x y
  | _,_=>none
 | .par a b=>match a.ty leaf,b.ty leaf with
  | some x,some y=>og 16 x y
  | _,_=>none
theorem aaw {leaf:Nd->Option W2}:∀(t:Tr),t.LK->∀(x:W2),t.ty leaf=some x->∀(r:List Nd) (st:List W2),eX leaf (t.nodes++r) st=eX leaf r (x::st)
 | .leaf n,h,x,hx,r,st=>abI h hx
 | .seq a b,h,x,hx,r,st=>by
  rw[Tr.ty]at hx;split at hx;next y z h1 h2 =>
   rw[Tr.nodes,Zz,Zz,aaw a h.1 y h1,aaw b h.2 z h2];show eX leaf (⟨15,0,⟨#[]⟩⟩::r) (z::y::st)=_
   conv=>lhs;unfold eX
   rw[ZE (.inl rfl),ZE ⟨rfl,rfl⟩];simp only[hx]
  next=>cases hx
 | .par a b,h,x,hx,r,st=>by
  rw[Tr.ty]at hx;split at hx;next y z h1 h2 =>
   rw[Tr.nodes,Zz,Zz,aaw a h.1 y h1,aaw b h.2 z h2];show eX leaf (⟨16,0,⟨#[]⟩⟩::r) (z::y::st)=_
   conv=>lhs;unfold eX
   rw[ZE (.inr rfl),ZE ⟨rfl,rfl⟩];simp only[hx]
  next=>cases hx
theorem Pn:∀t:Tr,1<=t.nodes.length
 | .leaf n=>by simp[Tr.nodes]
 | .seq a b=>by simp[Tr.nodes];omega
 | .par a b=>by simp[Tr.nodes];omega
theorem apv {leaf:Nd->Option W2} {t:Tr} {x:W2} (h:t.LK) (hx:t.ty leaf=some x) (hl:t.nodes.length<=400):bP leaf t.nodes=some x:=by
 unfold bP;rw[ZE ⟨Pn t,hl⟩];have:=aaw t h x hx [] [];rw[ZZ]at this;rw[this];rfl
structure avK (t:Tr):Prop where
 lk:t.LK
 ty:∃x,t.ty (bI [])=some x
 len:t.nodes.length<=13
def Tr.fit:Tr->Prop
 | .leaf n=>((n.kind=7\/n.kind=13)/\0<=n.value/\n.value<=96/\n.name=⟨#[]⟩)\/(¬(n.kind=7\/n.kind=13)/\jB n=true)
 | .seq a b=>a.fit/\b.fit
 | .par a b=>a.fit/\b.fit
def Tr.Np:Tr->Tr
 | .leaf n=>.leaf ⟨n.kind,if n.kind=7\/n.kind=13 then 0 else n.value,n.name⟩
 | .seq a b=>.seq a.Np b.Np
 | .par a b=>.par a.Np b.Np
def z2:Value:=.agg #[.nilIface,.nilIface]
def z3:Value:=.agg #[.int .i64 0,.int .i64 0,.string ⟨#[]⟩]
section
variable (a:Array Value) (w:World)
end
theorem aax:∀(t:Tr) (x:W2),t.ty (bI [])=some x->∀d∈t.nodes,d.name.size<=1048576
 | .leaf n,x,h,d,hd=>by
  rw[Tr.nodes]at hd;simp at hd;subst hd;simp only[Tr.ty,bI]at h;split at h
  ·simp[findD]at h
  ·split at h
   ·rename_i hb
    unfold jB at hb;simp only[Zu,ZF]at hb;have:d.name=ByteArray.empty:=by simp_all
    rw[this];decide
   ·cases h
 | .seq a b,x,h,d,hd=>by
  simp only[Tr.ty]at h;split at h
  ·rename_i p q h1 h2
   rw[Tr.nodes]at hd;simp only[Zs,ZS]at hd;rcases hd with(hd|hd)|rfl
   ·exact aax a p h1 d hd
   ·exact aax b q h2 d hd
   ·decide
  ·cases h
 | .par a b,x,h,d,hd=>by
  simp only[Tr.ty]at h;split at h
  ·rename_i p q h1 h2
   rw[Tr.nodes]at hd;simp only[Zs,ZS]at hd;rcases hd with(hd|hd)|rfl
   ·exact aax a p h1 d hd
   ·exact aax b q h2 d hd
   ·decide
  ·cases h
theorem ah3:Uniq []:=by unfold Uniq;simp
section
variable {P:Program} {ops:Array Oper} {C:World -> Prop} {N:Nat} {Q:Exit -> Act -> World -> Prop}
inductive ael (ops:Array Oper):Nat->Nat->Prop
 | one {j i:Nat}:Region.waitsFor .any ops j i=true->ael ops j i
 | more {j p i:Nat}:Region.waitsFor .any ops j p=true->ael ops p i->ael ops j i
end
def avL (w:World) (B:Nat) (L:List (Value×Tr)):Prop:=∀x∈L,jA w B x.1 x.2.nodes
def RuS (w:World) (B:Nat) (v:Value) (xs:List Nj):Prop:=w.ownsRow B 66 3 v xs.length (xs.flatMap ahN)/\∀x∈xs,jA w B x.2.1 x.1.left/\jA w B x.2.2 x.1.right
def avM (w:World) (B:Nat) (xs:List Nj):Prop:=∀x∈xs,jA w B x.2.1 x.1.left/\jA w B x.2.2 x.1.right
end Go.Proofs.YtkhpobekconobaaGreat
