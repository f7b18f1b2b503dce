/-
  The laws' copies of their arguments: new memory that reads as the argument does. Own work.
-/
import Derived.Test.YtikgblkfmpecfaaGreatDoorProg
import Derived.Test.YtikgblkfmpecfaaGreatDoorWA
import Derived.WalkLawsBesides
import Derived.WalkSpells
import Derived.Test.YtikgblkfmpecfaaGreatDoorWB
import Derived.StillTailTactics
import Derived.WideShapes
import Derived.Deep.QuietTactic
import Derived.BigQuiet
import Derived.Deep.RegionWith
set_option linter.all false
set_option maxRecDepth 100000
set_option maxHeartbeats 8000000
namespace Go.Proofs.YtikgblkfmpecfaaGreatDoor
open Go.RowKit
theorem I8:(Tryz.prog.info? 87).map (λi=>(i.zero,i.size,i.bytes))=some (some (.agg #[.int .i64 0,.int .i64 0,.string ⟨#[]⟩]),3,32):=by kernel_rfl
theorem Du:(Tryz.prog.info? 101).map (λi=>(i.zero,i.size,i.bytes))=some (some (.agg #[.string ⟨#[]⟩,.int .i64 0,.int .i64 0,.slice none 0 0]),4,56):=by kernel_rfl
theorem abw:(Tryz.prog.info? 45).map (λi=>(i.zero,i.size,i.bytes))=some (some (.agg #[.int .i64 0,.string ⟨#[]⟩,.string ⟨#[]⟩,.slice none 0 0]),4,64):=by kernel_rfl
theorem au.bY {w:World} {B:Nat} {v:Value} {ns:List Nd} (h:au w B v ns) {a:Addr} (ha:a.block<B) (u:Value):au (w.setCell a u) B v ns:=ownsRow_setCell_below h ha u
theorem abx {α:Type} {R:α->α->Prop} {l:List α} {x:α} (h:l.Pairwise R) (hx:∀y∈l,R y x):(l++[x]).Pairwise R:=by
 rw[List.pairwise_append];exact⟨h,by simp,by simpa using hx⟩
theorem jW {w:World} {B e sz:Nat} {v:Value} {n:Nat} {xs:List Value} (h:w.ownsRow B e sz v n xs):∃ao cp,v=.slice ao n cp:=by
 rcases h.2 with⟨rfl,rfl⟩|⟨g,cap,cur,rfl,_⟩
 ·exact⟨_,_,rfl⟩
 ·exact⟨_,_,rfl⟩
theorem Ad {w:World} {B e sz:Nat} {v:Value} {n:Nat} {xs:List Value} (h:w.ownsRow B e sz v n xs) (hn:0<n):∃g cp,v=.slice (some ⟨g,0,none⟩) n cp/\n<=cp/\cp<=maxLen/\B<=g/\g<w.heap.size:=by
 have h':=h;rcases h.2 with⟨rfl,rfl⟩|⟨g,cap,cur,rfl,hb,hg,hc,hm,_⟩
 ·omega
 ·exact⟨g,cap,rfl,hc,hm,hb,(World.ownsRow.lt h' g rfl).2⟩
def bP (w:World) (B:Nat) (v:Value) (xs:List (Df×Value)):Prop :=
 w.ownsRow B 101 4 v xs.length (xs.flatMap bM)/\(∀x∈xs,au w B x.2 x.1.body)/\xs.Pairwise λx y=>Apart x.2 y.2
theorem bP.own {w:World} {B:Nat} {v:Value} {xs:List (Df×Value)} (h:bP w B v xs):cu w B v (xs.map Prod.fst):=⟨xs,rfl,h⟩
theorem cu.row {w:World} {B:Nat} {v:Value} {L:List Df} (h:cu w B v L):∃xs:List (Df×Value),xs.map Prod.fst=L/\bP w B v xs:=h
theorem bP.keep {w w':World} {B:Nat} {v:Value} {xs:List (Df×Value)} (hb:Below w.heap.size w w') (h:bP w B v xs):bP w' B v xs :=
 ⟨bW hb h.1,λx hx=>(h.2.1 x hx).keep hb,h.2.2⟩
theorem bP.mono {w:World} {B B':Nat} {v:Value} {xs:List (Df×Value)} (hB:B'<=B) (h:bP w B v xs):bP w B' v xs:=⟨yx hB h.1,λx hx=>(h.2.1 x hx).mono hB,h.2.2⟩
theorem bP.at {w:World} {B:Nat} {v:Value} {xs:List (Df×Value)} (h:bP w B v xs):aG w v (xs.map Prod.fst):=h.own.at
theorem bP.shape {w:World} {B:Nat} {v:Value} {xs:List (Df×Value)} (h:bP w B v xs) (n:Nat) (hn:xs.length=n):∃ao cp,v=.slice ao n cp:=by
 subst hn;exact jW h.1
theorem NS {w:World} {B:Nat} {xs:List (Df×Value)} (h:∀x∈xs,au w B x.2 x.1.body):∀u∈xs.flatMap bM,u.oneCell'=true:=by
 intro u hu;obtain⟨x,hx,hd⟩:=List.mem_flatMap.1 hu;obtain⟨a,c,he⟩:=(h x hx).slice;simp[bM]at hd;rcases hd with rfl|rfl|rfl|rfl<;>first|rfl|(rw[he];rfl)
theorem UR {w:World} {xs:List (Df×Value)} (h:∀x∈xs,aZ w x.2 x.1.body):∀u∈xs.flatMap bM,u.oneCell'=true:=by
 intro u hu;obtain⟨x,hx,hd⟩:=List.mem_flatMap.1 hu;obtain⟨a,c,he⟩:=(h x hx).slice;simp[bM]at hd;rcases hd with rfl|rfl|rfl|rfl<;>first|rfl|(rw[he];rfl)
theorem Dv {w w':World} {B:Nat} {v:Value} {ns:List Nd} {row:Option Nat} (h:au w B v ns) (hg:w.grownBy w' row) (hne:∀k,v.ownBlock=some k->row≠some k):au w' B v ns:=by
 refine World.ownsRow.kept h hg ?_;cases hv:v.ownBlock with
 | none=>exact .inl rfl
 | some k=>exact .inr (λe=>hne k hv e.symm)
theorem bP.snoc {w w':World} {B:Nat} {v v' vb:Value} {xs:List (Df×Value)} {d:Df} (h:bP w B v xs) (hvb:au w B vb d.body) (hap:∀x∈xs,Apart x.2 vb)
  (hown:w'.ownsRow B 101 4 v' (xs.length+1) (xs.flatMap bM++bM (d,vb))) (hg:w.grownBy w' v.ownBlock):bP w' B v' (xs++[(d,vb)]):=by
 have ne:∀(u:Value) ns,au w B u ns->∀k,u.ownBlock=some k->v.ownBlock≠some k:=λu ns hu k hk=>oG hu h.1 (by decide) k hk;refine⟨?_,?_,abx h.2.2 hap⟩
 ·simpa[List.flatMap_append]using hown
 ·intro x hx;rcases List.mem_append.1 hx with hx|hx
  ·exact Dv (h.2.1 x hx) hg (ne _ _ (h.2.1 x hx))
  ·simp at hx;subst hx;exact Dv hvb hg (ne _ _ hvb)
theorem aby {w:World} {ops:Array Oper} {rest:List Oper} {o:Oper} {a:Act} {Q:Exit->Act->World->Prop} (hgd:o.guard=none) (s x:Operand)
  (ho:o.op=.call { callee:=.builtin .append,args:=#[s,x],argTypes:=#[24,24] })
  (B:Nat) (v:Value) (xs:List (Df×Value)) (d:Df) (vb:Value) (g:Nat) (hg:g=w.heap.size) (hs:a.eval s=v) (hx:a.eval x=.slice (some ⟨g,0,none⟩) 1 1) (hrow:bP w B v xs) (hvb:au w B vb d.body) (hap:∀x∈xs,Apart x.2 vb)
  (hB:B<=w.heap.size) (hl:xs.length<=1048576)
  (H:∀v' w',bP w' B v' (xs++[(d,vb)])->(w.alloc (.cells #[.string d.name,.int .i64 d.inn,.int .i64 d.out,vb] 101)).grownBy w' v.ownBlock->(v'.ownBlock=v.ownBlock\/v'.ownBlock=some (w.heap.size+1))->wpList Tryz.prog ops Q rest (a.put o.dst v') w') :
  wpList Tryz.prog ops Q (o::rest) a (w.alloc (.cells #[.string d.name,.int .i64 d.inn,.int .i64 d.out,vb] 101)):=by
 subst hg;obtain⟨i0,hi,hz0,hz1,hz2⟩:=info_parts Du;have hk:=aj w (.cells #[.string d.name,.int .i64 d.inn,.int .i64 d.out,vb] 101);refine oK hgd s x 24 ho B 101 i0 _ 4 56 Tryz.underlying24 hi hz0 hz1 hz2 rfl (by decide) v xs.length _ hs (bW hk hrow.1) _ 1 (bM (d,vb)) hx ⟨rfl,.inr ⟨_,1,rfl,?_⟩⟩ ?_ (by unfold maxLen;omega) (by omega) (by simp;omega) ?_
 ·intro j u hj;match j,hj with
  | 0,hj=>simp[bM]at hj;subst hj;simp[Addr.add]
  | 1,hj=>simp[bM]at hj;subst hj;simp[Addr.add]
  | 2,hj=>simp[bM]at hj;subst hj;simp[Addr.add]
  | 3,hj=>simp[bM]at hj;subst hj;simp[Addr.add]
 ·have:=NS (w:=w) (B:=B) (xs:=[(d,vb)]) (by intro x hx;simp at hx;subst hx;exact hvb);simpa using this
 ·intro v' w' h1 h2 h3;exact H v' w' ((hrow.keep hk).snoc (hvb.keep hk) hap h1 h2) h2 (by simpa using h3)
theorem NU {w w2:World} {B Bn:Nat} {v vb:Value} {xs:List (Df×Value)} {ns:List Nd} (h:bP w B v xs) (hvb:au w2 Bn vb ns) (hB:w.heap.size<=Bn):∀x∈xs,Apart x.2 vb :=
 λx hx=>aaB (h.2.1 x hx) hvb hB
theorem UU {ops:Array Oper} {Q:Exit->Act->World->Prop} {T:Nat->Prop} {w0:World} {i:Nat} {l:List Nat} {bs:Nat->Prop} {a:Act} {w:World} {o:Oper} (ho:ops[i]?=some o) (hk:gu o=.act) (hg:o.guard=none) (hC:ah T w0 w) (s x:Operand)
  (hop:o.op=Op.call { callee:=Callee.builtin Builtin.append,args:=#[s,x],argTypes:=#[24,24] })
  (B:Nat) (v:Value) (xs:List (Df×Value)) (d:Df) (vb:Value) (b:Nat) (hs:a.eval s=v) (hx:a.eval x=.slice (some ⟨b,0,none⟩) 1 1)
  (Dk:∀k,v.ownBlock=some k->(k<w0.heap.size/\T k)\/(w0.heap.size<=k/\bs k)) (hbase:B<=w.heap.size) (hl:xs.length<=1048576)
  (hrow:bP w B v xs) (hvb:au w B vb d.body) (hap:∀x∈xs,Apart x.2 vb) (aI:w.heap[b]?=some (.cells #[.string d.name,.int .i64 d.inn,.int .i64 d.out,vb] 101))
  (h:∀K:(Nat->Prop)->Act->World->Prop,(∀bs a w,WX Tryz.prog ops (ah T w0) w0.heap.size Q l bs a w->K bs a w)->∀w1 w2 v',ah T w0 w1->Below w.heap.size w w1 ->
   bP w2 B v' (xs++[(d,vb)])->w1.grownBy w2 v.ownBlock->ah T w0 w2->(v'.ownBlock=v.ownBlock\/v'.ownBlock=some w1.heap.size)->K (more bs w1 w2) (a.put o.dst v') w2) :
  WX Tryz.prog ops (ah T w0) w0.heap.size Q (i::l) bs a w:=by
 obtain⟨i0,hi,hz0,hz1,hz2⟩:=info_parts Du;refine rU ho hk hg hC s x 24 hop B 101 i0 _ 4 56 Tryz.underlying24 hi hz0 hz1 hz2 rfl (by decide) v xs.length (xs.flatMap bM) hs Dk (.slice (some ⟨b,0,none⟩) 1 1) 1 (bM (d,vb)) hx ?_ (by unfold maxLen;omega) (by omega) hbase ?_ ?_
 ·have:=NS (w:=w) (B:=B) (xs:=[(d,vb)]) (by intro x hx;simp at hx;subst hx;exact hvb);simpa using this
 ·intro w1 hw1 hb1;refine⟨(hrow.keep hb1).1,rfl,.inr ⟨_,1,rfl,?_⟩⟩;obtain⟨m0,_,_⟩:=made_cell ((hb1.block b (made_cell aI).2.2).trans aI);intro j u hj;match j,hj with
  | 0,hj=>simp[bM]at hj;subst hj;simp[Addr.add,m0]
  | 1,hj=>simp[bM]at hj;subst hj;simp[Addr.add,m0]
  | 2,hj=>simp[bM]at hj;subst hj;simp[Addr.add,m0]
  | 3,hj=>simp[bM]at hj;subst hj;simp[Addr.add,m0]
 ·intro K hK w1 w2 v' hw1 hb1 h1 h2 h3 h4;exact h K hK w1 w2 v' hw1 hb1 ((hrow.keep hb1).snoc (hvb.keep hb1) hap h1 h2) h2 h3 h4
theorem k_ (a b:ByteArray):(a.toList==b.toList)=decide (a=b):=by
 rw[ByteArray.toList_eq,ByteArray.toList_eq,Bool.eq_iff_iff];simp only[beq_iff_eq,decide_eq_true_eq];exact⟨λh=>WideShapes.bytes_inj h,λh=>by rw[h]⟩
theorem yO {p:Prop} [Decidable p] (h:¬p):Ending.returned (.bool false)=.returned (.bool (decide p)):=by simp[h]
theorem Dw {p:Prop} [Decidable p] (h:p):Ending.returned (.bool true)=.returned (.bool (decide p)):=by simp[h]
def inB (n lo hi:Int):Bool:=decide (lo<=n)&&decide (n<=hi)
theorem pV (n lo hi:Int) (w:World) :
  Calls Tryz.prog 71 #[.int .i64 n,.int .i64 lo,.int .i64 hi] w λe w'=>e=.returned (.bool (inB n lo hi))/\w=w':=by
 go_enter Tryz.func71,Tryz.ntmps71;go_wp2;all_goals go_ret
 all_goals exact⟨dI (by simp[inB];try omega),rfl⟩
theorem qI (n lo hi:Int) (w:World) :
  Calls Tryz.prog 143 #[.int .i64 n,.int .i64 lo,.int .i64 hi] w λe w'=>e=.returned (.bool (inB n lo hi))/\w=w':=by
 go_enter Tryz.func143,Tryz.ntmps143;go_wp2;all_goals go_ret
 all_goals exact⟨dI (by simp[inB];try omega),rfl⟩
def dL (b:UInt8):Bool:=decide ((97:Int)<=(b.toNat:Int))&&decide ((b.toNat:Int)<=122)
def aP (b:UInt8):Bool:=decide ((48:Int)<=(b.toNat:Int))&&decide ((b.toNat:Int)<=57)
theorem rO (b:UInt8) (w:World) :
  Calls Tryz.prog 146 #[.int .u8 b.toNat] w λe w'=>e=.returned (.bool (dL b))/\w=w':=by
 go_enter Tryz.func146,Tryz.ntmps146;go_wp2;all_goals go_ret
 all_goals exact⟨dI (by first|(simp_all [dL];done)|(simp_all [dL];omega)),rfl⟩
theorem qH (b:UInt8) (w:World) :
  Calls Tryz.prog 148 #[.int .u8 b.toNat] w λe w'=>e=.returned (.bool (aP b))/\w=w':=by
 go_enter Tryz.func148,Tryz.ntmps148;go_wp2;all_goals go_ret
 all_goals exact⟨dI (by first|(simp_all [aP];done)|(simp_all [aP];omega)),rfl⟩
def mQ (k:Int):Bool:=(k==7) ||(k==13)
theorem yN (k:Int) (w:World) :
  Calls Tryz.prog 141 #[.int .i64 k] w λe w'=>e=.returned (.bool (mQ k))/\w=w':=by
 go_enter Tryz.func141,Tryz.ntmps141;go_wp2;all_goals go_ret
 all_goals exact⟨dI (by simp_all [mQ]),rfl⟩
theorem UW (k:Int) (w:World) :
  Calls Tryz.prog 185 #[.int .i64 k] w λe w'=>e=.returned (.bool (inB k 3 14))/\w=w':=by
 go_enter Tryz.func185,Tryz.ntmps185;go_wp2_with (go_at_call 71;refine(pV _ _ _ _).mono ?_;rintro e w2⟨rfl,rfl⟩)
 go_ret
 exact⟨rfl,rfl⟩
def Ae (k v:Int):Bool:=if mQ k then inB v 0 96 else(v==0)
theorem abz (k v:Int) (w:World) :
  Calls Tryz.prog 187 #[.int .i64 k,.int .i64 v] w λe w'=>e=.returned (.bool (Ae k v))/\w=w':=by
 cases hk:mQ k;all_goals
  go_enter Tryz.func187,Tryz.ntmps187
  go_wp2_with (first|(go_at_call 141;refine(yN _ _).mono ?_;rintro e w2⟨rfl,rfl⟩)|(go_at_call 71;refine(pV _ _ _ _).mono ?_;rintro e w2⟨rfl,rfl⟩))
  go_ret
  exact⟨by simp[Ae,hk],rfl⟩
theorem abA (a b:Int) (w:World) :
  Calls Tryz.prog 184 #[.agg #[.int .i64 a,.int .i64 b]] w λe w'=>e=.returned (.bool (decide (a<=12)&&decide (b<=12)))/\Below w.heap.size w w':=by
 go_enter Tryz.func184,Tryz.ntmps184;go_wp2;all_goals go_ret
 all_goals exact⟨dI (by first|(simp_all;done)|(simp_all;omega)),(Below.refl _ _).alloc (Nat.le_refl _) _⟩
theorem abB (k:Int) (w:World) :
  Calls Tryz.prog 182 #[.int .i64 k] w λe w'=>e=.returned (.tuple #[.int .i64 (gZ k).1,.int .i64 (gZ k).2])/\w=w':=by
 go_enter Tryz.func182,Tryz.ntmps182;go_wp2;all_goals go_ret2
 all_goals exact⟨by simp_all [gZ],rfl⟩
def reserved:List ByteArray:=[⟨#[105,100]⟩,⟨#[115,119,97,112]⟩,⟨#[99,111,112,121]⟩,⟨#[100,105,115,99,97,114,100]⟩,⟨#[97,100,100]⟩,⟨#[122,101,114,111]⟩,⟨#[115,99,97,108,101]⟩,⟨#[100,101,108,97,121]⟩,
 ⟨#[99,111,99,111,112,121]⟩,⟨#[99,111,100,105,115,99,97,114,100]⟩,⟨#[99,111,97,100,100]⟩,⟨#[99,111,122,101,114,111]⟩,⟨#[99,111,115,99,97,108,101]⟩,⟨#[99,111,100,101,108,97,121]⟩]
def kN:List ByteArray:=⟨#[]⟩::reserved
def w_ (w:World) (v:Value) (ss:List ByteArray):Prop:=iT 1 v ss.length λi b o=>∃h:i<ss.length,w.cell? ⟨b,o,none⟩=some (.string ss[i])
theorem w_.keep {w w':World} (hb:Below w.heap.size w w') {v:Value} {ns:List ByteArray} (h:w_ w v ns):w_ w' v ns :=
 iT.mono h λ_ _ _ ⟨hi,r⟩=>⟨hi,ak hb r⟩
theorem UY (w:World) (ss:List ByteArray) (t:TypeId):w_ (w.alloc (.cells (ss.map Value.string).toArray t)) (.slice (some ⟨w.heap.size,0,none⟩) ss.length ss.length) ss:=by
 refine⟨_,_,rfl,Nat.le_refl _,λi hi=>⟨_,_,rfl,hi,?_⟩⟩;have h1:(w.alloc (.cells (ss.map Value.string).toArray t)).heap[w.heap.size]?=some (.cells (ss.map Value.string).toArray t):=heap_alloc_new w _;have h2:(⟨w.heap.size,0+i*1,none⟩:Addr)=⟨w.heap.size,i,none⟩:=by simp
 rw[h2,cell_of_row _ w.heap.size i _ _ _ h1];simp[hi]
theorem Fb (w:World) :
  Calls Tryz.prog 145 #[] w λe w'=>∃n:Nat,e=.returned (.slice (some ⟨w.heap.size,0,none⟩) n n)/\n<=14/\14<=n/\w_ w' (.slice (some ⟨w.heap.size,0,none⟩) n n) reserved/\Below w.heap.size w w'/\w.heap.size<w'.heap.size:=by
 go_enter Tryz.func145,Tryz.ntmps145;go_wp2;go_ret
 exact⟨14,rfl,Nat.le_refl _,Nat.le_refl _,UY w reserved _,(Below.refl _ _).alloc (Nat.le_refl _) _,by simp⟩
theorem UZ (w:World) :
  Calls Tryz.prog 142 #[] w λe w'=>∃n:Nat,e=.returned (.slice (some ⟨w.heap.size,0,none⟩) n n)/\n<=15/\15<=n/\w_ w' (.slice (some ⟨w.heap.size,0,none⟩) n n) kN/\Below w.heap.size w w'/\w.heap.size<w'.heap.size:=by
 go_enter Tryz.func142,Tryz.ntmps142;go_wp2;go_ret
 exact⟨15,rfl,Nat.le_refl _,Nat.le_refl _,UY w kN _,(Below.refl _ _).alloc (Nat.le_refl _) _,by simp⟩
def kV (s:ByteArray) (d:Int):List ByteArray->Nat->Int
 | [],_=>d
 | x::r,k=>if x=s then k else kV s d r (k+1)
def bg (s:ByteArray):Int:=kV s 17 kN 0
theorem Aa (s:ByteArray) (w:World) :
  Calls Tryz.prog 147 #[.string s] w λe w'=>e=.returned (.int .i64 (bg s))/\Below w.heap.size w w':=by
 go_enter Tryz.func147,Tryz.ntmps147;go_wp2_with (go_at_call 142;refine(UZ _).mono ?_;rintro e w1⟨n,rfl,hn1,hn2,hst,hb1,hs1⟩)
 obtain⟨a,cap,ha,hc,hat⟩:=hst;simp only[Value.slice.injEq,Option.some.injEq]at ha;obtain⟨rfl,hn3,rfl⟩:=ha;clear hn3;have hl:kN.length=15:=rfl;go_loopw [7] (λi wr=>∃k:Nat,k<=n/\i=.int .i64 k/\Hid (bg s=kV s 17 (kN.drop k) k)/\Below w1.heap.size w1 wr) (λi _=>n-(intOf i).toNat)
 case atStart=>exact⟨0,by omega,rfl,(show Hid _ from(rfl:bg s=_)),Below.refl _ _⟩
 case round =>
  obtain⟨k,hk,rfl,HF,hbel⟩:=hrel
  by_cases hlt:k<n
  ·obtain⟨b,o,aI,_,hnd⟩:=hat k (by omega)
   simp only[Option.some.injEq,Addr.mk.injEq]at aI
   obtain⟨rfl,rfl,_⟩:=aI
   have c0:=ak hbel hnd
   simp only[Nat.zero_add,Nat.mul_one]at c0
   have hsz:=hbel.size
   clear hat hnd
   have hkl:k<kN.length:=by omega
   by_cases he:kN[k]=s
   ·have g1:(kN[k].toList==s.toList)=true:=by rw[k_];simp[he]
    have HK:Hid (bg s=k):=by
     show bg s=k;rw[HF.out,List.drop_eq_getElem_cons hkl,kV,if_pos he]
    clear he
    go_wp2
    go_ret
    exact⟨wO HK.out.symm,hb1.trans (hbel.mono (by omega))⟩
   ·have g1:(kN[k].toList==s.toList)=false:=by rw[k_];simp[he]
    have HK:Hid (bg s=kV s 17 (kN.drop (k+1)) (k+1)):=by
     show bg s=_;rw[HF.out,List.drop_eq_getElem_cons hkl,kV,if_neg he]
    clear he
    go_wp2
    go_roundw
    case rel=>exact⟨k+1,by omega,by go_num,HK,hbel⟩
    case measure=>simp[intOf];omega
  ·go_wp2
   go_ret
   have hkk:k=15:=by omega
   rw[hkk]at HF
   exact⟨wO HF.out.symm,hb1.trans (hbel.mono (by omega))⟩
def bV (b:UInt8):Bool:=dL b || aP b
def oM (s:ByteArray) (k:Nat):Bool:=(s.data.toList.drop k).all bV
theorem NV (s:ByteArray) (k:Nat) (h:k<s.size):oM s k=(bV s[k]&&oM s (k+1)):=by
 unfold oM;rw[List.drop_eq_getElem_cons (by simpa using h),List.all_cons];rfl
theorem U0 (s:ByteArray) (k:Nat) (h:s.size<=k):oM s k=true:=by
 unfold oM;rw[List.drop_eq_nil_of_le (by simpa using h)];rfl
def jq (s:ByteArray):Bool:=if h:1<=s.size/\s.size<=8 then dL (s[0]'(by omega))&&oM s 1 else false
theorem I9 {s:ByteArray} (h:¬(1<=s.size/\s.size<=8)):jq s=false:=by unfold jq;rw[dif_neg h]
theorem NW {s:ByteArray} (h:1<=s.size/\s.size<=8) (hl:dL (s[0]'(by omega))=false):jq s=false:=by unfold jq;rw[dif_pos h,hl];rfl
theorem U1 {s:ByteArray} (h:1<=s.size/\s.size<=8) (hl:dL (s[0]'(by omega))=true):jq s=oM s 1:=by unfold jq;rw[dif_pos h,hl];rfl
theorem U2 {s:ByteArray} (h:1<=s.size/\s.size<=8) (hl:dL (s[0]'(by omega))=true):jq s=oM s 0:=by rw[U1 h hl,NV s 0 (by omega)];simp[bV,hl]
def nameB (s:ByteArray):Bool:=jq s&&decide (bg s=17)
theorem Dx (s:ByteArray) (w:World) (hs:s.size<=1048576) :
  Calls Tryz.prog 89 #[.string s] w λe w'=>e=.returned (.bool (nameB s))/\Below w.heap.size w w':=by
 by_cases hsz:1<=s.size/\s.size<=8
 ·have h0:0<s.size:=by omega
  have g1:inB s.size 1 8=true:=by simp[inB];omega
  cases hl:dL s[0]with
  | false =>
   go_enter Tryz.func89,Tryz.ntmps89
   go_wp2_with (first|(go_at_call 71;refine(pV _ _ _ _).mono ?_;rintro e w1⟨rfl,rfl⟩)|(go_at_call 146;refine(rO _ _).mono ?_;rintro e w1⟨rfl,rfl⟩))
   go_ret
   exact⟨dI (by simp[nameB,NW hsz hl]),Below.refl _ _⟩
  | true =>
   by_cases hk:bg s=17
   ·have g2:(bg s != 17)=false:=by simp[hk]
    have Fe:Hid (nameB s=oM s 0):=(show nameB s=oM s 0 by simp[nameB,hk,U2 hsz hl])
    clear hk
    go_enter Tryz.func89,Tryz.ntmps89
    go_wp2_with (first|(go_at_call 71;refine(pV _ _ _ _).mono ?_;rintro e w1⟨rfl,rfl⟩)|(go_at_call 146;refine(rO _ _).mono ?_;rintro e w1⟨rfl,rfl⟩)|(go_at_call 147;refine(Aa _ _).mono ?_;rintro e w1⟨rfl,hb1⟩))
    go_loopw [21] (λi wr=>∃k:Nat,k<=s.size/\i=.int .i64 k/\Hid (nameB s=oM s k)/\Below w.heap.size w wr) (λi _=>s.size-(intOf i).toNat)
    case atStart=>exact⟨0,by omega,rfl,Fe,hb1⟩
    case round =>
     obtain⟨k,hk,rfl,HF,hbel⟩:=hrel
     clear Fe hb1
     by_cases hlt:k<s.size
     ·have hst:=NV s k hlt
      cases q1:dL s[k]<;>cases q2:aP s[k]
      all_goals
       have HK:=Lib.hid (HF.out.trans hst)
       simp only[bV,q1,q2,Bool.or_false,Bool.or_true,Bool.false_and,Bool.true_and]at HK
       clear hst HF
       go_wp2_with (first|(go_at_call 146;refine(rO _ _).mono ?_;rintro e w1⟨rfl,rfl⟩)|(go_at_call 148;refine(qH _ _).mono ?_;rintro e w1⟨rfl,rfl⟩))
      ·go_ret
       exact⟨dI (by have:=HK.out;simpa[bV,q1,q2]using this.symm),hbel⟩
      all_goals
       go_roundw
       case rel=>exact⟨k+1,by omega,by go_num,(show nameB s=_ by have:=HK.out;simpa[bV,q1,q2]using this),hbel⟩
       case measure=>simp[intOf];omega
     ·go_wp2
      go_ret
      exact⟨dI (by rw[HF.out,U0 s k (by omega)]),hbel⟩
   ·have g2:(bg s != 17)=true:=by simp[hk]
    go_enter Tryz.func89,Tryz.ntmps89
    go_wp2_with (first|(go_at_call 71;refine(pV _ _ _ _).mono ?_;rintro e w1⟨rfl,rfl⟩)|(go_at_call 146;refine(rO _ _).mono ?_;rintro e w1⟨rfl,rfl⟩)|(go_at_call 147;refine(Aa _ _).mono ?_;rintro e w1⟨rfl,hb1⟩))
    go_ret
    exact⟨dI (by simp[nameB,hk]),hb1⟩
 ·have g1:inB s.size 1 8=false:=by simp[inB];omega
  go_enter Tryz.func89,Tryz.ntmps89;go_wp2_with (go_at_call 71;refine(pV _ _ _ _).mono ?_;rintro e w1⟨rfl,rfl⟩)
  go_ret
  exact⟨dI (by simp[nameB,I9 hsz]),Below.refl _ _⟩
theorem ah.trans {T:Nat->Prop} {w0 w1 w2:World} (h:ah T w0 w1) (h':ah T w1 w2):ah T w0 w2 :=
 ⟨h'.os.trans h.os,h'.tape.trans h.tape,h'.output.trans h.output,Nat.le_trans h.size h'.size,λk hk ht=>(h'.block k (Nat.lt_of_lt_of_le hk h.size) ht).trans (h.block k hk ht)⟩
theorem ah.mono {T T':Nat->Prop} {w0 w1:World} (h:ah T w0 w1) (ht:∀k,T k->T' k):ah T' w0 w1 :=
 ⟨h.os,h.tape,h.output,h.size,λk hk hn=>h.block k hk (λh'=>hn (ht k h'))⟩
theorem gV {T:Nat->Prop} {w w':World} {B e sz:Nat} {v:Value} {n:Nat} {xs:List Value} (hE:ah T w w') (h:w.ownsRow B e sz v n xs) (hT:∀k,v.ownBlock=some k->¬T k):w'.ownsRow B e sz v n xs:=by
 refine⟨h.1,?_⟩;rcases h.2 with hn|⟨g,cap,cur,rfl,hbb,hgg,rest⟩
 ·exact .inl hn
 ·exact .inr ⟨g,cap,cur,rfl,hbb,(hE.block g (Array.getElem?_eq_some_iff.1 hgg).1 (hT g rfl)).trans hgg,rest⟩
end Go.Proofs.YtikgblkfmpecfaaGreatDoor
