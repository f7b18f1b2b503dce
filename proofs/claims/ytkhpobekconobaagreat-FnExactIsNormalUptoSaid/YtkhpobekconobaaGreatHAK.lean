import Derived.Test.YtkhpobekconobaaGreatHAJ
set_option linter.all false
set_option maxRecDepth 100000
set_option maxHeartbeats 0
namespace Go.Proofs.YtkhpobekconobaaGreat
open Go.RowKit
abbrev fF:=aO×Value×Value
def zo (w:World) (B:Nat) (ys:List fF):Prop:=∀y∈ys,Rw w B y.2.1 y.1.aj/\Rw w B y.2.2 y.1.ay
theorem zo.keep {w w':World} {B:Nat} {ys:List fF} (hb:Below w.heap.size w w') (h:zo w B ys):zo w' B ys:=λy hy=>⟨(h y hy).1.keep hb,(h y hy).2.keep hb⟩
theorem zo.mono {w:World} {B B':Nat} {ys:List fF} (hB:B'<=B) (h:zo w B ys):zo w B' ys:=λy hy=>⟨(h y hy).1.mono hB,(h y hy).2.mono hB⟩
structure mO (w:World) (B:Nat) (v:Value) (xs:List fF):Prop where
 row:w.ownsRow B 102 4 v xs.length (xs.flatMap nK)
 rws:zo w B xs
theorem mO.keep {w w':World} {B:Nat} {v:Value} {xs:List fF} (hb:Below w.heap.size w w') (h:mO w B v xs):mO w' B v xs:=⟨jL hb h.row,h.rws.keep hb⟩
theorem mO.o {w:World} {B:Nat} {v:Value} {xs:List fF} (h:mO w B v xs):mW w B v (xs.map Prod.fst):=⟨xs,rfl,h.row,h.rws⟩
theorem mO.shape {w:World} {B:Nat} {v:Value} {xs:List fF} (h:mO w B v xs):∃a cap,v=.slice a xs.length cap:=by
 rcases h.row.2 with⟨hv,he⟩|⟨g,cap,cur,hv,_⟩
 ·exact⟨none,0,by rw[hv,he]⟩
 ·exact⟨_,_,hv⟩
theorem mO.nil (w:World) (B:Nat):mO w B (.slice none 0 0) []:=⟨Ye _ _ _ _,λy hy=>by cases hy⟩
theorem ah4 {w:World} {B:Nat} {ys:List fF} (h:zo w B ys):∀u∈ys.flatMap nK,u.oneCell'=true:=by
 intro u hu;obtain⟨x,hx,hd⟩:=Z6.1 hu;obtain⟨h1,h2⟩:=h x hx;obtain⟨a,c,e1⟩:=h1.slice;obtain⟨b,d,e2⟩:=h2.slice;simp only[nK,ZU,YM,XM]at hd;rcases hd with rfl|rfl|rfl|rfl
 ·rfl
 ·rfl
 ·rw[e1];rfl
 ·rw[e2];rfl
theorem mO.app {w w':World} {B:Nat} {v v':Value} {xs ys:List fF} (h:mO w B v xs) (hy:zo w B ys)
  (hown:w'.ownsRow B 102 4 v' (xs.length+ys.length) (xs.flatMap nK++ys.flatMap nK)) (hg:w.grownBy w' v.ownBlock):mO w' B v' (xs++ys):=by
 have mv:∀(u:Value) zs,Rw w B u zs->Rw w' B u zs:=λu zs hu=>hu.grown hg λk hk e=>wC hu h.row (by decide) k hk e;refine⟨?_,λx hx=>?_⟩
 ·rw[Zk,ZL];exact hown
 ·rcases Zs.1 hx with hx|hx
  ·exact⟨mv _ _ (h.rws x hx).1,mv _ _ (h.rws x hx).2⟩
  ·exact⟨mv _ _ (hy x hx).1,mv _ _ (hy x hx).2⟩
theorem mO.setB {w:World} {B b:Nat} {v:Value} {xs:List fF} {t:TypeId} {cs:Array Value} (h:mO w B v xs) (kb:Bk w b t cs) (h1:102≠t) (h2:3≠t) (j:Nat) (u:Value):mO (w.setCell ⟨b,j,none⟩ u) B v xs :=
 ⟨eP h.row _ _ (cO h.row kb h1),λy hy=>⟨eP (h.rws y hy).1 _ _ (cO (h.rws y hy).1 kb h2),eP (h.rws y hy).2 _ _ (cO (h.rws y hy).2 kb h2)⟩⟩
theorem aco {ops:Array Oper} {Q:Exit->Act->World->Prop} {T:Nat->Prop} {w0:World} {i:Nat} {l:List Nat} {bs:Nat->Prop} {a:Act} {w:World} {o:Oper} (ho:ops[i]?=some o) (hk:jW o=.act) (hg:o.guard=none) (hC:aC T w0 w) (s x:Operand)
  (hop:o.op=Op.call { callee:=Callee.builtin Builtin.append,args:=#[s,x],argTypes:=#[31,31] })
  (B:Nat) (v:Value) (xs ys:List fF) (b m c:Nat) (hm:ys.length=m) (hs:a.eval s=v) (hx:a.eval x=.slice (some ⟨b,0,none⟩) m c)
  (AP:∀k,v.ownBlock=some k->(k<w0.heap.size/\T k)\/(w0.heap.size<=k/\bs k)) (hbase:B<=w.heap.size) (hl:xs.length+m<=100000)
  (hrow:mO w B v xs) (nS:zo w B ys) (aW:w.heap[b]?=some (.cells (ys.flatMap nK).toArray 102))
  (h:∀K:(Nat->Prop)->Act->World->Prop,(∀bs a w,WX Tryz.prog ops (aC T w0) w0.heap.size Q l bs a w->K bs a w)->∀w1 w2 v',aC T w0 w1->Below w.heap.size w w1 ->
   mO w2 B v' (xs++ys)->w1.grownBy w2 v.ownBlock->aC T w0 w2->(v'.ownBlock=v.ownBlock\/v'.ownBlock=some w1.heap.size)->K (more bs w1 w2) (a.put o.dst v') w2) :
  WX Tryz.prog ops (aC T w0) w0.heap.size Q (i::l) bs a w:=by
 subst hm;obtain⟨i0,hi,hz0,hz1,hz2⟩:=Yg aea;refine abZ ho hk hg hC s x 31 hop B 102 i0 _ 4 64 Tryz.underlying31 hi hz0 hz1 hz2 rfl (by decide) v xs.length (xs.flatMap nK) hs AP (.slice (some ⟨b,0,none⟩) ys.length c) ys.length (ys.flatMap nK) hx ?_ (by unfold maxLen;omega) (by omega) hbase ?_ ?_
 ·exact ah4 nS
 ·intro w1 dQ hb1;refine⟨(hrow.keep hb1).1,flat_length RX ys,.inr ⟨_,c,rfl,?_⟩⟩;obtain⟨m0,_,_⟩:=made_cell ((hb1.block b (made_cell aW).2.2).trans aW);intro j u hj;rw[addr_add,Yp,m0 j];simpa using hj
 ·intro K hK w1 w2 v' dQ hb1 h1 h2 h3 h4;exact h K hK w1 w2 v' dQ hb1 ((hrow.keep hb1).app (nS.keep hb1) h1 h2) h2 h3 h4
def jm (tz:List Int) (e:aO):aO:=⟨e.kind,e.value,aG tz e.aj,aG tz e.ay⟩
def mZ (g:aF) (cnt:Int) (tz:List Int):aF:=⟨cnt,g.ah.map (jm tz),aG tz g.aj,aG tz g.ay⟩
structure Tf (g:aF):Prop where
 ed:g.ah.length<=10000
 xO:∀e∈g.ah,e.aj.length<=1000/\e.ay.length<=1000
 inn:g.aj.length<=1000
 out:g.ay.length<=1000
def Po (tz:List Int) (l:List Int):Prop:=∀k∈l,0<=k/\k<tz.length
def DJ (xs:List Int) (w:World) (e:Ending) (w':World):Prop:=∃a c,e=.returned (.slice a xs.length c)/\Rw w' w.heap.size (.slice a xs.length c) xs/\Below w.heap.size w w'
theorem Eu.q {xs:List Int} {w w':World} {e:Ending} (h:Eu xs w e w'):DJ xs w e w':=by
 obtain⟨v,rfl,h1,h2⟩:=h;obtain⟨a,c,rfl⟩:=h1.slice;exact⟨a,c,rfl,h1,h2⟩
def AX (w:World) (B:Nat) (ve vi vo:Value) (g:aF):Prop:=∃C D,B<=C/\C<=D/\mW w D ve g.ah/\Rw w B vi g.aj/\Rw w C vo g.ay/\(∀j,vi.ownBlock=some j->j<C)/\(∀j,vo.ownBlock=some j->j<D)/\D<=w.heap.size
theorem AX.o {w:World} {B:Nat} {ve vi vo:Value} {g:aF} (h:AX w B ve vi vo g):dB w B ve vi vo g:=by
 obtain⟨C,D,h1,h2,h3,h4,h5,-⟩:=h;exact⟨h3.mono (ZI h1 h2),h4,h5.mono h1⟩
theorem AX.keep {w w':World} {B:Nat} {ve vi vo:Value} {g:aF} (hb:Below w.heap.size w w') (h:AX w B ve vi vo g):AX w' B ve vi vo g:=by
 obtain⟨C,D,h1,h2,h3,h4,h5,h6,h7,h8⟩:=h;exact⟨C,D,h1,h2,h3.keep hb,h4.keep hb,h5.keep hb,h6,h7,ZI h8 hb.size⟩
theorem AX.mono {w:World} {B B':Nat} {ve vi vo:Value} {g:aF} (hB:B'<=B) (h:AX w B ve vi vo g):AX w B' ve vi vo g:=by
 obtain⟨C,D,h1,h2,h3,h4,h5,h6⟩:=h;exact⟨C,D,ZI hB h1,h2,h3,h4.mono hB,h5,h6⟩
theorem AX.low {w:World} {B:Nat} {ve vi vo:Value} {g:aF} (h:AX w B ve vi vo g) {a:Addr} (ha:a.block<B) (u:Value):AX (w.setCell a u) B ve vi vo g:=by
 obtain⟨C,D,h1,h2,h3,h4,h5,h6⟩:=h;exact⟨C,D,h1,h2,h3.low (by omega) u,h4.other a u ha,h5.other a u (by omega),h6.1,h6.2.1,by rw[YB];exact h6.2.2⟩
def aem (g:aF) (w:World) (e:Ending) (w':World):Prop:=∃ve vi vo,e=.returned (.agg #[.int .i64 g.aB,ve,vi,vo])/\AX w' w.heap.size ve vi vo g/\Below w.heap.size w w'
def nZ (g:aF) (w:World) (e:Ending) (w':World):Prop:=∃ve vi vo,e=.returned (.agg #[.int .i64 g.aB,ve,vi,vo])/\dB w' w.heap.size ve vi vo g/\Below w.heap.size w w'
def allB (lo hi:Int) (zs:List Int):Bool:=zs.all λz=>inB z lo hi
theorem aay (v:Value) (zs:List Int) (lo hi:Int) (w:World) (hv:aU w v zs) (hn:zs.length<=1048576) :
  Calls Tryz.prog 78 #[v,.int .i64 lo,.int .i64 hi] w λe w'=>e=.returned (.bool (allB lo hi zs))/\w=w':=by
 obtain⟨a,cap,rfl,hc,hat⟩:=hv;go_enter Tryz.func78,Tryz.ntmps78;go_wp2;go_loopw [11] (λi wr=>∃k:Nat,k<=zs.length/\i=.int .i64 k/\wr=w/\∀j,∀h:j<zs.length,j<k->inB (zs[j]'h) lo hi=true) (λi _=>zs.length-(intOf i).toNat)
 case atStart=>exact⟨0,Zw _,rfl,by first|rfl|trivial,λj h1 h2=>by omega⟩
 case round =>
  obtain⟨k,hk,rfl,Ko,hall⟩:=hrel;subst Ko;have jO:=Za hall;clear hall;by_cases hlt:k<zs.length
  ·obtain⟨b,o,rfl,_,c0⟩:=hat k hlt;rw[Z2]at c0;have bz:=cell_lt c0;cases hb:inB zs[k] lo hi with
   | false =>
    have mJ:allB lo hi zs=false:=X8.2 ⟨_,Zp hlt,by simp[hb]⟩;have HF:=Za mJ;have HB:=Za hb;clear mJ hb hat
    go_wp2_with (go_at_call 46;refine(sD _ _ _ _).mono ?_;rintro r w2⟨rfl,rfl⟩;rw[HB.out])
    go_ret;exact⟨by rw[HF.out];rfl,rfl⟩
   | true =>
    have HB:=Za hb;clear hb hat
    go_wp2_with (go_at_call 46;refine(sD _ _ _ _).mono ?_;rintro r w2⟨rfl,rfl⟩;rw[HB.out])
    go_roundw
    case rel=>exact⟨k+1,by omega,by go_num,by first|rfl|trivial,λj h1 h2=>by
     rcases Yj j k with h|h
     ·exact jO.out j h1 h
     ·obtain rfl:j=k:=by omega
      exact HB.out⟩
    case measure=>simp[intOf];omega
  ·obtain rfl:k=zs.length:=by omega
   have mJ:allB lo hi zs=true:=Z7.2 λz hz=>by obtain⟨j,hj,rfl⟩:=Yl.1 hz;exact jO.out j hj hj
   have HF:=Za mJ;clear mJ hat
   go_wp2;go_ret;exact⟨by rw[HF.out];rfl,rfl⟩
theorem Ti (n:Int) (zs:List Int):allB 0 (n-1) zs=iL n zs:=rfl
theorem ah5 {e:aO} (h:inB e.kind 3 14=true):jB ⟨e.kind,e.value,⟨#[]⟩⟩=BK e.kind e.value:=by
 have h2:3<=e.kind/\e.kind<=14:=by simpa[inB]using h
 unfold jB BK MH;have e0:decide ((⟨#[]⟩:ByteArray)=ByteArray.empty)=true:=by decide
 simp only[e0,XW];rw[Yn (show 1<=e.kind by omega),Yn h2.2,ZH (show ¬e.kind=1 by omega)];by_cases h7:e.kind=7\/e.kind=13
 ·rw[ZE h7];rcases h7 with h7|h7<;>simp[h7,inB]
 ·rw[ZH h7];have h8:(e.kind==7 || e.kind==13)=false:=by simp;omega
  rw[h8];rw[YK];simp
def yJ (e:aO) (n:Int):Bool:=qB e&&(iL n e.aj&&iL n e.ay)
theorem apw (e:aO) (n:Int) (vi vo:Value) (w:World) (hn:0<=n/\n<=100) (hi:aU w vi e.aj) (ho:aU w vo e.ay) (aP:MI e) :
  Calls Tryz.prog 79 #[.agg #[.int .i64 e.kind,.int .i64 e.value,vi,vo],.int .i64 n] w (nH (yJ e n) w):=by
 obtain⟨a1,q1,rfl⟩:=hi.slice;obtain⟨a2,q2,rfl⟩:=ho.slice;have hA:=aH w (.cells #[.int .i64 e.kind,.int .i64 e.value,.slice a1 e.aj.length q1,.slice a2 e.ay.length q2] 102);cases hk:inB e.kind 3 14 with
 | false =>
  have HK:=Za hk;clear hk;go_enter Tryz.func79,Tryz.ntmps79;go_wp2_with (go_at_call 46;refine(sD _ _ _ _).mono ?_;rintro r w2⟨rfl,rfl⟩;rw[HK.out])
  go_ret;exact⟨by unfold yJ qB;rw[HK.out];rfl,hA⟩
 | true =>
  have qh:=ah5 hk;have Tj:=Dz ⟨e.kind,e.value,⟨#[]⟩⟩ (w.alloc (.cells #[.int .i64 e.kind,.int .i64 e.value,.slice a1 e.aj.length q1,.slice a2 e.ay.length q2] 102));rw[qh]at Tj;clear qh;have kE:=Bk.new w 102 #[.int .i64 e.kind,.int .i64 e.value,.slice a1 e.aj.length q1,.slice a2 e.ay.length q2];cases hv:BK e.kind e.value with
  | false =>
   rw[hv]at Tj;have HK:=Za (Zb hk hv);clear hk hv;go_enter Tryz.func79,Tryz.ntmps79;go_wp2_with (first|(go_at_call 46;refine(sD _ _ _ _).mono ?_;rintro r w2⟨rfl,rfl⟩;rw[HK.out.1])|(go_at_call 115;refine Tj.mono ?_;rintro r w2⟨rfl,aZ⟩))
   go_ret;exact⟨by unfold yJ qB;rw[HK.out.1,HK.out.2];rfl,hA.trans (aZ.mono hA.size)⟩
  | true =>
   rw[hv]at Tj;obtain⟨⟨k1,k2⟩,hK⟩:∃p,fJ e.kind=p:=⟨_,rfl⟩
   have hkd:=λu=>adL e.kind u;rw[hK]at hkd;have hE0:qB e=(decide (k1=(e.aj.length:Int))&&decide (k2=(e.ay.length:Int))):=by
    unfold qB;rw[hk,hv,hK];show(true&&(true&&decide _))=_;rw[XW,XW,<-Bool.decide_and];exact decide_eq_decide.2 (by rw[YG])
   have h1:IntKind.i64.wrap (n-1)=n-1:=Z8 _ (by omega);have HK:=Za (Zb hk hv);have HE:=Za hE0;have HW:=Za h1;clear hk hv hE0 hK h1;have nR:=hi.keep hA;have AB:=ho.keep hA;have hAz:=hA.size;obtain⟨bA,qF⟩:∃b,allB 0 (n-1) e.aj=b:=⟨_,rfl⟩
   have HA:=Za qF;clear qF;by_cases g1:k1=(e.aj.length:Int)
   all_goals by_cases g2:k2=(e.ay.length:Int)
   all_goals cases bA
   all_goals
    go_enter Tryz.func79,Tryz.ntmps79;go_wp2_with (go_at_call 46;refine(sD _ _ _ _).mono ?_;rintro r w2⟨rfl,rfl⟩;rw[HK.out.1])
    generalize(w.alloc (.cells #[.int .i64 e.kind,.int .i64 e.value,.slice a1 e.aj.length q1,.slice a2 e.ay.length q2] 102))=u0 at *;refine Tj.mono ?_;rintro r w2⟨rfl,aZ⟩;replace kE:=kE.keep aZ;replace nR:=nR.keep aZ;replace AB:=AB.keep aZ;replace hA:=hA.trans (aZ.mono hAz);clear Tj aZ hAz hi ho;obtain⟨i0,-,-⟩:=kE.cell;have d0:=i0 0;have d2:=i0 2;have d3:=i0 3;simp at d0 d2 d3;clear i0;go_wp2_with (first|(go_at_call 116;refine(hkd _).mono ?_;rintro r w2⟨rfl,rfl⟩)|(go_at_call 78;refine(aay _ _ _ _ _ (by first|exact nR|exact AB) (by first|exact aP.inn|exact aP.out)).mono ?_;rintro r w2⟨rfl,rfl⟩;(try rw[HA.out])))
    go_ret;refine⟨?_,hA⟩;unfold yJ;rw[HE.out,<-Ti n e.aj,<-Ti n e.ay,HA.out]
    first|simp[g1,g2]|(simp[g1];done)
def qj (n:Nat) (l:List Int):List Int:=(List.range n).map λw:Nat=>(l.count (w:Int):Int)
theorem DK (n:Nat) (l:List Int):(qj n l).length=n:=by simp[qj]
theorem Tm (n:Nat) (l:List Int) (k:Nat) (h:k<(qj n l).length):(qj n l)[k]=(l.count (k:Int):Int):=by simp[qj]
theorem ah6 (n:Nat):qj n []=List.replicate n 0:=by
 apply YT
 ·simp[qj]
 ·intro i h1 h2;simp[qj]
theorem ah7 (n:Nat) (l:List Int) (k:Nat) (hk:k<n):qj n (l++[(k:Int)])=(qj n l).set k ((l.count (k:Int):Int)+1):=by
 apply YT
 ·simp[qj]
 ·intro i h1 h2;rw[XP,Tm,Tm,Xe];by_cases h:k=i
  ·subst h;simp
  ·rw[ZH h];have:¬(k:Int)=(i:Int):=by omega
   simp[this]
theorem cnt_le (l:List Int) (x:Int):l.count x<=l.length:=Xu
theorem aen (a b:List Int) (x:Int):((a.count x:Int)+(b.count x:Int)=0)↔¬((a++b).contains x=true):=by
 have h:(a++b).count x=a.count x+b.count x:=Xe;have h2:0<(a++b).count x↔x∈a++b:=X4;have h3:(a++b).contains x=true↔x∈a++b:=by simp
 rw[h3,<-h2,h];omega
theorem Tn (n:Int) (a b:List Int):iL n (a++b)=(iL n a&&iL n b):=List.all_append
theorem aeo (n:Int):∀es:List aO,iL n (es.flatMap λe=>e.aj++e.ay)=es.all λe=>iL n e.aj&&iL n e.ay
 | []=>rfl
 | e::es=>by rw[Yt,Tn,Tn,aeo n es,Wz]
theorem ah8 {α:Type} (f g:α->Bool):∀l:List α,(l.all λx=>f x&&g x)=(l.all f&&l.all g)
 | []=>rfl
 | x::l=>by rw[Wz,Wz,Wz,ah8 f g l];cases f x<;>cases g x<;>cases l.all f<;>rfl
theorem mem_places (g:aF) (x:Int):x∈g.iM++g.iZ↔x∈g.places:=by
 unfold aF.iM aF.iZ aF.places;simp only[Zs,Z6];constructor
 ·rintro((h|⟨e,he,h⟩)|(h|⟨e,he,h⟩))
  ·exact .inl h
  ·exact .inr (.inr ⟨e,he,.inr h⟩)
  ·exact .inr (.inl h)
  ·exact .inr (.inr ⟨e,he,.inl h⟩)
 ·rintro(h|h|⟨e,he,h|h⟩)
  ·exact .inl (.inl h)
  ·exact .inr (.inl h)
  ·exact .inr (.inr ⟨e,he,h⟩)
  ·exact .inl (.inr ⟨e,he,h⟩)
theorem ah9 (g:aF):Du g=true↔∀w:Nat,(w:Int)<g.aB->¬((g.iM.count (w:Int):Int)+(g.iZ.count (w:Int):Int)=0):=by
 unfold Du;rw[Z7];constructor
 ·intro h w hw he;rw[aen]at he;have h1:=h w (ZW.2 (by omega));refine he ?_;rw[Yh]at h1 ⊢;exact(mem_places g _).2 h1
 ·intro h w hw;have h1:=h w (by have:=ZW.1 hw;omega);rw[aen,X9,Yh]at h1;rw[Yh];exact(mem_places g _).1 h1
def acp (g:aF):Bool:=Ej g&&(iL g.aB g.aj&&iL g.aB g.ay)
theorem aep (g:aF):aY g=(acp g&&((g.ah.all λe=>yJ e g.aB)&&Du g)):=by
 unfold aY acp aF.places yJ;rw[Tn,Tn,aeo,ah8 qB (λe=>iL g.aB e.aj&&iL g.aB e.ay) g.ah];generalize(g.ah.all λe=>iL g.aB e.aj&&iL g.aB e.ay)=q;generalize g.ah.all qB=r;generalize Du g=t;cases Ej g<;>cases r<;>cases iL g.aB g.aj<;>cases iL g.aB g.ay<;>cases q<;>cases t<;>rfl
theorem acr (n:Int) (l:List Int):iL n l=true↔∀x∈l,0<=x/\x<n:=by
 unfold iL;rw[Z7];constructor
 ·intro h x hx;have:=h x hx;simp[inB]at this;omega
 ·intro h x hx;have:=h x hx;simp[inB];omega
theorem apx (n:Nat) (l:List Int):allB 1 1 (qj n l)=true↔∀w:Nat,w<n->l.count (w:Int)=1:=by
 unfold allB qj;rw[Z7];constructor
 ·intro h w hw;have:=h _ (ZM.2 ⟨w,ZW.2 hw,rfl⟩);simp[inB]at this;omega
 ·intro h z hz;obtain⟨w,hw,rfl⟩:=ZM.1 hz;have:=h w (ZW.1 hw);simp[inB];omega
theorem aia (n:Int) (l:List Int) (hn:0<=n) (h:∀x∈l,0<=x/\x<n):uU l n=allB 1 1 (qj n.toNat l):=by
 have h2:=ang n.toNat l (λx hx=>⟨(h x hx).1,by have:=(h x hx).2;omega⟩);have h3:=apx n.toNat l;have h4:=(acr n l).2 h;unfold uU;rw[h4,XW,YK,h3,<-h2,Zu,decide_eq_true_iff,decide_eq_true_iff];constructor
 ·rintro⟨a,b⟩;exact⟨by omega,b⟩
 ·rintro⟨a,b⟩;exact⟨by omega,b⟩
theorem acs {g:aF} (h:aY g=true):(0<=g.aB/\g.aB<=100)/\∀x∈g.places,0<=x/\x<g.aB:=by
 unfold aY Ej at h;simp only[Zu]at h;obtain⟨⟨h1,-⟩,-,h2,-⟩:=h;exact⟨by simpa[inB]using h1,(acr _ _).1 h2⟩
theorem apy {g:aF} (h:aY g=true):monoB g=(allB 1 1 (qj g.aB.toNat g.iM)&&allB 1 1 (qj g.aB.toNat g.iZ)):=by
 obtain⟨⟨h1,-⟩,h2⟩:=acs h;unfold monoB;rw[aia _ _ h1 (λx hx=>h2 x ((mem_places g x).1 (Zs.2 (.inl hx)))),aia _ _ h1 (λx hx=>h2 x ((mem_places g x).1 (Zs.2 (.inr hx))))]
def aaz (g:aF) (w:World) (e:Ending) (w':World):Prop :=
 ∃v1 v2,e=.returned (.tuple #[v1,v2])/\aU w' v1 (qj g.aB.toNat g.iM)/\aU w' v2 (qj g.aB.toNat g.iZ)/\Below w.heap.size w w'
theorem apz (g:aF) (be bi bo:Option Addr) (de di dO:Nat) (w:World) (h:aY g=true)
  (hC:∀u,Below w.heap.size w u->Calls Tryz.prog 80 #[.agg #[.int .i64 g.aB,.slice be g.ah.length de,.slice bi g.aj.length di,.slice bo g.ay.length dO]] u (aaz g u)) :
  Calls Tryz.prog 73 #[.agg #[.int .i64 g.aB,.slice be g.ah.length de,.slice bi g.aj.length di,.slice bo g.ay.length dO]] w (nH (monoB g) w):=by
 have hA:=aH w (.cells #[.int .i64 g.aB,.slice be g.ah.length de,.slice bi g.aj.length di,.slice bo g.ay.length dO] 33);have hCC:=hC _ hA;clear hC;unfold aaz at hCC;have hm:=apy h;have iH:(qj g.aB.toNat g.iM).length<=1048576:=by rw[DK];have:=acs h;omega
 have hl2:(qj g.aB.toNat g.iZ).length<=1048576:=by rw[DK];have:=acs h;omega
 generalize qj g.aB.toNat g.iM=l1 at *;generalize qj g.aB.toNat g.iZ=l2 at *;have F9:∃b1,allB 1 1 l1=b1:=⟨_,rfl⟩
 obtain⟨b1,hb1⟩:=F9;have HM:=Za hm;have H1:=Za hb1;clear hm hb1 h;cases b1;all_goals
  go_enter Tryz.func73,Tryz.ntmps73;go_wp2_with fail
  generalize(w.alloc (.cells #[.int .i64 g.aB,.slice be g.ah.length de,.slice bi g.aj.length di,.slice bo g.ay.length dO] 33))=u0 at *;refine hCC.mono ?_;rintro r w2⟨v1,v2,rfl,CQ,hv2,hB⟩;have aT:=hA.trans (hB.mono hA.size);clear hB hA hCC;go_wp2_with (go_at_call 78;refine(aay _ _ _ _ _ (by first|exact CQ|exact hv2) (by first|exact iH|exact hl2)).mono ?_;rintro r w2⟨rfl,rfl⟩;(try rw[H1.out]))
  go_ret;exact⟨by rw[HM.out,H1.out];first|rfl|simp,aT⟩
structure rU (w0 w:World) (bf bt n:Nat) (a b:List Int):Prop where
 bel:Below w0.heap.size w0 w
 lo:w0.heap.size<=bf/\w0.heap.size<=bt
 ne:bf≠bt
 rf:w.ownsRow w0.heap.size 3 1 (.slice (some ⟨bf,0,none⟩) n n) n ((qj n a).flatMap gU)
 rt:w.ownsRow w0.heap.size 3 1 (.slice (some ⟨bt,0,none⟩) n n) n ((qj n b).flatMap gU)
theorem rU.keep {w0 w w':World} {bf bt n:Nat} {a b:List Int} (h:rU w0 w bf bt n a b) (hb:Below w.heap.size w w'):rU w0 w' bf bt n a b :=
 ⟨h.bel.trans (hb.mono h.bel.size),h.lo,h.ne,jL hb h.rf,jL hb h.rt⟩
theorem rU.from {w0 w:World} {bf bt n:Nat} {a b:List Int} (h:rU w0 w bf bt n a b) (k:Nat) (hk:k<n) :
  rU w0 (w.setCell ⟨bf,k,none⟩ (.int .i64 ((a.count (k:Int):Int)+1))) bf bt n (a++[(k:Int)]) b:=by
 obtain⟨h1,h2,h3,h4,h5⟩:=h;refine⟨h1.setCell h2.1 _,h2,h3,?_,eP h5 _ _ (by simp[Value.ownBlock];exact λe=>h3 e.symm)⟩;rw[ah7 n a k hk];exact Ap sF h4 k 0 k (by rw[DK];exact hk) (by omega) (by omega) _ _ (by rfl)
theorem rU.to {w0 w:World} {bf bt n:Nat} {a b:List Int} (h:rU w0 w bf bt n a b) (k:Nat) (hk:k<n) :
  rU w0 (w.setCell ⟨bt,k,none⟩ (.int .i64 ((b.count (k:Int):Int)+1))) bf bt n a (b++[(k:Int)]):=by
 obtain⟨h1,h2,h3,h4,h5⟩:=h;refine⟨h1.setCell h2.2 _,h2,h3,eP h4 _ _ (by simp[Value.ownBlock];exact h3),?_⟩;rw[ah7 n b k hk];exact Ap sF h5 k 0 k (by rw[DK];exact hk) (by omega) (by omega) _ _ (by rfl)
theorem rU.cf {w0 w:World} {bf bt n:Nat} {a b:List Int} (h:rU w0 w bf bt n a b) (k:Nat) (hk:k<n) :
  w.cell? ⟨bf,k,none⟩=some (.int .i64 (a.count (k:Int):Int))/\w.frozen? ⟨bf,k,none⟩=false:=by
 have s0:=mV sF h.rf k 0 (by rw[DK];exact hk) (by omega);rw[Tm]at s0;simp only[gU,Z2,YC,Zc]at s0;exact⟨s0,h.rf.frozenAt k⟩
theorem rU.ct {w0 w:World} {bf bt n:Nat} {a b:List Int} (h:rU w0 w bf bt n a b) (k:Nat) (hk:k<n) :
  w.cell? ⟨bt,k,none⟩=some (.int .i64 (b.count (k:Int):Int))/\w.frozen? ⟨bt,k,none⟩=false:=by
 have s0:=mV sF h.rt k 0 (by rw[DK];exact hk) (by omega);rw[Tm]at s0;simp only[gU,Z2,YC,Zc]at s0;exact⟨s0,h.rt.frozenAt k⟩
theorem rU.ints {w0 w:World} {bf bt n:Nat} {a b:List Int} (h:rU w0 w bf bt n a b) :
  aU w (.slice (some ⟨bf,0,none⟩) n n) (qj n a)/\aU w (.slice (some ⟨bt,0,none⟩) n n) (qj n b):=by
 refine⟨Rw.at (B:=w0.heap.size) ?_,Rw.at (B:=w0.heap.size) ?_⟩
 ·unfold Rw;rw[DK];exact h.rf
 ·unfold Rw;rw[DK];exact h.rt
theorem rU.start {w0 w:World} {bf bt n:Nat} (h1:Below w0.heap.size w0 w) (h2:w0.heap.size<=bf/\w0.heap.size<=bt) (h3:bf≠bt)
  (h4:w.ownsRow w0.heap.size 3 1 (.slice (some ⟨bf,0,none⟩) n n) n (madeCells (gU 0).toArray (n*1)).toList)
  (h5:w.ownsRow w0.heap.size 3 1 (.slice (some ⟨bt,0,none⟩) n n) n (madeCells (gU 0).toArray (n*1)).toList):rU w0 w bf bt n [] []:=by
 have hz:=vZ (f:=gU) (0:Int) n (sz:=1) (by omega) rfl;rw[hz]at h4 h5;refine⟨h1,h2,h3,?_,?_⟩
 ·rw[ah6];exact h4
 ·rw[ah6];exact h5
theorem take_one {α:Type} (l:List α) (k:Nat) (h:k<l.length):l.take (k+1)=l.take k++[l[k]]:=Zv h
theorem aer {α β:Type} (f:α->List β) (l:List α) (k:Nat) (h:k<l.length):(l.take (k+1)).flatMap f=(l.take k).flatMap f++f l[k]:=by
 rw[take_one l k h,ZL];simp
theorem aaA {g:aF}:(∀x∈g.aj,x∈g.places)/\(∀x∈g.ay,x∈g.places)/\∀k,∀h:k<g.ah.length,(∀x∈(g.ah[k]'h).aj,x∈g.places)/\∀x∈(g.ah[k]'h).ay,x∈g.places:=by
 unfold aF.places;refine⟨λx h=>by simp[h],λx h=>by simp[h],λk h=>⟨λx hx=>?_,λx hx=>?_⟩⟩
 ·simp only[Zs,Z6];exact .inr (.inr ⟨_,Zp h,.inl hx⟩)
 ·simp only[Zs,Z6];exact .inr (.inr ⟨_,Zp h,.inr hx⟩)
structure Tv (w wr:World) (bA C D:Nat) (cnt:Int) (vi vo:Value) (li lo:List Int) (L:List aO) (a:Option Addr) (n c:Nat) (xs:List fF):Prop where
 blk:Bk wr bA 33 #[.int .i64 cnt,.slice a n c,vi,vo]
 row:mO wr D (.slice a n c) xs
 len:n=xs.length
 fst:xs.map Prod.fst=L
 inn:Rw wr w.heap.size vi li
 out:Rw wr C vo lo
 bel:Below w.heap.size w wr
 lo:w.heap.size<=bA
 sz:D<=wr.heap.size
theorem Tv.keep {w wr w':World} {bA C D:Nat} {cnt:Int} {vi vo:Value} {li lo:List Int} {L:List aO} {a:Option Addr} {n c:Nat} {xs:List fF} (h:Tv w wr bA C D cnt vi vo li lo L a n c xs) (hb:Below wr.heap.size wr w'):Tv w w' bA C D cnt vi vo li lo L a n c xs :=
 ⟨h.blk.keep hb,h.row.keep hb,h.len,h.fst,h.inn.keep hb,h.out.keep hb,h.bel.trans (hb.mono h.bel.size),h.lo,ZI h.sz hb.size⟩
theorem aib (g:aF) (ve vi vo vt:Value) (tz:List Int) (cnt:Int) (w:World) (hR:dM w ve vi vo g) (aP:Tf g) (ht:aU w vt tz) (Em:tz.length<=1000) (bV:Po tz g.places) :
  Calls Tryz.prog 82 #[.agg #[.int .i64 g.aB,ve,vi,vo],vt,.int .i64 cnt] w (aem (mZ g cnt tz) w):=by
 obtain⟨⟨ae,ce,rfl⟩,⟨ai,ci,rfl⟩,ao,co,rfl⟩:=hR.slices;obtain⟨pt,ct,rfl⟩:=ht.slice;have DL:=λ(u:World) (hu:Below w.heap.size w u) (v:Value) (l:List Int) (hv:aU u v l) (hl:Po tz l) (hn:l.length<=1000)=>(ahx _ v tz l u (ht.keep hu) hv hl (by omega) (by omega)).mono (R':=DJ (aG tz l) u) λ_ _ h=>h.q;obtain⟨zk,rH,AY⟩:=aaA (g:=g);have lK:=Za bV;have HP:=Za (Zb zk (Zb rH AY));have jf:=Za aP;have vG:=Za DL;clear DL zk rH AY bV;have aQ:=aH w (.cells #[.int .i64 g.aB,.slice ae g.ah.length ce,.slice ai g.aj.length ci,.slice ao g.ay.length co] 33);have aT:=aH (w.alloc (.cells #[.int .i64 g.aB,.slice ae g.ah.length ce,.slice ai g.aj.length ci,.slice ao g.ay.length co] 33)) (.cells #[.int .i64 0,.slice none 0 0,.slice none 0 0,.slice none 0 0] 33);have hB:=aQ.trans (aT.mono aQ.size);have kG:=(Bk.new w 33 #[.int .i64 g.aB,.slice ae g.ah.length ce,.slice ai g.aj.length ci,.slice ao g.ay.length co]).keep aT;have kR:=Bk.new (w.alloc (.cells #[.int .i64 g.aB,.slice ae g.ah.length ce,.slice ai g.aj.length ci,.slice ao g.ay.length co] 33)) 33 #[.int .i64 0,.slice none 0 0,.slice none 0 0,.slice none 0 0];simp only[Zn]at kR;clear aQ aT;go_enter Tryz.func82,Tryz.ntmps82;go_wp2_with fail
 generalize((w.alloc (.cells #[.int .i64 g.aB,.slice ae g.ah.length ce,.slice ai g.aj.length ci,.slice ao g.ay.length co] 33)).alloc (.cells #[.int .i64 0,.slice none 0 0,.slice none 0 0,.slice none 0 0] 33))=u0 at *;have HR1:=Za kR.lt;obtain⟨iG,-,zG⟩:=kG.cell;have g1:=iG 1;have g2:=iG 2;have g3:=iG 3;simp at g1 g2 g3;clear iG;have fH:∀{w':World},aC dD u0.drew w'->Below u0.heap.size u0 w':=λh=>(Zl u0.heap.size u0).drew.trans (h.toBelow.mono (by simp));refine h_ (C:=aC (dD) _) 4 [0,1,2,3,4,5,6,7,8,9,10,11] (by kernel_rfl) (by kernel_rfl) (aC.aJ _ _) (aC.refl _ _) ?_;iterate 4 (apply dh rfl rfl rfl;(focus intro u hc' hf';go_simp<;>rfl);intro K hK;go_simp;apply hK;clear hK K)
 refine fD rfl rfl rfl (aC.aJ _ _) (aC.refl _ _) 117 (λK hK=>?_);apply Zq;refine⟨λw' hw'=>?_,λwa bT bZ=>?_⟩;(focus go_simp;rfl);refine(vG.out _ (hB.trans ((fH bT).mono hB.size)) _ g.aj (hR.inn.keep (hB.trans ((fH bT).mono hB.size))) (λk hk=>lK.out k (HP.out.1 k hk)) jf.out.inn).mono ?_;rintro e w3⟨a3,c3,rfl,hr3,hb3⟩;refine⟨_,rfl,hb3,λhx=>?_⟩;go_simp;apply hK;clear hK K;iterate 3 (apply dh rfl rfl rfl;(focus intro u hc' hf';go_simp<;>rfl);intro K hK;go_simp;apply hK;clear hK K)
 refine fD rfl rfl rfl (aC.aJ _ _) (hx) 117 (λK hK=>?_);apply Zq;refine⟨λw' hw'=>?_,λwb dJ dH=>?_⟩;(focus go_simp;rfl);refine(vG.out _ (hB.trans ((fH dJ).mono hB.size)) _ g.ay (hR.out.keep (hB.trans ((fH dJ).mono hB.size))) (λk hk=>lK.out k (HP.out.2.1 k hk)) jf.out.out).mono ?_;rintro e w4⟨a4,c4,rfl,hr4,hb4⟩;refine⟨_,rfl,hb4,λhx=>?_⟩;go_simp;apply hK;clear hK K;iterate 1 (apply dh rfl rfl rfl;(focus intro u hc' hf';go_simp<;>rfl);intro K hK;go_simp;apply hK;clear hK K)
 refine ku rfl rfl rfl (aC.aJ _ _) hx (λb=>.pointer (some ⟨b,0,none⟩)) (λK hK=>?_);apply Zq;refine⟨λw' hw'=>?_,λbA w7 f_ dA aW hNb d_=>?_⟩
 ·go_simp;rfl
 go_simp;refine hK _ _ _ ?_;clear hK K;refine jd rfl rfl rfl (aC.aJ _ _) f_ (λK hK=>?_);intro w8 dY bJ;have kO:Bk w8 bA 33 #[.int .i64 0,.slice none 0 0,.slice none 0 0,.slice none 0 0]:=(bJ.block bA (made_cell aW).2.2).trans aW;obtain⟨m0,m1,m2⟩:=kO.cell;refine⟨(((w8.setCell ⟨bA,0,none⟩ (.int .i64 cnt)).setCell ⟨bA,1,none⟩ (.slice none 0 0)).setCell ⟨bA,2,none⟩ (.slice a3 (aG tz g.aj).length c3)).setCell ⟨bA,3,none⟩ (.slice a4 (aG tz g.ay).length c4),?_,⟨bF (bF (bF (bF dY (.inl hNb) _) (.inl hNb) _) (.inl hNb) _) (.inl hNb) _,by simp,λj _ hj _=>by rw[Zm _ _ _ _ (λh=>hj (by simp[h])),Zm _ _ _ _ (λh=>hj (by simp[h])),Zm _ _ _ _ (λh=>hj (by simp[h])),Zm _ _ _ _ (λh=>hj (by simp[h]))]⟩,?_⟩
 ·go_simp
 go_simp;refine hK _ _ _ ?_;clear hK K;refine dR ?_;have qF:u0.heap.size<=bA:=by simpa using hNb
 have Nq:w.heap.size<=u0.heap.size:=hB.size;have Nr:=bJ.size;obtain⟨C,D,hC,hD,hst,aaB⟩:∃C D,u0.heap.size<=C/\C<=D/\Tv u0 ((((w8.setCell ⟨bA,0,none⟩ (.int .i64 cnt)).setCell ⟨bA,1,none⟩ (.slice none 0 0)).setCell ⟨bA,2,none⟩ (.slice a3 (aG tz g.aj).length c3)).setCell ⟨bA,3,none⟩ (.slice a4 (aG tz g.ay).length c4)) bA C D cnt (.slice a3 (aG tz g.aj).length c3) (.slice a4 (aG tz g.ay).length c4) (aG tz g.aj) (aG tz g.ay) [] none 0 0 []/\(∀j,(Value.slice a3 (aG tz g.aj).length c3).ownBlock=some j->j<C)/\∀j,(Value.slice a4 (aG tz g.ay).length c4).ownBlock=some j->j<D:=by
  have uG:Below w4.heap.size w4 w8:=dA.trans (bJ.mono dA.size);have vH:=hr4.keep uG;have jD:=(fH dJ).size;have hbz:=dH.size;have apA:=hb4.size;have aes:=uG.size;have tC:=(((hr3.keep dH).keep hb4).keep uG).mono (B':=u0.heap.size) (by have:=(fH bT).size;omega);have k1:=kO.set 0 (.int .i64 cnt);have k2:=k1.set 1 (.slice none 0 0);have k3:=k2.set 2 (.slice a3 (aG tz g.aj).length c3);have k4:=k3.set 3 (.slice a4 (aG tz g.ay).length c4);refine⟨wb.heap.size,w8.heap.size,jD,by omega,⟨k4,mO.nil _ _,rfl,rfl,?_,?_,?_,qF,by simp⟩,λj hj=>Yc (Zh hr3 j hj).2 hbz,λj hj=>Yc (Zh hr4 j hj).2 aes⟩
  ·exact eP (eP (eP (eP tC _ _ (cO tC kO (by decide))) _ _ (cO tC kO (by decide))) _ _ (cO tC kO (by decide))) _ _ (cO tC kO (by decide))
  ·exact eP (eP (eP (eP vH _ _ (cO vH kO (by decide))) _ _ (cO vH kO (by decide))) _ _ (cO vH kO (by decide))) _ _ (cO vH kO (by decide))
  ·exact((((fH dY).setCell qF _).setCell qF _).setCell qF _).setCell qF _
 have DN:=Za (Zb hC (Zb hD aaB));clear aaB;clear hx bT bZ dJ dH f_ dA aW hNb d_ dY bJ hr3 hr4 hb3 hb4 kO m0 m1 m2 g1 g2 g3 zG fH Nr;generalize((((w8.setCell ⟨bA,0,none⟩ (.int .i64 cnt)).setCell ⟨bA,1,none⟩ (.slice none 0 0)).setCell ⟨bA,2,none⟩ (.slice a3 (aG tz g.aj).length c3)).setCell ⟨bA,3,none⟩ (.slice a4 (aG tz g.ay).length c4))=W at *;generalize(aG tz g.aj).length=ni at *;generalize(aG tz g.ay).length=no at *;replace kG:=kG.keep hst.bel;obtain⟨iG,-,zG⟩:=kG.cell;have g1:=iG 1;simp at g1;clear iG;go_wp2_with fail
 clear g1 zG kG;obtain⟨pe,JO,rV,hce,yj⟩:=hR.ed;simp only[Zx]at rV;obtain⟨rfl,-,rfl⟩:=rV;have Cb:=jf.out.ed;go_loopw [23] (λi wr=>∃k:Nat,k<=g.ah.length/\i=.int .i64 k/\∃a n c xs,Tv u0 wr bA C D cnt (.slice a3 ni c3) (.slice a4 no c4) (aG tz g.aj) (aG tz g.ay) ((g.ah.take k).map (jm tz)) a n c xs) (λi _=>g.ah.length-(intOf i).toNat)
 case atStart=>exact⟨0,Zw _,rfl,none,0,0,[],hst⟩
 case round =>
  clear hst;obtain⟨k,hk,rfl,a,n,c,xs,hst⟩:=hrel;by_cases hlt:k<g.ah.length
  ·obtain⟨b,o,rfl,_,dI⟩:=yj k hlt;have dF:=hB.trans (hst.bel.mono hB.size);obtain⟨d0,d1,x1,x2,d2,d3,hi,ho⟩:=dI.keep dF;have yt:=HP.out.2.2 k hlt;have AZ:=jf.out.xO _ (Zp hlt);have A8:=take_one g.ah k hlt;obtain⟨e,he⟩:∃e,g.ah[k]=e:=⟨_,rfl⟩
   rw[he]at d0 d1 hi ho yt AZ A8;obtain⟨a1,q1,rfl⟩:=hi.slice;obtain⟨a2,q2,rfl⟩:=ho.slice;have bz:=cell_lt d0;have lC:xs.length=k:=by have:=congrArg List.length hst.fst;simp at this;omega
   have oC:=Za lC;have uH:=Za (Zb yt AZ);have HTI:=Za A8;have oP:=aH wr (.cells #[.int .i64 e.kind,.int .i64 e.value,.slice a1 e.aj.length q1,.slice a2 e.ay.length q2] 102);have kE:=Bk.new wr 102 #[.int .i64 e.kind,.int .i64 e.value,.slice a1 e.aj.length q1,.slice a2 e.ay.length q2];have dS:=hst.keep oP;have DR:=hst.len;have hb1:=dS.bel;replace hi:=hi.keep oP;replace ho:=ho.keep oP;clear yj dI he yt AZ A8 hst lC;go_wp2_with fail
   generalize(wr.alloc (.cells #[.int .i64 e.kind,.int .i64 e.value,.slice a1 e.aj.length q1,.slice a2 e.ay.length q2] 102))=u1 at *;clear d0 d1 d2 d3 bz oP;obtain⟨iE,-,zE⟩:=kE.cell;have e0:=iE 0;have e1:=iE 1;have e2:=iE 2;have e3:=iE 3;simp at e0 e1 e2 e3;obtain⟨iO,-,zO⟩:=dS.blk.cell;have o1:=iO 1;simp at o1;clear iE iO;generalize wr.heap.size=E at *;have rD:=hB.trans (hb1.mono hB.size);have gW:∀{w':World},aC dD u1.drew w'->Below u1.heap.size u1 w':=λh=>(Zl u1.heap.size u1).drew.trans (h.toBelow.mono (by simp));have HN:=Za DR;clear DR;refine yh (C:=aC (dD) _) 9 [0,1,2,3,4,5,6,7,8,9,10,11,12,13,14,15] [16,17,18] (by kernel_rfl) (by kernel_rfl) (aC.aJ _ _) (aC.refl _ _) ?_;iterate 9 (apply dh rfl rfl rfl;(focus intro u hc' hf';go_simp<;>rfl);intro K hK;go_simp;apply hK;clear hK K)
   refine fD rfl rfl rfl (aC.aJ _ _) (aC.refl _ _) 117 (λK hK=>?_);apply Zq;refine⟨λw' hw'=>?_,λwa bT bZ=>?_⟩;(focus go_simp;rfl);refine(vG.out _ (rD.trans ((gW bT).mono rD.size)) _ e.aj (hi.keep (gW bT)) (λk hk=>lK.out k (uH.out.1.1 k hk)) uH.out.2.1).mono ?_;rintro e w3⟨a5,c5,rfl,jP,bH⟩;refine⟨_,rfl,bH,λhx=>?_⟩;go_simp;apply hK;clear hK K;iterate 3 (apply dh rfl rfl rfl;(focus intro u hc' hf';go_simp<;>rfl);intro K hK;go_simp;apply hK;clear hK K)
   refine fD rfl rfl rfl (aC.aJ _ _) (hx) 117 (λK hK=>?_);apply Zq;refine⟨λw' hw'=>?_,λwb dJ dH=>?_⟩;(focus go_simp;rfl);refine(vG.out _ (rD.trans ((gW dJ).mono rD.size)) _ e.ay (ho.keep (gW dJ)) (λk hk=>lK.out k (uH.out.1.2 k hk)) uH.out.2.2).mono ?_;rintro e w4⟨a6,c6,rfl,fQ,aV⟩;refine⟨_,rfl,aV,λhx=>?_⟩;go_simp;apply hK;clear hK K;iterate 1 (apply dh rfl rfl rfl;(focus intro u hc' hf';go_simp<;>rfl);intro K hK;go_simp;apply hK;clear hK K)
   refine ku rfl rfl rfl (aC.aJ _ _) (hx) (λb=>.slice (some ⟨b,0,none⟩) 1 1) (λK hK=>?_);apply Zq;refine⟨λw' hw'=>?_,λbb w5 gu jT aW hNb d_=>?_⟩
   ·obtain⟨hc',hf'⟩:=hw'.cell
    try simp only[Zo]at hc' hf'
    go_simp;rfl
   go_simp;refine hK _ _ _ ?_;clear hK K;refine dR ?_;have qG:Below u1.heap.size u1 w5:=gW gu;have aeu:=hb1.size;have acu:=qG.size;have hsz:=dS.sz;have ji:mO w5 D (.slice a n c) xs:=dS.row.keep qG;have tK:=dS.blk.keep qG;have aic:=tK.lt;have hia:=(gW bT).size;have hib:=(gW dJ).size;have Gf:=((((jP.keep dH).keep aV).keep jT).mono (B':=D) (by omega))
   have CV:=((fQ.keep jT).mono (B':=D) (by omega))
   have nS:zo w5 D [(jm tz e,.slice a5 (aG tz e.aj).length c5,.slice a6 (aG tz e.ay).length c6)]:=λy hy=>by
    obtain rfl:=ZS.1 hy;exact⟨Gf,CV⟩
   have Pq:xs.length+1<=100000:=by have:=oC.out;omega
   refine⟨aC (λj=>j=bA\/(Value.slice a n c).ownBlock=some j) w5,w5.heap.size,aC.aJ _ _,aC.refl _ _,?_⟩;refine aco rfl rfl rfl (aC.refl _ _) (.tmp 28) (.tmp 42) rfl D (.slice a n c) xs [(jm tz e,.slice a5 (aG tz e.aj).length c5,.slice a6 (aG tz e.ay).length c6)] bb 1 1 rfl rfl rfl (λj hj=>.inl ⟨(Zh ji.row j hj).2,.inr hj⟩) (by omega) Pq ji nS (by simpa[nK,jm]using aW) ?_;intro K hK w6 w7 v7 jk jQ dL hgr f_ yu;obtain⟨a7,c7,oQ⟩:=dL.shape;rw[Zk,ZT]at oQ;subst oQ;go_simp;refine hK _ _ _ ?_;clear hK K;iterate 1 (apply i_ rfl rfl rfl;(focus intro u hc' hf';(try simp only[Zo]at hc' hf');go_simp<;>rfl);intro K hK;go_simp;apply hK;clear hK K)
   refine jd rfl rfl rfl (aC.aJ _ _) f_ (λK hK=>?_);intro w8 dY jY;have zH:Bk w8 bA 33 #[.int .i64 cnt,.slice a n c,.slice a3 ni c3,.slice a4 no c4]:=((tK.keep jQ).grown hgr (cO ji.row tK (by decide))).keep jY;obtain⟨m0,m1,m2⟩:=zH.cell;refine⟨w8.setCell ⟨bA,1,none⟩ (.slice a7 (xs.length+1) c7),?_,⟨bF dY (.inr (.inl rfl)) _,by simp,λj hN _ _=>by rw[Zm _ _ _ _ (λh=>by simp at h;omega)]⟩,?_⟩
   ·go_simp
   go_simp;refine hK _ _ _ ?_;clear hK K;refine dR ?_;have aaC:=dL.keep jY;have Pv:Below u0.heap.size w5 w7:=((Zl _ _).trans (jQ.mono (by omega))).grown hgr (by have:=jQ.size;omega) (λj hj=>ZI (ZI DN.out.1 DN.out.2.1) (Zh ji.row j hj).1);have aev:=Pv.size;have aew:=jY.size;have Px:Below u0.heap.size u0 w7:=(hb1.trans (qG.mono aeu)).trans Pv;have mv:∀(B':Nat) (u:Value) zs,Rw u1 B' u zs->Rw (w8.setCell ⟨bA,1,none⟩ (.slice a7 (xs.length+1) c7)) B' u zs:=λB' u zs hu=>by
    have h5:=hu.keep qG;have h8:=((h5.keep jQ).grown hgr (λk hk e=>wC h5 ji.row (by decide) k hk e)).keep jY;exact eP h8 _ _ (cO h8 zH (by decide))
   have Ns:Tv u0 (w8.setCell ⟨bA,1,none⟩ (.slice a7 (xs.length+1) c7)) bA C D cnt (.slice a3 ni c3) (.slice a4 no c4) (aG tz g.aj) (aG tz g.ay) ((g.ah.take (k+1)).map (jm tz)) a7 (xs.length+1) c7 (xs++[(jm tz e,.slice a5 (aG tz e.aj).length c5,.slice a6 (aG tz e.ay).length c6)]) :=
    ⟨zH.set 1 _,aaC.setB zH (by decide) (by decide) 1 _,by simp,by rw[ZK,dS.fst,HTI.out,ZK];rfl,mv _ _ _ dS.inn,mv _ _ _ dS.out,(Px.trans (jY.mono (by have:=Px.size;omega))).setCell dS.lo _,dS.lo,by simp;omega⟩
   have HST:=Za Ns;clear Ns mv Px Pv aev aew hsz aaC zH m0 m1 m2 dY jY hgr f_ yu dL jk jQ nS Gf CV ji tK aW hNb d_ gu jT hx bT bZ dJ dH jP fQ bH aV gW e0 e1 e2 e3 o1 kE zE zO hi ho dS;go_wp2;go_roundw
   case rel=>exact⟨k+1,by omega,by go_num,a7,_,c7,_,HST.out⟩
   case measure=>simp[intOf];omega
  ·obtain rfl:k=g.ah.length:=by omega
   rw[ZY]at hst;have oD:=hst.fst;have dL:=hst.row.o;rw[oD]at dL;have hG:AX wr u0.heap.size (.slice a n c) (.slice a3 ni c3) (.slice a4 no c4) (mZ g cnt tz):=⟨C,D,DN.out.1,DN.out.2.1,dL,hst.inn,hst.out,DN.out.2.2.1,DN.out.2.2.2,hst.sz⟩
   have b_:=hB.trans (hst.bel.mono hB.size);replace kR:=kR.keep hst.bel;obtain⟨iR,fR,zR⟩:=kR.cell;obtain⟨iO,-,zO⟩:=hst.blk.cell;have eU:w.heap.size+1<u0.heap.size:=HR1.out;have HG:=Za hG;clear yj oD dL hG hst;go_wp2;refine Zt (v:=.agg #[.int .i64 cnt,.slice a n c,.slice a3 ni c3,.slice a4 no c4]) (by simp[results,Tryz.results82,go_sem,iR]) rfl ⟨_,_,_,rfl,?_,?_⟩
   ·exact(((((HG.out).low (a:=⟨w.heap.size+1,0,none⟩) eU _).low (a:=⟨w.heap.size+1,1,none⟩) eU _).low (a:=⟨w.heap.size+1,2,none⟩) eU _).low (a:=⟨w.heap.size+1,3,none⟩) eU _).mono hB.size
   ·exact(((b_.setCell (by simp) _).setCell (by simp) _).setCell (by simp) _).setCell (by simp) _
end Go.Proofs.YtkhpobekconobaaGreat
