import Derived.Test.YtkhpobekconobaaGreatHAE
set_option linter.all false
set_option maxRecDepth 100000
set_option maxHeartbeats 0
namespace Go.Proofs.YtkhpobekconobaaGreat
open Go.RowKit
def AO (w:World) (sz:Nat) (x:Value) (m:Nat) (news:List Value):Prop :=
 news.length=m*sz/\((m=0/\∃c,x=.slice none 0 c)\/∃ad c,x=.slice (some ad) m c/\∀j u,news[j]?=some u->w.cell? (ad.add j)=some u)
theorem aho {P:Program} (w:World) (base:Nat) (t ty e:TypeId) (i:TypeInfo) (z:Value) (size bytes:Nat) (ht:P.underlying t=some (.slice e)) (hi:P.info? e=some i) (hz:i.zero=some z)
  (hsize:i.size=size) (hby:i.bytes=bytes) (hzs:z.cells.size=size) (hsz:0<size)
  (v:Value) (n:Nat) (xs:List Value) (hown:w.ownsRow base e size v n xs) (x:Value) (m:Nat) (news:List Value) (hx:AO w size x m news) (h1:∀u∈news,u.oneCell'=true)
  (h63:n+m<=maxLen) (hbytes:(n+m)*bytes<=140737488355328) (hbase:base<=w.heap.size) :
  ∃v' w',(Builtin.append_ #[t,t] ty #[v,x]).run P w=.ok v' w'/\w'.ownsRow base e size v' (n+m) (xs++news)/\w.grownBy w' v.ownBlock/\(v'.ownBlock=v.ownBlock\/v'.ownBlock=some w.heap.size):=by
 obtain⟨hl,hx⟩:=hx;rcases hx with⟨rfl,c,rfl⟩|⟨ad,c,rfl,hc⟩
 ·have hn:news=[]:=Y4 (by simpa using hl);subst hn;have hgr:w.grownBy w v.ownBlock:=⟨rfl,rfl,rfl,Zj _,λ_ _ _=>rfl⟩
  rcases hown.2 with⟨rfl,rfl⟩|⟨g,cap,cur,rfl,hbg,hg,hnc,hcm,hcs,an7⟩
  ·refine⟨.slice none 0 0,w,?_,by simpa using hown,hgr,.inl rfl⟩;simp[Builtin.append_,Vq ht,sizeOf,typeInfo,hi,Builtin.lenOf,Builtin.firstCells]
  ·refine⟨_,w,?_,by simpa using hown,hgr,.inl rfl⟩;simp[Builtin.append_,Vq ht,sizeOf,typeInfo,hi,Builtin.lenOf,Builtin.firstCells,hnc,storeCells]
 ·obtain⟨v',w',r1,r2,r3,_,r5⟩:=run_append_own_at (P:=P) w base t ty e i z size bytes ht hi hz hsize hby hzs hsz v n xs hown ad m c news hl hc h1 h63 hbytes hbase;exact⟨v',w',r1,r2,r3,r5⟩
theorem JQ {P:Program} {w:World} {ops:Array Oper} {rest:List Oper} {o:Oper} {a:Act} {Q:Exit->Act->World->Prop} (hgd:o.guard=none) (s x:Operand) (t:TypeId)
  (ho:o.op=.call { callee:=.builtin .append,args:=#[s,x],argTypes:=#[t,t] })
  (base:Nat) (e:TypeId) (i:TypeInfo) (z:Value) (size bytes:Nat) (ht:P.underlying t=some (.slice e)) (hi:P.info? e=some i) (hz:i.zero=some z)
  (hsize:i.size=size) (hby:i.bytes=bytes) (hzs:z.cells.size=size) (hsz:0<size)
  (v:Value) (n:Nat) (xs:List Value) (hs:a.eval s=v) (hown:w.ownsRow base e size v n xs) (u:Value) (m:Nat) (news:List Value) (hu:a.eval x=u) (hx:AO w size u m news) (h1:∀u∈news,u.oneCell'=true)
  (h63:n+m<=maxLen) (hbytes:(n+m)*bytes<=140737488355328) (hbase:base<=w.heap.size)
  (h:∀v' w',w'.ownsRow base e size v' (n+m) (xs++news)->w.grownBy w' v.ownBlock->(v'.ownBlock=v.ownBlock\/v'.ownBlock=some w.heap.size)->wpList P ops Q rest (a.put o.dst v') w'):wpList P ops Q (o::rest) a w:=by
 refine wpList_plain hgd λK hK=>?_;obtain⟨v',w',hr,r2,r3,r5⟩:=aho (P:=P) w base t o.type e i z size bytes ht hi hz hsize hby hzs hsz v n xs hown u m news hx h1 h63 hbytes hbase;unfold Oper.wp execOp;simp only[ho,resolve,invoke,builtin,VJ,VI,WH,List.map_toArray,Yx,Xq,hs,hu,hr];exact hK _ _ (h v' w' r2 r3 r5)
section
variable {P:Program} {ops:Array Oper} {Q:Exit -> Act -> World -> Prop} {T:Nat -> Prop} {w0:World}
def more (bs:Nat->Prop) (w1 w2:World):Nat->Prop:=λk=>bs k\/(w1.heap.size<=k/\k<w2.heap.size)
theorem abZ {i:Nat} {l:List Nat} {bs:Nat->Prop} {a:Act} {w:World} {o:Oper} (ho:ops[i]?=some o) (hk:jW o=.act) (hg:o.guard=none) (hC:aC T w0 w) (s x:Operand) (t:TypeId)
  (hop:o.op=Op.call { callee:=Callee.builtin Builtin.append,args:=#[s,x],argTypes:=#[t,t] })
  (base:Nat) (e:TypeId) (inf:TypeInfo) (z:Value) (size bytes:Nat) (h1:P.underlying t=some (.slice e)) (h2:P.info? e=some inf) (hz:inf.zero=some z)
  (hsize:inf.size=size) (hby:inf.bytes=bytes) (hzs:z.cells.size=size) (hsz:0<size)
  (v:Value) (n:Nat) (xs:List Value) (hs:a.eval s=v) (AP:∀k,v.ownBlock=some k->(k<w0.heap.size/\T k)\/(w0.heap.size<=k/\bs k)) (u:Value) (m:Nat) (news:List Value) (hu:a.eval x=u)
  (h1c:∀u∈news,u.oneCell'=true) (h63:n+m<=maxLen) (hbytes:(n+m)*bytes<=140737488355328) (hbase:base<=w.heap.size)
  (H:∀w1,aC T w0 w1->Below w.heap.size w w1->w1.ownsRow base e size v n xs/\AO w1 size u m news)
  (h:∀K:(Nat->Prop)->Act->World->Prop,(∀bs a w,WX P ops (aC T w0) w0.heap.size Q l bs a w->K bs a w)->∀w1 w2 v',aC T w0 w1->Below w.heap.size w w1 ->
   w2.ownsRow base e size v' (n+m) (xs++news)->w1.grownBy w2 v.ownBlock->aC T w0 w2->(v'.ownBlock=v.ownBlock\/v'.ownBlock=some w1.heap.size)->K (more bs w1 w2) (a.put o.dst v') w2) :
  WX P ops (aC T w0) w0.heap.size Q (i::l) bs a w:=by
 intro o' iY;rw[ho]at iY;obtain rfl:=Zy iY;unfold qX rM;rw[ZE (by simp[Region.wanted,hg])];simp only[hk];intro w1 dQ;have oO:=hC.below dQ;obtain⟨ha,hb⟩:=H w1 oO dQ;obtain⟨v',w2,hrun,r1,r2,r4⟩:=aho (P:=P) w1 base t o.type e inf z size bytes h1 h2 hz hsize hby hzs hsz v n xs ha u m news hb h1c h63 hbytes (ZI hbase dQ.size);have hr:(execOp a.eval o).run P w1=.ok (.value v') w2:=by
  simp[execOp,hop,resolve,invoke,builtin,hs,hu,hrun,Result.andThen]
 unfold rJ;rw[hr];have Dw:aC T w0 w2:=oO.grown r2 (λk hk=>(AP k hk).elim (λh=>.inr h.2) (λh=>.inl h.1));exact⟨Dw,r2.size,λk hN d_ hlt=>r2.block k hlt (λe=>by rcases AP k e.symm with h|h;omega;exact d_ h.2),more bs w1 w2,λ_ h=>.inl h,λ_ h=>h,h _ (λ_ _ _ h=>h) w1 w2 v' oO dQ r1 r2 Dw r4⟩
theorem ab1 {C:World->Prop} {N:Nat} {i:Nat} {l:List Nat} {bs:Nat->Prop} {a:Act} {w:World} {o:Oper} (ho:ops[i]?=some o) (hk:jW o=.act) (hg:o.guard=none) (hG:Au C N) (hC:C w) (f:FuncId)
  (h:∀K:(Nat->Prop)->Act->World->Prop,(∀bs a w,WX P ops C N Q l bs a w->K bs a w)->∃args,(∀w',C w'->(execOp a.eval o).run P w'=.ok (.enter f args) w') /\
   ∀w1,C w1->Below w.heap.size w w1->Calls P f args w1 λe w2=>∃v,e=.returned v/\Below w1.heap.size w1 w2/\(C w2->K (more bs w1 w2) (a.put o.dst v) w2)):WX P ops C N Q (i::l) bs a w:=by
 intro o' iY;rw[ho]at iY;obtain rfl:=Zy iY;obtain⟨args,h1,h2⟩:=h _ λ_ _ _ h=>h;unfold qX rM;rw[ZE (by simp[Region.wanted,hg])];simp only[hk];intro w1 dQ;have oO:=hG.grow _ _ hC dQ;unfold rJ;rw[h1 w1 oO];refine(h2 w1 oO dQ).mono ?_;rintro e w2⟨v,e1,e2,e3⟩;exact⟨v,e1,hG.grow _ _ oO e2,e2.size,λk _ _ hk=>e2.block k hk,more bs w1 w2,λ_ h=>.inl h,λ_ h=>h,e3 (hG.grow _ _ oO e2)⟩
end
theorem ahp {α:Type} {f:α->List Value} {sz:Nat} (hsz:0<sz) (hf:∀x,(f x).length=sz) {w:World} {v:Value} {xs:List α} {R:Nat->Nat->Nat->Prop} (h:nD sz v xs.length R)
  (hr:∀i b o,(hi:i<xs.length)->R i b (o)->∀j,j<sz->w.cell? ⟨b,o+j,none⟩=(f xs[i])[j]?):AO w sz v xs.length (xs.flatMap f):=by
 obtain⟨a,cap,rfl,hc,hat⟩:=h;refine⟨flat_length hf xs,?_⟩;cases a with
 | none =>
  by_cases h0:xs.length=0
  ·exact .inl ⟨h0,cap,by rw[h0]⟩
  ·obtain⟨b,o,h1,_⟩:=hat 0 (by omega);cases h1
 | some ad =>
  refine .inr ⟨ad,cap,rfl,λj u hj=>?_⟩;have hlt:j<(xs.flatMap f).length:=by
   rcases Yj j (xs.flatMap f).length with h|h
   ·exact h
   ·rw[WY h]at hj;cases hj
  rw[flat_length hf]at hlt;have hd:j=(j / sz)*sz+j % sz:=by rw[VB];exact(Nat.div_add_mod j sz).symm
  have hq:j / sz<xs.length:=Nat.div_lt_of_lt_mul (by rw[VB];exact hlt);have hm:j % sz<sz:=Nat.mod_lt _ hsz;obtain⟨b,o,h1,h2⟩:=hat (j / sz) hq;obtain rfl:=Zy h1;have h3:=hr _ _ _ hq h2 (j % sz) hm;rw[<-flat_get hf xs (j / sz) (j % sz) hq hm,<-hd,hj]at h3;rw[<-h3];have an8:({ block:=b,off:=o }:Addr).add j=⟨b,o+j,none⟩:=by
   unfold Addr.add;split
   ·rename_i h0;subst h0;rfl
   ·rfl
  rw[an8,show o+j / sz*sz+j % sz=o+j by omega]
theorem an9 {w:World} {v:Value} {ns:List Nd} (h:dG w v ns):AO w 3 v ns.length (ns.flatMap BJ):=by
 refine ahp (by omega) Md h ?_;rintro i b o hi⟨_,h0,h1,h2⟩ j hj;match j,hj with
 | 0,_=>exact h0
 | 1,_=>exact h1
 | 2,_=>exact h2
def avy (w:World) (v:Value) (xs:List (Df×Value)):Prop :=
 nD 4 v xs.length (λi b o=>∃h:i<xs.length,∀j,j<4->w.cell? ⟨b,o+j,none⟩=(adI xs[i])[j]?)/\∀x∈xs,dG w x.2 x.1.body
theorem aoa (ns:List Nd):∀u∈ns.flatMap BJ,u.oneCell'=true:=by
 intro u hu;obtain⟨d,_,hd⟩:=Z6.1 hu;simp[BJ]at hd;rcases hd with rfl|rfl|rfl<;>rfl
theorem ahq {w:World} {v:Value} {zs:List Int} (h:aU w v zs):AO w 1 v zs.length (zs.flatMap gU):=by
 refine ahp (by omega) sF h ?_;rintro i b o hi⟨_,h0⟩ j hj;obtain rfl:j=0:=by omega
 exact h0
theorem ahr (zs:List Int):∀u∈zs.flatMap gU,u.oneCell'=true:=by
 intro u hu;obtain⟨d,_,hd⟩:=Z6.1 hu;simp[gU]at hd;subst hd;rfl
theorem yZ {w:World} {v:Value} {zs:List Int} (h:aU w v zs) {ops:Array Oper} {rest:List Oper} {o:Oper} {a:Act} {Q:Exit->Act->World->Prop} (hgd:o.guard=none) (s x:Operand)
  (ho:o.op=.call { callee:=.builtin .append,args:=#[s,x],argTypes:=#[23,23] })
  (B:Nat) (u:Value) (xs:List Int) (hs:a.eval s=u) (hx:a.eval x=v) (hown:Rw w B u xs) (hB:B<=w.heap.size) (hl:xs.length+zs.length<=1048576)
  (H:∀v' w',Rw w' B v' (xs++zs)->w.grownBy w' u.ownBlock->(v'.ownBlock=u.ownBlock\/v'.ownBlock=some w.heap.size)->wpList Tryz.prog ops Q rest (a.put o.dst v') w'):wpList Tryz.prog ops Q (o::rest) a w:=by
 obtain⟨i0,hi,hz0,hz1,hz2⟩:=Yg yV;refine JQ hgd s x 23 ho B 3 i0 _ 1 8 Tryz.underlying23 hi hz0 hz1 hz2 rfl (by decide) u xs.length _ hs hown v zs.length _ hx (ahq h) (ahr zs) (by unfold maxLen;omega) (by omega) hB ?_;intro v' w' h1 h2 h3;refine H v' w' ?_ h2 h3;unfold Rw;rw[Zk,ZL];exact h1
theorem aao (w:World) (g B:Nat) (hg:g=w.heap.size) (hB:B<=w.heap.size):Rw (w.alloc (.cells #[] 3)) B (.slice (some ⟨g,0,none⟩) 0 0) []:=by
 subst hg;have:=X6 (base:=B) (size:=1) (e:=3) w #[] 0 hB (by unfold maxLen;omega) rfl;simpa[Rw]using this
def JR (w:World) (v:Value) (Ls:List (List Int)):Prop:=nD 1 v Ls.length λi b o=>∃h:i<Ls.length,∃u,w.cell? ⟨b,o,none⟩=some u/\aU w u Ls[i]
theorem JR.keep {w w':World} (hb:Below w.heap.size w w') {v:Value} {Ls:List (List Int)} (h:JR w v Ls):JR w' v Ls :=
 nD.mono h λ_ _ _ ⟨hi,u,h1,h2⟩=>⟨hi,u,aK hb h1,h2.keep hb⟩
theorem JR.slice {w:World} {v:Value} {Ls:List (List Int)} (h:JR w v Ls):∃a c,v=.slice a Ls.length c:=by
 obtain⟨a,cap,rfl,_⟩:=h;exact⟨a,cap,rfl⟩
theorem ahs (Ls:List (List Int)) (k:Nat) (h:k<Ls.length):(Ls.take (k+1)).flatten=(Ls.take k).flatten++Ls[k]:=by
 rw[Zv h,List.flatten_append];simp only[List.flatten_cons,List.flatten_nil,ZZ]
theorem aob (Ls:List (List Int)) (k:Nat) (h:k<Ls.length):(Ls.take (k+1)).flatten.length=(Ls.take k).flatten.length+Ls[k].length/\(Ls.take (k+1)).flatten.length<=Ls.flatten.length:=by
 refine⟨by rw[ahs Ls k h,Zk],?_⟩;have h2:Ls.flatten=(Ls.take (k+1)).flatten++(Ls.drop (k+1)).flatten:=by rw[<-List.flatten_append,Yr]
 rw[h2,Zk];omega
theorem aap (v:Value) (Ls:List (List Int)) (w:World) (hv:JR w v Ls) (hn:Ls.length<=1000) (hm:Ls.flatten.length<=1000) :
  Calls Tryz.prog 125 #[v] w λe w'=>∃v',e=.returned v'/\Rw w' w.heap.size v' Ls.flatten/\Below w.heap.size w w':=by
 obtain⟨a,cap,rfl,hc,hat⟩:=hv;go_enter Tryz.func125,Tryz.ntmps125;go_wp2;have sJ:=aao w w.heap.size w.heap.size rfl (Zj _);have hb0:=aH w (.cells #[] 3);go_loopw [3,9] (λrv i wr=>∃k:Nat,k<=Ls.length/\i=.int .i64 k/\Rw wr w.heap.size rv (Ls.take k).flatten/\Below w.heap.size w wr) (λ_ i _=>Ls.length-(intOf i).toNat)
 case atStart=>exact⟨0,Zw _,rfl,sJ,hb0⟩
 case round =>
  clear sJ hb0;obtain⟨k,hk,rfl,hrow,aI⟩:=hrel;by_cases hlt:k<Ls.length
  ·obtain⟨b,o,rfl,_,u,c0,hu⟩:=hat k hlt;rw[Z2]at c0;replace c0:=aK aI c0;replace hu:=hu.keep aI;have bz:=cell_lt c0;obtain⟨f1,f2⟩:=aob Ls k hlt;have hwz:=aI.size;have hT:=ahs Ls k hlt;have HT:=Za hT;obtain⟨au,cu,rfl⟩:=hu.slice;obtain⟨ar,cr,rfl⟩:=hrow.slice;clear hat hT;go_wp2_with (at_builtin;refine yZ hu rfl (.tmp 13) (.tmp 14) rfl w.heap.size (.slice ar (Ls.take k).flatten.length cr) (Ls.take k).flatten rfl rfl hrow hwz (by omega) ?_;intro v2 w2 h1 h2 h3)
   have hb2:Below w.heap.size w w2:=aI.grown h2 hwz (λj hj=>(Zh hrow j hj).1);go_roundw
   case rel=>exact⟨k+1,by omega,by go_num,by rw[HT.out];exact h1,hb2⟩
   case measure=>simp[intOf];omega
  ·obtain rfl:k=Ls.length:=by omega
   rw[ZY]at hrow;go_wp2;go_ret;exact⟨_,rfl,hrow,aI⟩
theorem aoc {l:List Int} {n:Int} (h:¬(l.length:Int)=n):uU l n=false:=by unfold uU;rw[YH h];rfl
theorem aod {l:List Int} {n:Int} {k:Nat} (hk:k<l.length) (h:inB l[k] 0 (n-1)=false):uU l n=false:=by
 unfold uU;have:iL n l=false:=X8.2 ⟨_,Zp hk,by simp[h]⟩;rw[this];simp
theorem aoe {l:List Int} {n:Int} {k:Nat} (hk:k<l.length) (h:l[k]∈l.take k):uU l n=false:=by
 unfold uU;have:¬l.Nodup:=by
  intro hd;have h2:l=l.take k++l.drop k:=(Yr k l).symm;rw[h2,Yk]at hd;exact hd.2.2 _ h _ (by rw[ZN hk];exact ZU.2 (Or.inl rfl)) rfl
 rw[YH this];simp
theorem aof {l:List Int} {n:Int} (h1:(l.length:Int)=n) (h2:iL n l=true) (h3:l.Nodup):uU l n=true:=by
 unfold uU;rw[Yn h1,h2,Yn h3];rfl
theorem aog {l:List Int} {x:Int} (h:l.Nodup) (hx:x ∉ l):(l++[x]).Nodup:=by
 rw[Yk];exact⟨h,by simp,λa ha b hb=>by simp at hb;subst hb;exact λe=>hx (e▸ha)⟩
theorem aoh (v:Value) (zs:List Int) (z:Int) (w:World) (hv:aU w v zs) (hn:zs.length<=1000) :
  Calls Tryz.prog 124 #[v,.int .i64 z] w (nH (uU zs z) w):=by
 obtain⟨a,cap,rfl,hc,hat⟩:=hv;by_cases hz:(zs.length:Int)=z
 ·subst hz;obtain⟨i0,hi,hz0,hz1,hz2⟩:=Yg aal;have hbe:((zs.length:Int) != zs.length)=false:=by simp
  obtain⟨n,FY⟩:∃n,zs.length=n:=⟨_,rfl⟩
  replace hat:=λ(i:Nat) (hi:i<n)=>hat i (by rw[FY];exact hi);rw[FY]at hn hc hbe ⊢;have HNN:=Za FY.symm;clear FY;go_enter Tryz.func124,Tryz.ntmps124;go_wp2_with (at_make;refine Yo _ rfl _ _ _ rfl w.heap.size 4 i0 _ 1 Tryz.underlying149 hi hz0 hz1 _ _ _ _ n rfl rfl rfl rfl (by rw[hz2];omega) (by unfold maxLen;omega) (Zj _) ?_;intro w1 hown hgr)
  have FX:=vZ (f:=nN) false n (sz:=1) (by omega) rfl;have hrow:w1.ownsRow w.heap.size 4 1 (.slice (some ⟨w.heap.size,0,none⟩) n n) n ((mF n []).flatMap nN):=by rw[SE,<-FX];exact hown
  have hb1:Below w.heap.size w w1:=(Zl _ _).grown hgr (Zj _) (by simp);clear hown FX hgr hi hz0 hz1 hz2;go_loopw [16] (λi wr=>∃k:Nat,k<=n/\i=.int .i64 k/\wr.ownsRow w.heap.size 4 1 (.slice (some ⟨w.heap.size,0,none⟩) n n) n ((mF n (zs.take k)).flatMap nN)/\Below w.heap.size w wr/\iL n (zs.take k)=true/\(zs.take k).Nodup) (λi _=>n-(intOf i).toNat)
  case atStart=>exact⟨0,Zw _,rfl,hrow,hb1,rfl,by simp⟩
  case round =>
   clear hrow hb1;obtain⟨k,hk,rfl,hrow,aI,bV,dI⟩:=hrel;by_cases hlt:k<n
   ·have SH:k<zs.length:=by rw[<-HNN.out];exact hlt
    obtain⟨b,o,rfl,_,c0⟩:=hat k hlt;rw[Z2]at c0;replace c0:=aK aI c0;have bz:=cell_lt c0;obtain⟨x,hx⟩:∃x,zs[k]=x:=⟨_,rfl⟩
    have tH:zs.take (k+1)=zs.take k++[x]:=by rw[Zv SH,hx]
    rw[hx]at c0;have w1:IntKind.i64.wrap ((n:Int)-1)=(n:Int)-1:=Z8 _ (by omega);have HS:=Za (Zb bV (Zb dI tH));clear hat bV dI tH;cases hib:inB x 0 ((n:Int)-1)with
    | false =>
     have mJ:uU zs n=false:=aod SH (by rw[hx];exact hib);have HB:=Za hib;have AQ:=Za mJ;clear hib mJ hx;go_wp2_with (go_at_call 70;refine(rG _ _ _ _).mono ?_;rintro r w2⟨rfl,rfl⟩;rw[HB.out])
     go_ret;exact⟨by rw[AQ.out];rfl,aI⟩
    | true =>
     have hz2:0<=x/\x<n:=by simp[inB]at hib;omega
     obtain⟨m,rfl⟩:∃m:Nat,x=m:=⟨x.toNat,by omega⟩
     have rO:m<n:=by omega
     have HB:=Za hib;clear hib hz2;have s0:=mV Es hrow m 0 (by rw[AA];exact rO) (by omega);rw[JM]at s0;have f0:=hrow.frozenAt m;simp only[nN,Z2,YC,Zc]at s0;have zg2:=cell_lt s0;cases hs:(zs.take k).contains (m:Int)with
     | true =>
      rw[hs]at s0;have mJ:uU zs n=false:=aoe SH (by rw[hx];simpa using hs);have AQ:=Za mJ;clear hs mJ hx hrow;go_wp2_with (go_at_call 70;refine(rG _ _ _ _).mono ?_;rintro r w2⟨rfl,rfl⟩;rw[HB.out])
      go_ret;exact⟨by rw[AQ.out];rfl,aI⟩
     | false =>
      rw[hs]at s0;have hrow2:=Ap Es hrow m 0 m (by rw[AA];exact rO) (by omega) (by omega) (.bool true) true rfl;rw[<-OZ n (zs.take k) m rO,<-HS.out.2.2]at hrow2;have lu:(m:Int) ∉ zs.take k:=by simpa using hs
      have aht:iL n (zs.take (k+1))=true:=by rw[HS.out.2.2,abY,HS.out.1,HB.out];rfl
      have ahu:(zs.take (k+1)).Nodup:=by rw[HS.out.2.2];exact aog HS.out.2.1 lu
      have MW:=Za (Zb aht ahu);clear hs hx hrow lu aht ahu;go_wp2_with (go_at_call 70;refine(rG _ _ _ _).mono ?_;rintro r w2⟨rfl,rfl⟩;rw[HB.out])
      go_roundw
      case rel=>exact⟨k+1,by omega,by go_num,hrow2,aI.setCell (Zj _) _,MW.out.1,MW.out.2⟩
      case measure=>simp[intOf];omega
   ·obtain rfl:k=n:=by omega
    rw[ZX (by rw[<-HNN.out];exact Zj _)]at bV dI;have mJ:uU zs k=true:=aof (by rw[<-HNN.out]) bV dI;have AQ:=Za mJ;clear mJ hat bV dI hrow;go_wp2;go_ret;exact⟨by rw[AQ.out];rfl,aI⟩
 ·have mJ:=aoc hz;have AQ:=Za mJ;have hbe:((zs.length:Int) != z)=true:=by simpa using hz
  clear mJ hat hz;go_enter Tryz.func124,Tryz.ntmps124;go_wp2;go_ret;exact⟨by rw[AQ.out];rfl,Zl _ _⟩
theorem ahv (v:Value) (Ls:List (List Int)) (z:Int) (w:World) (hv:JR w v Ls) (hn:Ls.length<=1000) (hm:Ls.flatten.length<=1000) :
  Calls Tryz.prog 87 #[.int .i64 z,v] w (nH (uU Ls.flatten z) w):=by
 have hj:=aap v Ls w hv hn hm;obtain⟨a,c,rfl⟩:=hv.slice;obtain⟨F,hF⟩:∃F,Ls.flatten=F:=⟨_,rfl⟩
 rw[hF]at hj hm ⊢;have HJ:=Za hj;clear hj hF hv;go_enter Tryz.func87,Tryz.ntmps87;go_wp2_with fail
 refine HJ.out.mono ?_;rintro r w1⟨v1,rfl,hr,hb⟩;obtain⟨a1,c1,rfl⟩:=hr.slice;go_wp2_with fail
 refine(aoh _ F z _ hr.at hm).mono ?_;rintro r w2⟨rfl,hb2⟩;go_wp2;go_ret;exact⟨rfl,hb.trans (hb2.mono hb.size)⟩
def Eu (xs:List Int) (w:World) (e:Ending) (w':World):Prop:=∃v,e=.returned v/\Rw w' w.heap.size v xs/\Below w.heap.size w w'
theorem ab3 (n:Nat) (w:World) (hn:n<=100000):Calls Tryz.prog 91 #[.int .i64 n] w (Eu (List.replicate n 0) w):=by
 obtain⟨i0,hi,hz0,hz1,hz2⟩:=Yg yV;go_enter Tryz.func91,Tryz.ntmps91;go_wp2_with (at_make;refine Yo _ rfl _ _ _ rfl w.heap.size 3 i0 _ 1 Tryz.underlying23 hi hz0 hz1 _ _ _ _ n rfl rfl rfl rfl (by rw[hz2];omega) (by unfold maxLen;omega) (Zj _) ?_;intro w1 hown hgr)
 have hz:=vZ (f:=gU) (0:Int) n (sz:=1) (by omega) rfl;go_ret;refine⟨_,rfl,?_,(Zl _ _).grown hgr (Zj _) (by simp)⟩;unfold Rw;rw[Yi,<-hz];exact hown
def dW (n:Nat):List Int:=(List.range n).map λi:Nat=>(i:Int)
theorem oh (n:Nat):(dW n).length=n:=by simp[dW]
theorem ab4 (n k:Nat) (h:k<(dW n).length):(dW n)[k]=(k:Int):=by simp[dW]
theorem ahw (xs ys:List Int) (k:Nat) (hl:ys.length=xs.length) (hk:k<xs.length):(xs.take k++ys.drop k).set k xs[k]=xs.take (k+1)++ys.drop (k+1):=by
 have h1:(xs.take k).length=k:=by rw[ZJ];omega
 rw[Yw _ _ (by omega),h1,XO,ZN (by omega:k<ys.length),XZ,Zv hk,Zz];rfl
theorem Rw.block {w:World} {B:Nat} {v:Value} {xs:List Int} (h:Rw w B v xs) (hx:0<xs.length):∃g c,v=.slice (some ⟨g,0,none⟩) xs.length c/\g<w.heap.size/\B<=g:=by
 rcases h.2 with⟨h',h0⟩|⟨g,cap,cur,h',hb,hg,_⟩
 ·omega
 ·exact⟨g,cap,h',(ZP.1 hg).1,hb⟩
theorem Rw.fill {w:World} {B g c n k:Nat} {xs ys:List Int} (h:Rw w B (.slice (some ⟨g,0,none⟩) n c) (xs.take k++ys.drop k)) (hx:xs.length=n) (hy:ys.length=n) (hk:k<n) :
  (w.cell? ⟨g,k,none⟩=some (.int .i64 (ys[k]'(by omega)))/\w.frozen? ⟨g,k,none⟩=false)/\Rw (w.setCell ⟨g,k,none⟩ (.int .i64 (xs[k]'(by omega)))) B (.slice (some ⟨g,0,none⟩) n c) (xs.take (k+1)++ys.drop (k+1)):=by
 have Eo:(xs.take k++ys.drop k).length=n:=by simp;omega
 have hrow2:w.ownsRow B 3 1 (.slice (some ⟨g,0,none⟩) n c) n ((xs.take k++ys.drop k).flatMap gU):=by unfold Rw at h;rw[Eo]at h;exact h
 have d0:=mV sF hrow2 k 0 (by omega) (by omega);have f0:=hrow2.frozenAt (k*1);simp only[gU,Z2,YC,Zc]at d0 f0;have cZ:=Ap sF hrow2 k 0 k (by omega) (by omega) (by omega) (.int .i64 (xs[k]'(by omega))) (xs[k]'(by omega)) rfl;rw[ahw xs ys k (by omega) (by omega)]at cZ;have e1:(xs.take k++ys.drop k)[k]'(by omega)=ys[k]'(by omega):=by
  rw[YY (by simp;omega)];simp only[ZJ,List.getElem_drop];congr 1;omega
 rw[e1]at d0;refine⟨⟨d0,f0⟩,?_⟩;unfold Rw;rw[show(xs.take (k+1)++ys.drop (k+1)).length=n by simp;omega];exact cZ
theorem Rw.full {w:World} {B:Nat} {v:Value} {n:Nat} {xs ys:List Int} (h:Rw w B v (xs.take n++ys.drop n)) (hx:xs.length=n) (hy:ys.length=n):Rw w B v xs:=by
 rw[List.drop_of_length_le (by omega),ZZ,ZX (by omega)]at h;exact h
theorem O1 (n:Nat) (w:World) (hn:n<=100000):Calls Tryz.prog 143 #[.int .i64 n] w (Eu (dW n) w):=by
 go_enter Tryz.func143,Tryz.ntmps143;go_wp2_with fail
 refine(ab3 n w hn).mono ?_;rintro q w1⟨v,rfl,hr,hb⟩;obtain⟨a,c,rfl⟩:=hr.slice;rw[Yi]at *;go_wp2_with fail
 go_loopw [9] (λi wr=>∃k:Nat,k<=n/\i=.int .i64 k/\Rw wr w.heap.size (.slice a n c) ((dW n).take k++(List.replicate n (0:Int)).drop k)/\Below w.heap.size w wr) (λi _=>n-(intOf i).toNat)
 case atStart=>exact⟨0,Zw _,rfl,by simpa using hr,hb⟩
 case round =>
  clear hr hb;obtain⟨k,hk,rfl,hrow,aI⟩:=hrel;by_cases hlt:k<n
  ·obtain⟨g,c',e,hg,wK⟩:=hrow.block (by simp;omega);simp only[Zx]at e;obtain⟨rfl,-,rfl⟩:=e;obtain⟨⟨d0,f0⟩,cZ⟩:=hrow.fill (oh n) (by simp) hlt;rw[ab4]at cZ;rw[Z9]at d0;have HS:=Za cZ;clear hrow cZ;go_wp2;go_roundw
   case rel=>exact⟨k+1,by omega,by go_num,HS.out,aI.setCell wK _⟩
   case measure=>simp[intOf];omega
  ·obtain rfl:k=n:=by omega
   have HF:=Za (hrow.full (oh _) (by simp));clear hrow;go_wp2;go_ret;exact⟨_,rfl,HF.out,aI⟩
def bY (a n:Nat):List Int:=(List.range n).map λi:Nat=>((i+a:Nat):Int)
theorem rP (a n:Nat):(bY a n).length=n:=by simp[bY]
theorem aec (a n k:Nat) (h:k<(bY a n).length):(bY a n)[k]=((k+a:Nat):Int):=by simp[bY]
theorem SI (a n:Nat) (w:World) (hn:n<=100000) (ha:a<=100000):Calls Tryz.prog 163 #[.int .i64 a,.int .i64 n] w (Eu (bY a n) w):=by
 go_enter Tryz.func163,Tryz.ntmps163;go_wp2_with fail
 refine(O1 n w hn).mono ?_;rintro q w1⟨v,rfl,hr,hb⟩;obtain⟨p,c,rfl⟩:=hr.slice;rw[oh]at *;go_wp2_with fail
 go_loopw [11] (λi wr=>∃k:Nat,k<=n/\i=.int .i64 k/\Rw wr w.heap.size (.slice p n c) ((bY a n).take k++(dW n).drop k)/\Below w.heap.size w wr) (λi _=>n-(intOf i).toNat)
 case atStart=>exact⟨0,Zw _,rfl,by simpa using hr,hb⟩
 case round =>
  clear hr hb;obtain⟨k,hk,rfl,hrow,aI⟩:=hrel;by_cases hlt:k<n
  ·obtain⟨g,c',e,hg,wK⟩:=hrow.block (by simp[rP,oh];omega);simp only[Zx]at e;obtain⟨rfl,-,rfl⟩:=e;obtain⟨⟨d0,f0⟩,cZ⟩:=hrow.fill (rP a n) (oh n) hlt;rw[aec,XX]at cZ;rw[ab4]at d0;have hw:IntKind.i64.wrap ((k:Int)+a)=(k:Int)+a:=Z8 _ (by omega);have HS:=Za cZ;clear hrow cZ;go_wp2;go_roundw
   case rel=>exact⟨k+1,by omega,by go_num,HS.out,aI.setCell wK _⟩
   case measure=>simp[intOf];omega
  ·obtain rfl:k=n:=by omega
   have HF:=Za (hrow.full (rP _ _) (oh _));clear hrow;go_wp2;go_ret;exact⟨_,rfl,HF.out,aI⟩
theorem clone_any (v:Value) (zs:List Int) (w:World) (hv:aU w v zs) (hn:zs.length<=100000):Calls Tryz.prog 160 #[v] w (Eu zs w):=by
 obtain⟨a,c,rfl⟩:=hv.slice;have hA:=aH w (.cells #[] 3);have sJ:=aao w w.heap.size w.heap.size rfl (Zj _);have hv2:=hv.keep hA;go_enter Tryz.func160,Tryz.ntmps160;go_wp2_with (at_builtin;refine yZ hv2 rfl (.tmp 3) (.tmp 4) rfl w.heap.size _ [] rfl rfl sJ (by simp) (by simp;omega) ?_;intro v2 w2 h1 h2 h3)
 go_ret;have hb2:Below w.heap.size w w2:=hA.grown h2 hA.size (λj hj=>(Zh sJ j hj).1);exact⟨_,rfl,by simpa using h1,hb2⟩
theorem Cc (v:Value) (zs:List Int) (w:World) (hv:aU w v zs) (hn:zs.length<=100000):Calls Tryz.prog 84 #[v] w (Eu zs w):=by
 obtain⟨a,c,rfl⟩:=hv.slice;have hA:=aH w (.cells #[] 3);have sJ:=aao w w.heap.size w.heap.size rfl (Zj _);have hv2:=hv.keep hA;go_enter Tryz.func84,Tryz.ntmps84;go_wp2_with (at_builtin;refine yZ hv2 rfl (.tmp 3) (.tmp 4) rfl w.heap.size _ [] rfl rfl sJ (by simp) (by simp;omega) ?_;intro v2 w2 h1 h2 h3)
 go_ret;have hb2:Below w.heap.size w w2:=hA.grown h2 hA.size (λj hj=>(Zh sJ j hj).1);exact⟨_,rfl,by simpa using h1,hb2⟩
def aG (tz ks:List Int):List Int:=ks.map λk=>tz.getD k.toNat 0
theorem gY (tz ks:List Int):(aG tz ks).length=ks.length:=by simp[aG]
theorem ab5 (tz ks:List Int) (i:Nat) (h:i<ks.length):aG tz (ks.take (i+1))=aG tz (ks.take i)++[tz.getD ks[i].toNat 0]:=by
 unfold aG;rw[Zv h,ZK];rfl
theorem Dy (w:World) (z:Int):aU (w.alloc (.cells #[.int .i64 z] 3)) (.slice (some ⟨w.heap.size,0,none⟩) 1 1) [z]:=by
 refine⟨_,_,rfl,Zj _,λi hi=>⟨_,_,rfl,hi,?_⟩⟩;obtain rfl:i=0:=by simpa using hi
 exact(Bk.new w _ _).cell.1 0
theorem ahx (vt va:Value) (tz ks:List Int) (w:World) (ht:aU w vt tz) (ha:aU w va ks) (bV:∀k∈ks,0<=k/\k<tz.length) (hl:ks.length<=100000) (hlt:tz.length<=100000) :
  Calls Tryz.prog 117 #[va,vt] w (Eu (aG tz ks) w):=by
 obtain⟨a,c,rfl,hc,FZ⟩:=ha;obtain⟨p,d,rfl,hd,O4⟩:=ht;have lK:=Za bV;clear bV;go_enter Tryz.func117,Tryz.ntmps117;go_wp2;go_loopw [5,10] (λrv i wr=>∃k:Nat,k<=ks.length/\i=.int .i64 k/\Rw wr w.heap.size rv (aG tz (ks.take k))/\Below w.heap.size w wr) (λ_ i _=>ks.length-(intOf i).toNat)
 case atStart=>exact⟨0,Zw _,rfl,Ye _ _ _ _,Zl _ _⟩
 case round =>
  obtain⟨k,hk,rfl,hrow,aI⟩:=hrel;by_cases hlk:k<ks.length
  ·obtain⟨b,o,rfl,_,c0⟩:=FZ k hlk;rw[Z2]at c0;have hr:=lK.out _ (Zp hlk);have jE:=ab5 tz ks k hlk;obtain⟨z,hz⟩:∃z,ks[k]=z:=⟨_,rfl⟩
   rw[hz]at c0 hr jE;obtain⟨m,rfl⟩:∃m:Nat,z=m:=⟨z.toNat,by omega⟩
   have hm:m<tz.length:=by omega
   obtain⟨b2,o2,rfl,_,e0⟩:=O4 m hm;rw[Z2]at e0;have hgd:tz.getD (m:Int).toNat 0=tz[m]:=by rw[Zr,Zg,Zi hm];rfl
   rw[hgd]at jE;obtain⟨x,hx⟩:∃x,tz[m]=x:=⟨_,rfl⟩
   rw[hx]at e0 jE;have u_:=Za jE;replace c0:=aK aI c0;replace e0:=aK aI e0;have bz:=cell_lt c0;have bz2:=cell_lt e0;have hA:=aH wr (.cells #[.int .i64 x] 3);have h1:=Dy wr x;have hrow2:=hrow.keep hA;have hzz:=aI.size;obtain⟨ar,cr,rfl⟩:=hrow.slice;have hpl:(aG tz (ks.take k)).length<=100000:=by rw[gY,ZJ];omega
   clear FZ O4 jE hz hx hgd;go_wp2_with (at_builtin;refine yZ h1 rfl (.tmp 14) (.tmp 19) rfl w.heap.size _ (aG tz (ks.take k)) rfl rfl hrow2 (by simp;omega) (by simp;omega) ?_;intro v2 w2 q1 q2 q3)
   have hb2:Below w.heap.size w w2:=(aI.trans (hA.mono hzz)).grown q2 (by have:=hA.size;omega) (λj hj=>(Zh hrow2 j hj).1);go_roundw
   case rel=>exact⟨k+1,by omega,by go_num,by rw[u_.out];exact q1,hb2⟩
   case measure=>simp[intOf];omega
  ·obtain rfl:k=ks.length:=by omega
   rw[ZY]at hrow;clear FZ O4;go_wp2;go_ret;exact⟨_,rfl,hrow,aI⟩
theorem aoi (vt va:Value) (tz ks:List Int) (w:World) (ht:aU w vt tz) (ha:aU w va ks) (bV:∀k∈ks,0<=k/\k<tz.length) (hl:ks.length<=100000) (hlt:tz.length<=100000) :
  Calls Tryz.prog 175 #[vt,va] w (Eu (aG tz ks) w):=by
 obtain⟨a,c,rfl,hc,FZ⟩:=ha;obtain⟨p,d,rfl,hd,O4⟩:=ht;have lK:=Za bV;clear bV;obtain⟨i0,hi,hz0,hz1,hz2⟩:=Yg yV;go_enter Tryz.func175,Tryz.ntmps175;go_wp2_with (at_make;refine wpList_make_own _ rfl _ _ _ rfl w.heap.size 3 i0 _ 1 Tryz.underlying23 hi hz0 hz1 _ _ _ ks.length rfl rfl rfl (by rw[hz2];omega) (by unfold maxLen;omega) (Zj _) ?_;intro w1 hown hgr)
 have hb1:Below w.heap.size w w1:=(Zl _ _).grown hgr (Zj _) (by simp);have hr1:Rw w1 w.heap.size (.slice (some ⟨w.heap.size,0,none⟩) 0 ks.length) (aG tz (ks.take 0)):=hown;clear hown hgr hi hz0 hz1 hz2;go_loopw [5,13] (λrv i wr=>∃k:Nat,k<=ks.length/\i=.int .i64 k/\Rw wr w.heap.size rv (aG tz (ks.take k))/\Below w.heap.size w wr) (λ_ i _=>ks.length-(intOf i).toNat)
 case atStart=>exact⟨0,Zw _,rfl,hr1,hb1⟩
 case round =>
  clear hr1 hb1;obtain⟨k,hk,rfl,hrow,aI⟩:=hrel;by_cases hlk:k<ks.length
  ·obtain⟨b,o,rfl,_,c0⟩:=FZ k hlk;rw[Z2]at c0;have hr:=lK.out _ (Zp hlk);have jE:=ab5 tz ks k hlk;obtain⟨z,hz⟩:∃z,ks[k]=z:=⟨_,rfl⟩
   rw[hz]at c0 hr jE;obtain⟨m,rfl⟩:∃m:Nat,z=m:=⟨z.toNat,by omega⟩
   have hm:m<tz.length:=by omega
   obtain⟨b2,o2,rfl,_,e0⟩:=O4 m hm;rw[Z2]at e0;have hgd:tz.getD (m:Int).toNat 0=tz[m]:=by rw[Zr,Zg,Zi hm];rfl
   rw[hgd]at jE;obtain⟨x,hx⟩:∃x,tz[m]=x:=⟨_,rfl⟩
   rw[hx]at e0 jE;have u_:=Za jE;replace c0:=aK aI c0;replace e0:=aK aI e0;have bz:=cell_lt c0;have bz2:=cell_lt e0;have hA:=aH wr (.cells #[.int .i64 x] 3);have h1:=Dy wr x;have hrow2:=hrow.keep hA;have hzz:=aI.size;obtain⟨ar,cr,rfl⟩:=hrow.slice;have hpl:(aG tz (ks.take k)).length<=100000:=by rw[gY,ZJ];omega
   clear FZ O4 jE hz hx hgd;go_wp2_with (at_builtin;refine yZ h1 rfl (.tmp 17) (.tmp 22) rfl w.heap.size _ (aG tz (ks.take k)) rfl rfl hrow2 (by simp;omega) (by simp;omega) ?_;intro v2 w2 q1 q2 q3)
   have hb2:Below w.heap.size w w2:=(aI.trans (hA.mono hzz)).grown q2 (by have:=hA.size;omega) (λj hj=>(Zh hrow2 j hj).1);go_roundw
   case rel=>exact⟨k+1,by omega,by go_num,by rw[u_.out];exact q1,hb2⟩
   case measure=>simp[intOf];omega
  ·obtain rfl:k=ks.length:=by omega
   rw[ZY]at hrow;clear FZ O4;go_wp2;go_ret;exact⟨_,rfl,hrow,aI⟩
theorem MX (vt va:Value) (tz ks:List Int) (w:World) (ht:aU w vt tz) (ha:aU w va ks) (bV:∀k∈ks,0<=k/\k<tz.length) (hl:ks.length<=100000) (hlt:tz.length<=100000) :
  Calls Tryz.prog 162 #[va,vt] w (Eu (aG tz ks) w):=by
 obtain⟨a,c,rfl⟩:=ha.slice;obtain⟨p,d,rfl⟩:=ht.slice;have hC:=aoi _ _ tz ks w ht ha bV hl hlt;go_enter Tryz.func162,Tryz.ntmps162;go_wp2_with fail
 refine hC.mono ?_;rintro q w1⟨v,rfl,hr,hb⟩;obtain⟨b,e,rfl⟩:=hr.slice;go_wp2;go_ret;exact⟨_,rfl,hr,hb⟩
end Go.Proofs.YtkhpobekconobaaGreat
