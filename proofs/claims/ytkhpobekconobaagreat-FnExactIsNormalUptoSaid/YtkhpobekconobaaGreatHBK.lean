import Derived.Test.YtkhpobekconobaaGreatHBJ
set_option linter.all false
set_option maxRecDepth 100000
set_option maxHeartbeats 0
namespace Go.Proofs.YtkhpobekconobaaGreat
open Go.RowKit Go.Maps
theorem agm {w w':World} {row:Option Nat} (hg:w.grownBy w' row):aC (λj=>row=some j) w w':=(aC.refl _ w).grown hg λk hk=>.inr hk
theorem alQ (P:List fF) (y:fF) (Q:List fF):qA (P++y::Q)=qA P++(y.2.1,y.1.aj)::(y.2.2,y.1.ay)::qA Q:=by simp[qA]
theorem atJ (P:List fF) (e e':aO) (r1 r2:Value) (Q:List fF) (hk:e'.kind=e.kind) (hv:e'.value=e.value):(P++(e',r1,r2)::Q).flatMap nK=(P++(e,r1,r2)::Q).flatMap nK:=by
 simp[nK,hk,hv]
theorem fV.give {w w':World} {B:Nat} {ve r1 r2:Value} {P Q:List fF} {e:aO} {z:List Int} {l:List (Value×List Int)} (h:fV w B ve (P++(e,r1,r2)::Q) l) (hE:aC (Nh r1) w w') (hr:Rw w' B r1 z) :
  fV w' B ve (P++(⟨e.kind,e.value,z,e.ay⟩,r1,r2)::Q) l:=by
 have h1:=h.rws;rw[alQ]at h1;have h0:Rw w B r1 e.aj:=h1.1 (r1,e.aj) (by simp);have hp:(l++(qA P++(r1,e.aj)::(r2,e.ay)::qA Q)).Perm ((r1,e.aj)::(l++(qA P++(r2,e.ay)::qA Q))):=by
  rw[<-Zz,<-Zz];exact List.perm_middle
 have rH:(l++(qA P++(r1,z)::(r2,e.ay)::qA Q)).Perm ((r1,z)::(l++(qA P++(r2,e.ay)::qA Q))):=by
  rw[<-Zz,<-Zz];exact List.perm_middle
 have h2:=(h1.perm hp).exc hE hr;refine⟨?_,?_⟩
 ·have h3:=xZ hE h.row λk hk e'=>wC h.row h0 (by decide) k hk e';rw[atJ P e ⟨e.kind,e.value,z,e.ay⟩ r1 r2 Q rfl rfl];simpa using h3
 ·rw[alQ];exact h2.perm rH.symm
theorem atK {α β:Type} (f:α->List β) {xs ys:List α} (h:xs.Sublist ys):(xs.flatMap f).Sublist (ys.flatMap f):=by
 induction h with
 | slnil=>exact XL _
 | cons a _ ih=>rw[Yt];exact ih.trans (List.sublist_append_right _ _)
 | cons_cons a _ ih=>rw[Yt,Yt];exact(XL _).append ih
theorem aby {w1 w w':World} {S T:Nat->Prop} (h:aC S w1 w) (hE:aC T w w') (hT:∀j,T j->w1.heap.size<=j):aC S w1 w' :=
 ⟨hE.os.trans h.os,hE.tape.trans h.tape,hE.output.trans h.output,ZI h.size hE.size,λk hk hs=>(hE.block k (Yc hk h.size) (λht=>by have:=hT k ht;omega)).trans (h.block k hk hs)⟩
theorem atL {u0 w1 w:World} {bK:Nat} (hb:Below u0.heap.size u0 w1) (h:aC (λj=>j=bK) w1 w) (hK:u0.heap.size<=bK):Below u0.heap.size u0 w:=hb.trans (h.low (λj hj=>by omega) hb.size)
theorem atM {w:World} {v u:Value} {xs ys:List fF} {B:Nat} (h1:mO w B v xs) (hu:AO w 4 u ys.length (ys.flatMap nK)) (nS:zo w B ys) {ops:Array Oper} {rest:List Oper} {o:Oper} {a:Act} {Q:Exit->Act->World->Prop} (hgd:o.guard=none) (s x:Operand)
  (ho:o.op=.call { callee:=.builtin .append,args:=#[s,x],argTypes:=#[31,31] })
  (hs:a.eval s=v) (hx:a.eval x=u) (hB:B<=w.heap.size) (hl:xs.length+ys.length<=100000)
  (H:∀v' w',mO w' B v' (xs++ys)->w.grownBy w' v.ownBlock->(v'.ownBlock=v.ownBlock\/v'.ownBlock=some w.heap.size)->wpList Tryz.prog ops Q rest (a.put o.dst v') w'):wpList Tryz.prog ops Q (o::rest) a w:=by
 obtain⟨i0,hi,hz0,hz1,hz2⟩:=Yg aea;refine JQ hgd s x 31 ho B 102 i0 _ 4 64 Tryz.underlying31 hi hz0 hz1 hz2 rfl (by decide) v xs.length _ hs h1.row u ys.length _ hx hu (ah4 nS) (by unfold maxLen;omega) (by omega) hB ?_;intro v' w' r1 r2 r3;exact H v' w' (h1.app nS r1 r2) r2 r3
theorem qU.put {w:World} {b n:Nat} {dl:List Int} {G N:Nat} (h:qU w b n dl G N) {x:Nat} {v:Int} (hl:dl.length=G) (hx:x<G) (hG:G<=1000) (ho:dl.getD x 0=(x:Int)) (hv:v≠(x:Int)) (hn:n<1000) (hb0:0<=v) (hb1:v<1000000) :
  ∃w',(Instr.mapUpdate 235 (.map (some b)) (.int .i64 (x:Int)) (.int .i64 v)).run Tryz.prog w=.ok () w'/\qU w' b (n+1) (dl.set x v) G (N+1)/\w.grownBy w' (some b):=by
 obtain⟨D,hm,hi⟩:=h;obtain⟨u,rfl⟩:∃u:Nat,v=u:=⟨v.toNat,by omega⟩
 obtain⟨w',h1,h2,h3⟩:=hm.update af2 Tryz.underlying235 (by unfold maxLen;omega) (ak6 (i:=(x:Int)) (by omega) (by omega)) (plainElem_int Tryz.underlying3 (ak5 (i:=(u:Int)) (by omega) (by omega)));exact⟨w',h1,⟨_,h2,atF hi (hm.tidy af2) hl hx ho hv⟩,h3⟩
theorem qU.len {w:World} {b n:Nat} {dl:List Int} {G N:Nat} (h:qU w b n dl G N) (ty:TypeId):(Builtin.len_ #[235] ty #[.map (some b)]).run Tryz.prog w=.ok (.int .i64 (N:Int)) w:=by
 obtain⟨D,hm,hi⟩:=h;rw[hm.len Tryz.underlying235 ty,hi.size]
theorem atN {w:World} {B:Nat} {ve:Value} {xs:List fF} (h:w.ownsRow B 102 4 ve xs.length (xs.flatMap nK)) {k:Nat} (hk:k<xs.length):∃g c,ve=.slice (some ⟨g,0,none⟩) xs.length c/\g<w.heap.size/\w.cell? ⟨g,k*4,none⟩=some (.int .i64 xs[k].1.kind)/\w.cell? ⟨g,k*4+1,none⟩=some (.int .i64 xs[k].1.value)/\w.cell? ⟨g,k*4+2,none⟩=some xs[k].2.1/\w.cell? ⟨g,k*4+3,none⟩=some xs[k].2.2:=by
 have h':=h;rcases h.2 with⟨rfl,h0⟩|⟨g,cap,cur,rfl,hb,hh,hc,hm,hs,ht⟩
 ·omega
 ·have hf:=λj (hj:j<4)=>flat_get RX xs k j hk hj;have hc:=λj (hj:j<4)=>(h'.cellAt (k*4+j) (by omega)).trans (hf j hj);exact⟨g,cap,rfl,(ZP.1 hh).1,by simpa[nK]using hc 0 (by omega),by simpa[nK]using hc 1 (by omega),by simpa[nK]using hc 2 (by omega),by simpa[nK]using hc 3 (by omega)⟩
structure gX (w1 w:World) (bO bK bt bm n:Nat) (oJ oK:Array Value) (dl:List Int) (G N:Nat) (ve:Value) (P Q:List fF) (l:List (Value×List Int)) (vn:Value) (ys:List fF):Prop where
 ko:Bk w bO 33 oJ
 kk:Bk w bK 218 oK
 kt:Bk w bt 235 #[.map (some bm)]
 tk:qU w bm n dl G N
 op:fV w w1.heap.size ve (P++Q) l
 nr:w.ownsRow w1.heap.size 102 4 vn ys.length (ys.flatMap nK)
 ap:Apart vn ve
 sb:ys.Sublist P
 ex:aC (λj=>j=bK) w1 w
 lo:w1.heap.size<=bO/\w1.heap.size<=bt/\w1.heap.size<=bm/\bK<w1.heap.size
section
variable {w1 w w':World} {bO bK bt bm n G N:Nat} {oJ oK:Array Value} {dl:List Int} {ve vn:Value} {P Q ys:List fF} {l:List (Value × List Int)}
theorem gX.keep (h:gX w1 w bO bK bt bm n oJ oK dl G N ve P Q l vn ys) (hb:Below w.heap.size w w'):gX w1 w' bO bK bt bm n oJ oK dl G N ve P Q l vn ys :=
 ⟨h.ko.keep hb,h.kk.keep hb,h.kt.keep hb,h.tk.keep hb,h.op.keep hb,jL hb h.nr,h.ap,h.sb,h.ex.below hb,h.lo⟩
theorem gX.adx (h:gX w1 w bO bK bt bm n oJ oK dl G N ve P Q l vn ys):bK≠bO/\bK≠bt/\bK≠bm/\bO≠bt/\bO≠bm/\bt≠bm:=by
 have:=h.lo;refine⟨by omega,by omega,by omega,λe=>?_,h.tk.alM h.ko,h.tk.alM h.kt⟩;have h1:=h.ko;have h2:=h.kt;rw[e]at h1;unfold Bk at h1 h2;rw[h2]at h1;simp only[ZQ,Obj.cells.injEq]at h1;exact absurd h1.2 (by decide)
theorem gX.EP (h:gX w1 w bO bK bt bm n oJ oK dl G N ve P Q l vn ys) (j:Nat) (u:Value):gX w1 (w.setCell ⟨bK,j,none⟩ u) bO bK bt bm n oJ (oK.setIfInBounds j u) dl G N ve P Q l vn ys:=by
 obtain⟨e1,e2,e3,e4,e5,e6⟩:=h.adx;exact⟨h.ko.other _ _ (λe=>e1 e.symm),h.kk.set j u,h.kt.other _ _ (λe=>e2 e.symm),h.tk.set _ _ (λe=>e3 e.symm),h.op.setB h.kk (by decide) (by decide) j u,eP h.nr _ _ (cO h.nr h.kk (by decide)),h.ap,h.sb,bF h.ex (.inr rfl) u,h.lo⟩
theorem gX.agn (h:gX w1 w bO bK bt bm n oJ oK dl G N ve P Q l vn ys) (j:Nat) (u:Value):gX w1 (w.setCell ⟨bO,j,none⟩ u) bO bK bt bm n (oJ.setIfInBounds j u) oK dl G N ve P Q l vn ys:=by
 obtain⟨e1,e2,e3,e4,e5,e6⟩:=h.adx;have:=h.lo;exact⟨h.ko.set j u,h.kk.other _ _ e1,h.kt.other _ _ (λe=>e4 e.symm),h.tk.set _ _ (λe=>e5 e.symm),h.op.setB h.ko (by decide) (by decide) j u,eP h.nr _ _ (cO h.nr h.ko (by decide)),h.ap,h.sb,bF h.ex (.inl (by simp only;omega)) u,h.lo⟩
theorem gX.row {v:Value} {z z':List Int} (h:gX w1 w bO bK bt bm n oJ oK dl G N ve P Q ((v,z)::l) vn ys) (hE:aC (Nh v) w w') (hr:Rw w' w1.heap.size v z'):gX w1 w' bO bK bt bm n oJ oK dl G N ve P Q ((v,z')::l) vn ys:=by
 have h0:Rw w w1.heap.size v z:=h.op.get (p:=(v,z)) (by simp);exact⟨h.ko.exc hE (λe=>cO h0 h.ko (by decide) e),h.kk.exc hE (λe=>cO h0 h.kk (by decide) e),h.kt.exc hE (λe=>cO h0 h.kt (by decide) e),h.tk.exc hE (λe=>h.tk.Ot h0 e),h.op.exc hE hr,xZ hE h.nr (λk hk e=>wC h.nr h0 (by decide) k hk e),h.ap,h.sb,aby h.ex hE (λj hj=>(Zh h0 j hj).1),h.lo⟩
theorem gX.give {e:aO} {r1 r2:Value} {z:List Int} (h:gX w1 w bO bK bt bm n oJ oK dl G N ve P ((e,r1,r2)::Q) l vn ys) (hE:aC (Nh r1) w w') (hr:Rw w' w1.heap.size r1 z):gX w1 w' bO bK bt bm n oJ oK dl G N ve P ((⟨e.kind,e.value,z,e.ay⟩,r1,r2)::Q) l vn ys:=by
 have h0:Rw w w1.heap.size r1 e.aj:=(h.op.wL.rws (e,r1,r2) (by simp)).1;exact⟨h.ko.exc hE (λe=>cO h0 h.ko (by decide) e),h.kk.exc hE (λe=>cO h0 h.kk (by decide) e),h.kt.exc hE (λe=>cO h0 h.kt (by decide) e),h.tk.exc hE (λe=>h.tk.Ot h0 e),h.op.give hE hr,xZ hE h.nr (λk hk e=>wC h.nr h0 (by decide) k hk e),h.ap,h.sb,aby h.ex hE (λj hj=>(Zh h0 j hj).1),h.lo⟩
theorem gX.skip {y:fF} (h:gX w1 w bO bK bt bm n oJ oK dl G N ve P (y::Q) l vn ys):gX w1 w bO bK bt bm n oJ oK dl G N ve (P++[y]) Q l vn ys :=
 ⟨h.ko,h.kk,h.kt,h.tk,by have:=h.op;rwa [List.append_cons]at this,h.nr,h.ap,h.sb.trans (VU _ _),h.ex,h.lo⟩
theorem gX.kept {y:fF} {v':Value} (h:gX w1 w bO bK bt bm n oJ oK dl G N ve P (y::Q) l vn ys) (dL:mO w' w1.heap.size v' (ys++[y])) (hg:w.grownBy w' vn.ownBlock) (hv:v'.ownBlock=vn.ownBlock\/v'.ownBlock=some w.heap.size):gX w1 w' bO bK bt bm n oJ oK dl G N ve (P++[y]) Q l v' (ys++[y]):=by
 have hE:=agm hg;have hap:Apart v' ve:=λk hk e=>by
  rcases hv with hv|hv
  ·exact h.ap k (hv▸hk) e
  ·rw[hv]at hk;have:=(Zh h.op.row k e).2;simp at hk;omega
 have hop:fV w' w1.heap.size ve (P++y::Q) l:=⟨aaS h.op.row hg λk hk e=>h.ap k e hk,h.op.rws.af4 h.nr hg⟩
 rw[List.append_cons]at hop;exact⟨h.ko.exc hE (λe=>cO h.nr h.ko (by decide) e),h.kk.exc hE (λe=>cO h.nr h.kk (by decide) e),h.kt.exc hE (λe=>cO h.nr h.kt (by decide) e),h.tk.exc hE (λe=>h.tk.Ot h.nr e),hop,dL.row,hap,h.sb.append (XL _),aby h.ex hE (λj hj=>(Zh h.nr j hj).1),h.lo⟩
theorem gX.app {v v':Value} {z z':List Int} (h:gX w1 w bO bK bt bm n oJ oK dl G N ve P Q ((v,z)::l) vn ys) (hg:w.grownBy w' v.ownBlock) (hr:Rw w' w1.heap.size v' z') (hv:v'.ownBlock=v.ownBlock\/v'.ownBlock=some w.heap.size):gX w1 w' bO bK bt bm n oJ oK dl G N ve P Q ((v',z')::l) vn ys:=by
 have h0:Rw w w1.heap.size v z:=h.op.get (p:=(v,z)) (by simp);have hE:=agm hg;exact⟨h.ko.exc hE (λe=>cO h0 h.ko (by decide) e),h.kk.exc hE (λe=>cO h0 h.kk (by decide) e),h.kt.exc hE (λe=>cO h0 h.kt (by decide) e),h.tk.exc hE (λe=>h.tk.Ot h0 e),h.op.app [] hg hr hv,xZ hE h.nr (λk hk e=>wC h.nr h0 (by decide) k hk e),h.ap,h.sb,aby h.ex hE (λj hj=>(Zh h0 j hj).1),h.lo⟩
theorem gX.new {C:Nat} {v:Value} {z:List Int} (h:gX w1 w bO bK bt bm n oJ oK dl G N ve P Q l vn ys) (hb:Below w.heap.size w w') (hr:Rw w' C v z) (hC:w.heap.size<=C):gX w1 w' bO bK bt bm n oJ oK dl G N ve P Q ((v,z)::l) vn ys:=by
 have h1:=h.keep hb;exact⟨h1.ko,h1.kk,h1.kt,h1.tk,h.op.new hb hr hC h.ex.size,h1.nr,h1.ap,h1.sb,h1.ex,h1.lo⟩
theorem gX.nil (h:gX w1 w bO bK bt bm n oJ oK dl G N ve P Q l vn ys):gX w1 w bO bK bt bm n oJ oK dl G N ve P Q ((.slice none 0 0,[])::l) vn ys :=
 ⟨h.ko,h.kk,h.kt,h.tk,⟨h.op.row,⟨λx hx=>by
  rcases ZU.1 hx with rfl|hx
  ·exact Ye _ _ _ _
  ·exact h.op.rws.1 x hx,Yd.2 ⟨λy hy j h1 _=>by simp[Value.ownBlock]at h1,h.op.rws.2⟩⟩⟩,h.nr,h.ap,h.sb,h.ex,h.lo⟩
theorem gX.perm {l':List (Value×List Int)} (h:gX w1 w bO bK bt bm n oJ oK dl G N ve P Q l vn ys) (hs:l.Perm l'):gX w1 w bO bK bt bm n oJ oK dl G N ve P Q l' vn ys:=⟨h.ko,h.kk,h.kt,h.tk,h.op.perm hs,h.nr,h.ap,h.sb,h.ex,h.lo⟩
theorem gX.put {n' N':Nat} {dl':List Int} (h:gX w1 w bO bK bt bm n oJ oK dl G N ve P Q l vn ys) (hg:w.grownBy w' (some bm)) (ht:qU w' bm n' dl' G N'):gX w1 w' bO bK bt bm n' oJ oK dl' G N' ve P Q l vn ys:=by
 have hE:=agm hg;obtain⟨e1,e2,e3,e4,e5,e6⟩:=h.adx;refine⟨h.ko.exc hE (λe=>e5 (Zy e).symm),h.kk.exc hE (λe=>e3 (Zy e).symm),h.kt.exc hE (λe=>e6 (Zy e).symm),ht,⟨xZ hE h.op.row λk hk e=>h.tk.Ot h.op.row (by rw[hk];exact e.symm),⟨λx hx=>xZ hE (h.op.rws.1 x hx) λk hk e=>h.tk.Ot (h.op.rws.1 x hx) (by rw[hk];exact e.symm),h.op.rws.2⟩⟩,xZ hE h.nr λk hk e=>h.tk.Ot h.nr (by rw[hk];exact e.symm),h.ap,h.sb,aby h.ex hE (λj hj=>by have:=h.lo;have:=Zy hj;omega),h.lo⟩
theorem gX.newRow {v':Value} (h:gX w1 w bO bK bt bm n oJ oK dl G N ve P Q l vn []) (hb:Below w.heap.size w w') (hr:w'.ownsRow w.heap.size 102 4 v' 0 []):gX w1 w' bO bK bt bm n oJ oK dl G N ve P Q l v' []:=by
 have h1:=h.keep hb;exact⟨h1.ko,h1.kk,h1.kt,h1.tk,h1.op,FD h.ex.size hr,λk hk e=>by
  have a:=(Zh hr k hk).1;have b:=(Zh h.op.row k e).2;omega,h1.sb,h1.ex,h1.lo⟩
theorem gX.fin (h:gX w1 w bO bK bt bm n oJ oK dl G N ve P Q l vn ys):fV w w1.heap.size vn ys l:=by
 refine⟨h.nr,h.op.rws.sub ?_⟩;refine(XL l).append ?_;have h1:qA (P++Q)=qA P++qA Q:=ala P Q;rw[h1];refine List.Sublist.trans ?_ (VU _ _);unfold qA;exact atK _ h.sb
end
theorem alR (v:Value) (zs:List Int) (n:Nat) (w:World) (hv:aU w v zs) (hn:zs.length<=1000) (FY:n<=1000) (hd:JU zs (n:Int)=true) :
  Calls Tryz.prog 184 #[v,.int .i64 (n:Int)] w (nH true w):=by
 obtain⟨a,cap,rfl,hc,hat⟩:=hv;unfold JU at hd;simp only[Zu,ZF]at hd;obtain⟨bV,dI⟩:=hd;obtain⟨i0,hi,hz0,hz1,hz2⟩:=Yg aal;have HD:=Za (Zb bV dI);clear bV dI;go_enter Tryz.func184,Tryz.ntmps184;go_wp2_with (at_make;refine Yo _ rfl _ _ _ rfl w.heap.size 4 i0 _ 1 Tryz.underlying149 hi hz0 hz1 _ _ _ _ n rfl rfl rfl rfl (by rw[hz2];omega) (by unfold maxLen;omega) (Zj _) ?_;intro w1 hown hgr)
 have FX:=vZ (f:=nN) false n (sz:=1) (by omega) rfl;have hrow:w1.ownsRow w.heap.size 4 1 (.slice (some ⟨w.heap.size,0,none⟩) n n) n ((mF n []).flatMap nN):=by rw[SE,<-FX];exact hown
 have hb1:Below w.heap.size w w1:=(Zl _ _).grown hgr (Zj _) (by simp);clear hown FX hgr hi hz0 hz1 hz2;go_loopw [12] (λi wr=>∃k:Nat,k<=zs.length/\i=.int .i64 k/\wr.ownsRow w.heap.size 4 1 (.slice (some ⟨w.heap.size,0,none⟩) n n) n ((mF n (zs.take k)).flatMap nN)/\Below w.heap.size w wr) (λi _=>zs.length-(intOf i).toNat)
 case atStart=>exact⟨0,Zw _,rfl,hrow,hb1⟩
 case round =>
  clear hrow hb1;obtain⟨k,hk,rfl,hrow,aI⟩:=hrel;by_cases hlt:k<zs.length
  ·obtain⟨b,o,rfl,_,c0⟩:=hat k hlt;rw[Z2]at c0;replace c0:=aK aI c0;have bz:=cell_lt c0;have hxr:0<=zs[k]/\zs[k]<(n:Int):=by
    have h1:=HD.out.1;unfold iL inB at h1;simp only[Z7,Zu,ZF]at h1;have:=h1 _ (Zp hlt);omega
   have lu:zs[k] ∉ zs.take k:=λhm=>by
    obtain⟨j,hj,e⟩:=Yl.1 hm;rw[Ww]at e;rw[ZJ]at hj;have:=(VF HD.out.2).1 e;omega
   have tH:zs.take (k+1)=zs.take k++[zs[k]]:=Zv hlt;generalize zs[k]=x at *;obtain⟨m,rfl⟩:∃m:Nat,x=m:=⟨x.toNat,by omega⟩
   have rO:m<n:=by omega
   have w1:IntKind.i64.wrap ((n:Int)-1)=(n:Int)-1:=Z8 _ (by omega);have HB:=Za (show inB (m:Int) 0 ((n:Int)-1)=true by unfold inB;simp;omega);have s0:=mV Es hrow m 0 (by rw[AA];exact rO) (by omega);rw[JM]at s0;have f0:=hrow.frozenAt m;simp only[nN,Z2,YC,Zc]at s0;have zg2:=cell_lt s0;have hs:(zs.take k).contains (m:Int)=false:=by simpa using lu
   rw[hs]at s0;have hrow2:=Ap Es hrow m 0 m (by rw[AA];exact rO) (by omega) (by omega) (.bool true) true rfl;rw[<-OZ n (zs.take k) m rO,<-tH]at hrow2;clear hs hrow lu tH hat hxr;go_wp2_with (go_at_call 70;refine(rG _ _ _ _).mono ?_;rintro r w2⟨rfl,rfl⟩;rw[HB.out])
   go_roundw
   case rel=>exact⟨k+1,by omega,by go_num,hrow2,aI.setCell (Zj _) _⟩
   case measure=>simp[intOf];omega
  ·clear hat hrow;obtain rfl:zs.length=k:=by omega
   go_wp2;go_ret;exact⟨rfl,aI⟩
theorem alS (v u:Value) (zs:List Int) (w:World) (hv:aU w v zs) (hu:aU w u zs) (hn:zs.length<=1000) :
  Calls Tryz.prog 186 #[v,u] w (nH true w):=by
 obtain⟨a,c,rfl⟩:=hv.slice;obtain⟨a2,c2,rfl⟩:=hu.slice;have HV:=Za hv;have HU:=Za hu;clear hv hu;go_enter Tryz.func186,Tryz.ntmps186;go_wp2_with fail
 go_loopw [13] (λi wr=>∃k:Nat,k<=zs.length/\i=.int .i64 k/\Below w.heap.size w wr) (λi _=>zs.length-(intOf i).toNat)
 case atStart=>exact⟨0,Zw _,rfl,Zl _ _⟩
 case round =>
  obtain⟨k,hk,rfl,aI⟩:=hrel;by_cases hlt:k<zs.length
  ·obtain⟨b1,o1,rfl,c1⟩:=ints_at (HV.out.keep aI) hlt;obtain⟨b2,o2,rfl,d1⟩:=ints_at (HU.out.keep aI) hlt;have z1:=cell_lt c1;have z2:=cell_lt d1;have HB:=Za aI;generalize zs[k]=x at *;clear aI;go_wp2_with fail
   go_quiet (fail)
   go_wp2;go_roundw
   case rel=>exact⟨k+1,by omega,by go_num,YU HB.out _⟩
   case measure=>simp[intOf];omega
  ·obtain rfl:zs.length=k:=by omega
   go_wp2;go_ret;exact⟨rfl,aI⟩
theorem atO (e:aO) (vi vo ui uo:Value) (w:World) (h1:aU w vi e.aj) (h2:aU w vo e.ay) (h3:aU w ui e.aj) (h4:aU w uo e.ay) (hl:e.aj.length<=1000/\e.ay.length<=1000) :
  Calls Tryz.prog 185 #[.agg #[.int .i64 e.kind,.int .i64 e.value,vi,vo],.agg #[.int .i64 e.kind,.int .i64 e.value,ui,uo]] w (nH true w):=by
 obtain⟨a1,c1,rfl⟩:=h1.slice;obtain⟨a2,c2,rfl⟩:=h2.slice;obtain⟨a3,c3,rfl⟩:=h3.slice;obtain⟨a4,c4,rfl⟩:=h4.slice;have hb1:=aH w (.cells #[.int .i64 e.kind,.int .i64 e.value,.slice a1 e.aj.length c1,.slice a2 e.ay.length c2] 102);have hB:=hb1.trans ((aH (w.alloc (.cells #[.int .i64 e.kind,.int .i64 e.value,.slice a1 e.aj.length c1,.slice a2 e.ay.length c2] 102)) (.cells #[.int .i64 e.kind,.int .i64 e.value,.slice a3 e.aj.length c3,.slice a4 e.ay.length c4] 102)).mono hb1.size);have kA:=(Bk.new w 102 #[.int .i64 e.kind,.int .i64 e.value,.slice a1 e.aj.length c1,.slice a2 e.ay.length c2]).alloc (.cells #[.int .i64 e.kind,.int .i64 e.value,.slice a3 e.aj.length c3,.slice a4 e.ay.length c4] 102);have kB:=Bk.new (w.alloc (.cells #[.int .i64 e.kind,.int .i64 e.value,.slice a1 e.aj.length c1,.slice a2 e.ay.length c2] 102)) 102 #[.int .i64 e.kind,.int .i64 e.value,.slice a3 e.aj.length c3,.slice a4 e.ay.length c4];simp only[Zn]at kB;have H1:=Za (λ(u:World) (hu:Below w.heap.size w u)=>alS _ _ e.aj u (h1.keep hu) (h3.keep hu) hl.1);have H2:=Za (λ(u:World) (hu:Below w.heap.size w u)=>alS _ _ e.ay u (h2.keep hu) (h4.keep hu) hl.2);clear hb1 h1 h2 h3 h4;go_enter Tryz.func185,Tryz.ntmps185;go_wp2_with fail
 generalize((w.alloc (.cells #[.int .i64 e.kind,.int .i64 e.value,.slice a1 e.aj.length c1,.slice a2 e.ay.length c2] 102)).alloc (.cells #[.int .i64 e.kind,.int .i64 e.value,.slice a3 e.aj.length c3,.slice a4 e.ay.length c4] 102))=u1 at *;refine(H1.out u1 hB).mono ?_;rintro r u2⟨rfl,hb2⟩;have aZ:=hB.trans (hb2.mono hB.size);have kA2:=kA.keep hb2;have kB2:=kB.keep hb2;have x3:=kA2.cell.1 3;have xz:=kA2.lt;have y3:=kB2.cell.1 3;have yz:=kB2.lt;simp only[Ze,Zc,Zd]at x3 y3;clear hB hb2 kA kB kA2 kB2;go_wp2_with fail
 refine(H2.out u2 aZ).mono ?_;rintro r u3⟨rfl,hb3⟩;have fU:=aZ.trans (hb3.mono aZ.size);clear aZ hb3 x3 xz y3 yz;go_wp2;go_ret;exact⟨rfl,fU⟩
theorem atP (g q:aF) (W V:Nat) (hq:KO g q W V) (m:aX) (hm:Ce g q m=true) (vg gi go vq qi qo vx vy:Value) (w:World) (hgi:∃a n c,gi=.slice a n c) (hgo:∃a n c,go=.slice a n c) (Kw:∃a n c,qi=.slice a n c) (hqo:∃a n c,qo=.slice a n c) (hG:oM w vg g.ah) (hQ:oM w vq q.ah) (hx:aU w vx m.aB) (hy:aU w vy m.ah) :
  Calls Tryz.prog 180 #[.agg #[.int .i64 (W:Int),vg,gi,go],.agg #[.int .i64 (V:Int),vq,qi,qo],.agg #[vx,vy]] w (nH true w):=by
 obtain⟨a1,n1,c1,rfl⟩:=hgi;obtain⟨a2,n2,c2,rfl⟩:=hgo;obtain⟨a3,n3,c3,rfl⟩:=Kw;obtain⟨a4,n4,c4,rfl⟩:=hqo;obtain⟨ga,gc,eg⟩:=hG.slice;obtain⟨qa,qc,eq⟩:=hQ.slice;obtain⟨xa,xc,ex⟩:=hx.slice;obtain⟨ya,yc,ey⟩:=hy.slice;have qY:=hq.mq.gw;have hqw:=hq.mq.qw;have Nk:=hm;unfold Ce at Nk;simp only[Zu,ZF,Z7,ZW]at Nk;obtain⟨h1,h2,h3,h4,h5⟩:=Nk;have lC:m.aB.length=V:=by omega
 rw[qY]at h3;obtain⟨nG,I_⟩:∃n,g.ah.length=n:=⟨_,rfl⟩
 obtain⟨nQ,EM⟩:∃n,q.ah.length=n:=⟨_,rfl⟩
 rw[lC]at ex;rw[h2,EM]at ey;rw[I_]at eg h4;rw[EM]at eq;subst ex ey eg eq;have lG:=hq.nG;have lQ:=hq.nQ;have lV:=hq.nV;have lW:=hq.nW;rw[I_]at lG;rw[EM]at lQ;have Ou:=Za (Zb hG (Zb hQ (Zb hx hy)));have HM:=Za (Zb lC (Zb h2 (Zb h5 (Zb I_ EM))));have HQ:=Za hq;have yO:=Za (acK hm).2.2;have HD1:=Za (λ(u:World) (hu:Below w.heap.size w u)=>alR _ m.aB W u (hx.keep hu) (by omega) (by omega) h3);have HD2:=Za (λ(u:World) (hu:Below w.heap.size w u)=>alR _ m.ah nG u (hy.keep hu) (by rw[h2,EM];omega) (by omega) h4);clear hG hQ hx hy hm h1 h2 h3 h4 h5 lC qY hqw hq I_ EM;have hb1:=aH w (.cells #[.int .i64 (W:Int),.slice ga nG gc,.slice a1 n1 c1,.slice a2 n2 c2] 33);have hb2:=hb1.trans ((aH (w.alloc (.cells #[.int .i64 (W:Int),.slice ga nG gc,.slice a1 n1 c1,.slice a2 n2 c2] 33)) (.cells #[.int .i64 (V:Int),.slice qa nQ qc,.slice a3 n3 c3,.slice a4 n4 c4] 33)).mono hb1.size);have hB:=hb2.trans ((aH ((w.alloc (.cells #[.int .i64 (W:Int),.slice ga nG gc,.slice a1 n1 c1,.slice a2 n2 c2] 33)).alloc (.cells #[.int .i64 (V:Int),.slice qa nQ qc,.slice a3 n3 c3,.slice a4 n4 c4] 33)) (.cells #[.slice xa V xc,.slice ya nQ yc] 77)).mono hb2.size);have kG:=((Bk.new w 33 #[.int .i64 (W:Int),.slice ga nG gc,.slice a1 n1 c1,.slice a2 n2 c2]).alloc (.cells #[.int .i64 (V:Int),.slice qa nQ qc,.slice a3 n3 c3,.slice a4 n4 c4] 33)).alloc (.cells #[.slice xa V xc,.slice ya nQ yc] 77);have kQ:=(Bk.new (w.alloc (.cells #[.int .i64 (W:Int),.slice ga nG gc,.slice a1 n1 c1,.slice a2 n2 c2] 33)) 33 #[.int .i64 (V:Int),.slice qa nQ qc,.slice a3 n3 c3,.slice a4 n4 c4]).alloc (.cells #[.slice xa V xc,.slice ya nQ yc] 77);have kM:=Bk.new ((w.alloc (.cells #[.int .i64 (W:Int),.slice ga nG gc,.slice a1 n1 c1,.slice a2 n2 c2] 33)).alloc (.cells #[.int .i64 (V:Int),.slice qa nQ qc,.slice a3 n3 c3,.slice a4 n4 c4] 33)) 77 #[.slice xa V xc,.slice ya nQ yc];simp only[Zn]at kQ kM;go_enter Tryz.func180,Tryz.ntmps180;go_wp2_with fail
 generalize(((w.alloc (.cells #[.int .i64 (W:Int),.slice ga nG gc,.slice a1 n1 c1,.slice a2 n2 c2] 33)).alloc (.cells #[.int .i64 (V:Int),.slice qa nQ qc,.slice a3 n3 c3,.slice a4 n4 c4] 33)).alloc (.cells #[.slice xa V xc,.slice ya nQ yc] 77))=u0 at *;clear hb1 hb2;refine(HD1.out u0 hB).mono ?_;rintro e u1⟨rfl,hb1⟩;have aS:=hB.trans (hb1.mono hB.size);have gG:=kG.keep hb1;have uS:=kQ.keep hb1;have gI:=kM.keep hb1;have g1:=gG.cell.1 1;have gz:=gG.lt;have m1:=gI.cell.1 1;have mz:=gI.lt;simp only[Ze,Zc,Zd]at g1 m1;clear hB hb1 kG kQ kM;go_wp2_with fail
 refine(HD2.out u1 aS).mono ?_;rintro e u2⟨rfl,hb2⟩;have aZ:=aS.trans (hb2.mono aS.size);have qg:=gG.keep hb2;have Uo:=uS.keep hb2;have kM2:=gI.keep hb2;have q1:=Uo.cell.1 1;have qz:=Uo.lt;simp only[Ze,Zc,Zd]at q1;clear aS hb2 gG uS gI g1 gz m1 mz;go_wp2_with fail
 clear q1 qz;go_loopw [45] (λiv wr=>∃k:Nat,k<=nQ/\iv=.int .i64 k/\Below w.heap.size w wr/\Bk wr w.heap.size 33 #[.int .i64 (W:Int),.slice ga nG gc,.slice a1 n1 c1,.slice a2 n2 c2]/\Bk wr (w.heap.size+1) 33 #[.int .i64 (V:Int),.slice qa nQ qc,.slice a3 n3 c3,.slice a4 n4 c4]/\Bk wr (w.heap.size+1+1) 77 #[.slice xa V xc,.slice ya nQ yc]) (λiv _=>nQ-(intOf iv).toNat)
 case atStart=>exact⟨0,Zw _,rfl,aZ,qg,Uo,kM2⟩
 case round =>
 clear aZ qg Uo kM2 HD1 HD2;obtain⟨k,hk,rfl,hB,kG,kQ,kM⟩:=hrel;by_cases hlt:k<nQ
 ·have U9:k<q.ah.length:=by rw[HM.out.2.2.2.2];exact hlt
  obtain⟨a',c',e',hcc,hat⟩:=Ou.out.2.1;simp only[Zx]at e';obtain⟨rfl,-,rfl⟩:=e';obtain⟨qb,qo2,rfl,_,dL⟩:=hat k U9;have hS:=HM.out.2.2.1 k U9;have Rl:q.ah[k]∈q.ah:=Zp U9;rw[show q.ah.getD k bQ=q.ah[k]by rw[Zg,Zi U9];rfl]at hS;have uD:k<m.ah.length:=by rw[HM.out.2.1];exact U9
  obtain⟨yb,yo,rfl,y0w⟩:=ints_at Ou.out.2.2.2 (i:=k) uD;have hrg:0<=m.ah[k]/\m.ah[k]<(g.ah.length:Int):=yO.out.2 _ (Zp uD);obtain⟨a,ha⟩:∃a:Nat,m.ah[k]=(a:Int):=⟨m.ah[k].toNat,by omega⟩
  rw[ha]at y0w hrg;have hal:a<g.ah.length:=by omega
  rw[show m.ah.getD k 0=(a:Int)by rw[Zg,Zi uD];exact ha,Zr]at hS;obtain⟨a2',c2',e2',atQ,TG⟩:=Ou.out.1;simp only[Zx]at e2';obtain⟨rfl,-,rfl⟩:=e2';obtain⟨gb,go2,rfl,_,Rn⟩:=TG a hal;rw[show g.ah.getD a bQ=g.ah[a]by rw[Zg,Zi hal];rfl]at hS;have lC:=HQ.out.lq _ Rl;have hxr:=HQ.out.mq.SL _ Rl;have awH:a<nG:=by rw[<-HM.out.2.2.2.1];exact hal
  generalize q.ah[k]=x at *;generalize g.ah[a]=y at *;unfold wL at hS;simp only[Zu,ZF]at hS;obtain⟨s1,s2,s3,s4⟩:=hS;obtain⟨d0,d1,wi',wo',d2,d3,ady,adz⟩:=Rn;rw[<-s1]at d0;rw[<-s2]at d1;rw[<-s3]at ady;rw[<-s4]at adz;obtain⟨t0,t1,wi,wo2,t2,t3,qH,qJ⟩:=dL;obtain⟨e1,e2,rfl⟩:=qH.slice;obtain⟨e3,e4,rfl⟩:=qJ.slice;obtain⟨h1,h2,rfl⟩:=ady.slice;obtain⟨h3,h4,rfl⟩:=adz.slice;have r0:=aK hB t0;have r1:=aK hB t1;have r2:=aK hB t2;have r3:=aK hB t3;have rz:=cell_lt r0;have HTAB:=Za (show ∀z∈x.aj++x.ay,0<=z/\z<(m.aB.length:Int)from λz hz=>by have h1:=hxr z hz;have h2:=HM.out.1;omega);have oC:=Za lC;have HD:=Za (Zb d0 (Zb d1 (Zb d2 (Zb d3 (Zb ady adz)))));have HE:=Za (Zb qH qJ);have HY:=Za y0w;have hA:=aH wr (.cells #[.int .i64 x.kind,.int .i64 x.value,.slice e1 x.aj.length e2,.slice e3 x.ay.length e4] 102);have kE:=Bk.new wr 102 #[.int .i64 x.kind,.int .i64 x.value,.slice e1 x.aj.length e2,.slice e3 x.ay.length e4];have gG:=kG.keep hA;have uS:=kQ.keep hA;have gI:=kM.keep hA;have aS:=hB.trans (hA.mono hB.size);clear t0 t1 t2 t3 qH qJ ady adz d0 d1 d2 d3 s1 s2 s3 s4 lC hxr y0w ha hal uD U9 Rl hat TG hcc atQ hA hB kG kQ kM;go_wp2_with fail
  generalize(wr.alloc (.cells #[.int .i64 x.kind,.int .i64 x.value,.slice e1 x.aj.length e2,.slice e3 x.ay.length e4] 102))=u1 at *;generalize wr.heap.size=bE at *;obtain⟨iE,-,zE⟩:=kE.cell;have x0:=iE 0;have x1:=iE 1;have x2:=iE 2;have x3:=iE 3;have m0:=gI.cell.1 0;have mz:=gI.lt;simp only[Ze,Zc,Zd]at x0 x1 x2 x3 m0;clear iE r0 r1 r2 r3 rz;have gW:∀{w':World},aC dD u1.drew w'->Below u1.heap.size u1 w':=λh=>(Zl u1.heap.size u1).drew.trans (h.toBelow.mono (by simp));have Ju:∀{w':World},aC dD u1.drew w'->Below w.heap.size w w':=λh=>aS.trans ((gW h).mono aS.size);refine h_ (C:=aC (dD) _) 6 [0,1,2,3,4,5,6,7,8,9,10,11,12,13,14,15,16] (by kernel_rfl) (by kernel_rfl) (aC.aJ _ _) (aC.refl _ _) ?_;iterate 8 (apply dh rfl rfl rfl;(focus intro u hc' hf';go_simp<;>rfl);intro K hK;go_simp;apply hK;clear hK K)
  refine fD rfl rfl rfl (aC.aJ _ _) (aC.refl _ _) 162 (λK hK=>?_);apply Zq;refine⟨λw' hw'=>?_,λwa bT bZ=>?_⟩;(focus go_simp;rfl);refine((MX _ _ m.aB x.aj _ (Ou.out.2.2.1.keep (Ju bT)) (HE.out.1.keep (Ju bT)) (λz hz=>HTAB.out z (ZV _ hz)) (by have:=oC.out;omega) (by rw[HM.out.1];omega)).mono (R':=DJ (aG m.aB x.aj) wa) λ_ _ h=>h.q).mono ?_;rintro e w3⟨f1,f2,rfl,hr3,hb3⟩;refine⟨_,rfl,hb3,λhx=>?_⟩;go_simp;apply hK;clear hK K;iterate 4 (apply dh rfl rfl rfl;(focus intro u hc' hf';go_simp<;>rfl);intro K hK;go_simp;apply hK;clear hK K)
  refine fD rfl rfl rfl (aC.aJ _ _) (hx) 162 (λK hK=>?_);apply Zq;refine⟨λw' hw'=>?_,λwb dJ dH=>?_⟩;(focus go_simp;rfl);refine((MX _ _ m.aB x.ay _ (Ou.out.2.2.1.keep (Ju dJ)) (HE.out.2.keep (Ju dJ)) (λz hz=>HTAB.out z (Ym _ hz)) (by have:=oC.out;omega) (by rw[HM.out.1];omega)).mono (R':=DJ (aG m.aB x.ay) wb) λ_ _ h=>h.q).mono ?_;rintro e w4⟨f3,f4,rfl,hr4,hb4⟩;refine⟨_,rfl,hb4,λhx=>?_⟩;go_simp;apply hK;clear hK K;iterate 1 (apply dh rfl rfl rfl;(focus intro u hc' hf';go_simp<;>rfl);intro K hK;go_simp;apply hK;clear hK K)
  refine ku rfl rfl rfl (aC.aJ _ _) hx (λb=>.pointer (some ⟨b,0,none⟩)) (λK hK=>?_);apply Zq;refine⟨λw' hw'=>?_,λbO Qo Gx Gy aW hNb d_=>?_⟩
  ·go_simp;rfl
  go_simp;refine hK _ _ _ ?_;clear hK K;refine jd rfl rfl rfl (aC.aJ _ _) Gx (λK hK=>?_);intro DZ GN Af;have kO:Bk DZ bO 102 #[.int .i64 0,.int .i64 0,.slice none 0 0,.slice none 0 0]:=(Af.block bO (made_cell aW).2.2).trans aW;obtain⟨k0,kf,kz⟩:=kO.cell;have tC:=((((hr3.keep dH).keep hb4).keep Gy).keep Af)
  have vH:=((hr4.keep Gy).keep Af)
  generalize DW:(aG m.aB x.aj).length=L1 at *;generalize hL2:(aG m.aB x.ay).length=L2 at *;have HLL:=Za (Zb DW hL2);clear DW hL2;refine⟨((((DZ.setCell ⟨bO,0,none⟩ (.int .i64 x.kind)).setCell ⟨bO,1,none⟩ (.int .i64 x.value)).setCell ⟨bO,2,none⟩ (.slice f1 L1 f2)).setCell ⟨bO,3,none⟩ (.slice f3 L2 f4)),?_,⟨bF (bF (bF (bF GN (.inl hNb) _) (.inl hNb) _) (.inl hNb) _) (.inl hNb) _,by simp,λj _ hj _=>by rw[Zm _ _ _ _ (λh=>hj (by simp[h])),Zm _ _ _ _ (λh=>hj (by simp[h])),Zm _ _ _ _ (λh=>hj (by simp[h])),Zm _ _ _ _ (λh=>hj (by simp[h]))]⟩,?_⟩
  ·go_simp
  go_simp;refine hK _ _ _ ?_;clear hK K;refine dR ?_;have adA:u1.heap.size<=bO:=by simpa using hNb
  have kO1:Bk _ bO 102 #[.int .i64 x.kind,.int .i64 0,.slice none 0 0,.slice none 0 0]:=kO.set 0 (.int .i64 x.kind);have qP:Bk _ bO 102 #[.int .i64 x.kind,.int .i64 x.value,.slice none 0 0,.slice none 0 0]:=kO1.set 1 (.int .i64 x.value);have rZ:Bk _ bO 102 #[.int .i64 x.kind,.int .i64 x.value,.slice f1 L1 f2,.slice none 0 0]:=qP.set 2 (.slice f1 L1 f2);have r_:Bk ((((DZ.setCell ⟨bO,0,none⟩ (.int .i64 x.kind)).setCell ⟨bO,1,none⟩ (.int .i64 x.value)).setCell ⟨bO,2,none⟩ (.slice f1 L1 f2)).setCell ⟨bO,3,none⟩ (.slice f3 L2 f4)) bO 102 #[.int .i64 x.kind,.int .i64 x.value,.slice f1 L1 f2,.slice f3 L2 f4]:=rZ.set 3 (.slice f3 L2 f4);have dU:=(((tC.setB kO (by decide) 0 (.int .i64 x.kind)).setB kO1 (by decide) 1 (.int .i64 x.value)).setB qP (by decide) 2 (.slice f1 L1 f2)).setB rZ (by decide) 3 (.slice f3 L2 f4);have dV:=(((vH.setB kO (by decide) 0 (.int .i64 x.kind)).setB kO1 (by decide) 1 (.int .i64 x.value)).setB qP (by decide) 2 (.slice f1 L1 f2)).setB rZ (by decide) 3 (.slice f3 L2 f4);have oH:Below u1.heap.size u1 ((((DZ.setCell ⟨bO,0,none⟩ (.int .i64 x.kind)).setCell ⟨bO,1,none⟩ (.int .i64 x.value)).setCell ⟨bO,2,none⟩ (.slice f1 L1 f2)).setCell ⟨bO,3,none⟩ (.slice f3 L2 f4)):=((((gW GN).setCell adA _).setCell adA _).setCell adA _).setCell adA _;have Nu:=Za (Zb dU.at dV.at);have dZ:=aS.trans (oH.mono aS.size);have DV:=gG.keep oH;have kQ4:=uS.keep oH;have NU:=gI.keep oH;clear dU dV oH kO1 qP rZ k0 kf kz kO GN Af hx bT dJ bZ dH hr3 hr4 tC vH hb3 hb4 Gx Gy aW hNb d_ gW Ju x0 x1 x2 x3 m0 mz zE kE gG uS gI aS;generalize((((DZ.setCell ⟨bO,0,none⟩ (.int .i64 x.kind)).setCell ⟨bO,1,none⟩ (.int .i64 x.value)).setCell ⟨bO,2,none⟩ (.slice f1 L1 f2)).setCell ⟨bO,3,none⟩ (.slice f3 L2 f4))=u4 at *;have o0:=r_.cell.1 0;have o1:=r_.cell.1 1;have o2:=r_.cell.1 2;have o3:=r_.cell.1 3;have oz:=r_.lt;have g1:=DV.cell.1 1;have gz:=DV.lt;have m1:=NU.cell.1 1;have mz:=NU.lt;have y0:=aK dZ HY.out;have yz:=cell_lt y0;have d0:=aK dZ HD.out.1;have d1:=aK dZ HD.out.2.1;have d2:=aK dZ HD.out.2.2.1;have d3:=aK dZ HD.out.2.2.2.1;have dz:=cell_lt d0;simp only[Ze,Zc,Zd]at o0 o1 o2 o3 g1 m1;have hai:(a:Int)<(nG:Int):=by omega
  have FM:(k:Int)<(nQ:Int):=by omega
  have HCM:=Za (λ(u:World) (hu:Below u4.heap.size u4 u)=>(show Calls Tryz.prog 185 #[.agg #[.int .i64 x.kind,.int .i64 x.value,.slice f1 L1 f2,.slice f3 L2 f4],.agg #[.int .i64 x.kind,.int .i64 x.value,.slice h1 L1 h2,.slice h3 L2 h4]] u (nH true u)from
   atO ⟨x.kind,x.value,aG m.aB x.aj,aG m.aB x.ay⟩ _ _ _ _ u (Nu.out.1.keep hu) (Nu.out.2.keep hu) (HD.out.2.2.2.2.1.keep (dZ.trans (hu.mono dZ.size))) (HD.out.2.2.2.2.2.keep (dZ.trans (hu.mono dZ.size))) (by simp only[gY];have:=oC.out;omega)))
  have up4:∀{w':World},aC dD u4.drew w'->Below u4.heap.size u4 w':=λh=>(Zl u4.heap.size u4).drew.trans (h.toBelow.mono (by simp));go_wp2_with fail
  refine h_ (C:=aC (dD) _) 11 [0,1,2,3,4,5,6,7,8,9,10,11] (by kernel_rfl) (by kernel_rfl) (aC.aJ _ _) (aC.refl _ _) ?_;iterate 10 (apply dh rfl rfl rfl;(focus intro u hc' hf';go_simp<;>rfl);intro K hK;go_simp;apply hK;clear hK K)
  refine fD rfl rfl rfl (aC.aJ _ _) (aC.refl _ _) 185 (λK hK=>?_);apply Zq;refine⟨λw' hw'=>?_,λwa bT bZ=>?_⟩;(focus go_simp;rfl);refine(HCM.out wa (up4 bT)).mono ?_;rintro e w5⟨rfl,bH⟩;refine⟨_,rfl,bH,λhx=>?_⟩;go_simp;apply hK;clear hK K;iterate 1 (apply dh rfl rfl rfl;(focus intro u hc' hf';go_simp<;>rfl);intro K hK;go_simp;apply hK;clear hK K)
  refine dR ?_;have aV:=up4 hx;have z_:=Za (Zb (dZ.trans (aV.mono dZ.size)) (Zb (DV.keep aV) (Zb (kQ4.keep aV) (NU.keep aV))));clear aV hx bT bZ bH up4 o0 o1 o2 o3 oz g1 gz m1 mz y0 yz d0 d1 d2 d3 dz r_ DV kQ4 NU dZ;go_wp2;go_roundw
  case rel=>exact⟨k+1,by omega,by go_num,z_.out.1,z_.out.2.1,z_.out.2.2.1,z_.out.2.2.2⟩
  case measure=>simp[intOf];omega
 ·clear kG kQ kM;obtain rfl:nQ=k:=by omega
  go_wp2;go_ret;exact⟨rfl,hB⟩
end Go.Proofs.YtkhpobekconobaaGreat
