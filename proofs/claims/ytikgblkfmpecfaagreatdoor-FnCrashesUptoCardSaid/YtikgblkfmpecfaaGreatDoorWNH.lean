/-
  The entries that define a library's definitions. Own work.
-/
import Derived.Test.YtikgblkfmpecfaaGreatDoorWC
import Derived.Test.YtikgblkfmpecfaaGreatDoorWLW
import Derived.Test.YtikgblkfmpecfaaGreatDoorWF
import Derived.Test.YtikgblkfmpecfaaGreatDoorWNE
import Derived.Test.YtikgblkfmpecfaaGreatDoorWL
import Derived.Test.YtikgblkfmpecfaaGreatDoorWJ
set_option linter.all false
set_option maxRecDepth 100000
set_option maxHeartbeats 8000000
namespace Go.Proofs.YtikgblkfmpecfaaGreatDoor
open Go.RowKit
def Cc (x:Df×Value):En×Value:=(iw x.1,x.2)
theorem Zn {w:World} {B:Nat} {v:Value} {xs:List (En×Value)} (ho:w.ownsRow B 45 4 v xs.length (xs.flatMap jA)) (hb:∀x∈xs,aZ w x.2 x.1.body):tu w v (xs.map Prod.fst):=by
 have ho':w.ownsRow B 45 4 v (xs.map Prod.fst).length (xs.flatMap jA):=by rw[List.length_map];exact ho
 refine yw ho' _ λi b o hi' hc=>⟨hi',?_⟩
 have hi:i<xs.length:=by simpa using hi' 
 have g:∀j,j<4->w.cell? ⟨b,o+j,none⟩=(jA xs[i])[j]?:=λj hj=>(hc j hj).trans (flat_get aaA xs i j hi hj);rw[List.getElem_map];exact⟨g 0 (by omega),g 1 (by omega),g 2 (by omega),xs[i].2,g 3 (by omega),hb _ (List.getElem_mem _)⟩
theorem LD {w:World} {ops:Array Oper} {rest:List Oper} {o:Oper} {a:Act} {Q:Exit->Act->World->Prop} (hgd:o.guard=none) (s x:Operand)
  (ho:o.op=.call { callee:=.builtin .append,args:=#[s,x],argTypes:=#[37,37] })
  (B:Nat) (v:Value) (n:Nat) (xs:List Value) (e:En) (ab:Option Addr) (nb cb:Nat) (g:Nat) (hg:g=w.heap.size) (hs:a.eval s=v) (hx:a.eval x=.slice (some ⟨g,0,none⟩) 1 1) (hrow:w.ownsRow B 45 4 v n xs)
  (hB:B<=w.heap.size) (hl:n<=1048576)
  (H:∀v' w',w'.ownsRow B 45 4 v' (n+1) (xs++jA (e,.slice ab nb cb))->(w.alloc (.cells #[.int .i64 e.kind,.string e.name,.string e.to,.slice ab nb cb] 45)).grownBy w' v.ownBlock->wpList Tryz.prog ops Q rest (a.put o.dst v') w') :
  wpList Tryz.prog ops Q (o::rest) a (w.alloc (.cells #[.int .i64 e.kind,.string e.name,.string e.to,.slice ab nb cb] 45)):=by
 subst hg;obtain⟨i0,hi,hz0,hz1,hz2⟩:=info_parts abw;have hk:=aj w (.cells #[.int .i64 e.kind,.string e.name,.string e.to,.slice ab nb cb] 45);refine oK hgd s x 37 ho B 45 i0 _ 4 64 Tryz.underlying37 hi hz0 hz1 hz2 rfl (by decide) v n xs hs (bW hk hrow) _ 1 (jA (e,.slice ab nb cb)) hx ⟨rfl,.inr ⟨_,1,rfl,?_⟩⟩ ?_ (by unfold maxLen;omega) (by omega) (by simp;omega) ?_
 ·intro j u hj;match j,hj with
  | 0,hj=>simp[jA]at hj;subst hj;simp[Addr.add]
  | 1,hj=>simp[jA]at hj;subst hj;simp[Addr.add]
  | 2,hj=>simp[jA]at hj;subst hj;simp[Addr.add]
  | 3,hj=>simp[jA]at hj;subst hj;simp[Addr.add]
 ·intro u hu;simp[jA]at hu;rcases hu with rfl|rfl|rfl|rfl<;>rfl
 ·intro v' w' h1 h2 h3;exact H v' w' h1 h2
def Ce (w wr:World) (B:Nat) (v:Value) (xs:List (Df×Value)) (k:Nat):Prop :=
 wr.ownsRow B 45 4 v k (((xs.take k).map Cc).flatMap jA)/\Below w.heap.size w wr/\w.heap.size<=B/\B<=wr.heap.size
theorem Ce.step {w wr w':World} {B k:Nat} {v v':Value} {xs:List (Df×Value)} {o o2:Obj} (h:Ce w wr B v xs k) (hk:k<xs.length)
  (hr:w'.ownsRow B 45 4 v' (k+1) (((xs.take k).map Cc).flatMap jA++jA (Cc xs[k]))) (hg:((wr.alloc o2).alloc o).grownBy w' v.ownBlock):Ce w w' B v' xs (k+1):=by
 obtain⟨h1,hbel,hwB,hB⟩:=h;have h3:=hg.size;have h4:=hbel.size;simp only[World.size_alloc]at h3;refine⟨?_,((hbel.alloc (by omega) o2).alloc (by simp;omega) o).grown hg (by simp;omega) (λj hj=>Nat.le_trans hwB (World.ownsRow.lt h1 j hj).1),hwB,by omega⟩;rw[List.take_succ_eq_append_getElem hk,List.map_append,List.flatMap_append];simpa using hr
theorem Ce.fin {w wr:World} {B:Nat} {v v0:Value} {xs:List (Df×Value)} (h:Ce w wr B v xs xs.length) (hv:vH w v0 xs):tu wr v ((xs.map Prod.fst).map iw)/\Below w.heap.size w wr:=by
 obtain⟨h1,hbel,_,_⟩:=h;rw[List.take_length]at h1;refine⟨?_,hbel⟩;have:=Zn (w:=wr) (B:=B) (v:=v) (xs:=xs.map Cc) (by simpa using h1) (λx hx=>by
  obtain⟨y,hy,rfl⟩:=List.mem_map.1 hx;exact(hv.2 y hy).keep hbel)
 rw[List.map_map]at this ⊢;exact this
theorem afb {w:World} {a:Option Addr} {n c:Nat} {xs:List (Df×Value)} (h:vH w (.slice a n c) xs) (k:Nat) (hk:k<xs.length) :
  ∃b o,a=some ⟨b,o,none⟩/\w.cell? ⟨b,o+k*4,none⟩=some (.string xs[k].1.name)/\w.cell? ⟨b,o+k*4+1,none⟩=some (.int .i64 xs[k].1.inn)/\w.cell? ⟨b,o+k*4+2,none⟩=some (.int .i64 xs[k].1.out)/\w.cell? ⟨b,o+k*4+3,none⟩=some xs[k].2/\∃ab cb,xs[k].2=.slice ab xs[k].1.body.length cb:=by
 obtain⟨⟨a',c',e,_,hat⟩,hb⟩:=h;simp only[Value.slice.injEq]at e;obtain⟨rfl,_,_⟩:=e;obtain⟨b,o,h1,_,h2⟩:=hat k hk;exact⟨b,o,h1,h2 0 (by omega),h2 1 (by omega),h2 2 (by omega),h2 3 (by omega),(hb _ (List.getElem_mem _)).slice⟩
theorem afc (v:Value) (L:List Df) (w:World) (hv:aG w v L) (hn:L.length<=1048576) :
  Calls Tryz.prog 60 #[v] w λe w'=>∃v',e=.returned v'/\tu w' v' (L.map iw)/\Below w.heap.size w w':=by
 obtain⟨xs,rfl,hxs⟩:=hv.vals;obtain⟨a,cap,rfl⟩:∃a cap,v=.slice a xs.length cap:=by obtain⟨⟨a,cap,rfl,_⟩,_⟩:=hxs;exact⟨a,cap,rfl⟩
 have HX:=Lib.hid hxs;simp only[List.length_map]at hn;clear hv hxs;go_enter Tryz.func60,Tryz.ntmps60;go_wp2;go_loopw [3,9] (λv i wr=>∃k:Nat,k<=xs.length/\i=.int .i64 k/\Ce w wr w.heap.size v xs k) (λ_ i _=>xs.length-(intOf i).toNat)
 case atStart =>
  refine⟨0,by omega,rfl,?_,aj _ _,Nat.le_refl _,by simp⟩
  have:=World.ownsRow_made (base:=w.heap.size) (size:=4) (e:=45) w #[] 0 (Nat.le_refl _) (by unfold maxLen;omega) rfl
  simpa using this
 case round =>
  obtain⟨k,hk,rfl,hst⟩:=hrel
  obtain⟨ao,cp,rfl⟩:=jW hst.1
  have HST:=Lib.hid hst
  by_cases hlt:k<xs.length
  ·obtain⟨b,o,rfl,g0,g1,g2,g3,ab,cb,g4⟩:=afb HX.out k hlt
   have hbel:=hst.2.1
   have c0:=ak hbel g0
   have c1:=ak hbel g1
   have c2:=ak hbel g2
   have c3:=ak hbel g3
   rw[g4]at c3
   have hrow:=bW (aj wr (.cells #[.string xs[k].1.name,.int .i64 xs[k].1.inn,.int .i64 xs[k].1.out,.slice ab xs[k].1.body.length cb] 101)) hst.1
   have hsz:=hst.2.2.2
   have HG:=Lib.hid (show Cc xs[k]=(iw xs[k].1,.slice ab xs[k].1.body.length cb)by unfold Cc;rw[g4])
   have STEP:∀(v':Value) (w':World) (o o2:Obj),w'.ownsRow w.heap.size 45 4 v' (k+1) (((xs.take k).map Cc).flatMap jA++jA (iw xs[k].1,.slice ab xs[k].1.body.length cb))->((wr.alloc o2).alloc o).grownBy w' (Value.slice ao k cp).ownBlock->Ce w w' w.heap.size v' xs (k+1):=λv' w' o o2 h1 h2=>hst.step hlt (by rw[HG.out];exact h1) h2
   have HW:=Lib.hid hrow
   clear g0 g1 g2 g3 g4 hst hrow
   go_wp2_with (at_builtin;go_must (refine LD (e:=iw xs[k].1) (ab:=ab) (nb:=xs[k].1.body.length) (cb:=cb) (g:=wr.heap.size+1) rfl (.tmp 13) (.tmp 19) rfl w.heap.size _ k _ (by simp) rfl rfl HW.out ?e1 ?e2 ?_;(case e1=>(simp;omega));(case e2=>omega);intro v' w' h1 h2;have hst:=STEP v' w' _ _ h1 h2;obtain⟨ao',cp',rfl⟩:=jW h1;clear h1 h2))
   go_roundw
   case rel=>exact⟨k+1,by omega,by go_num,hst⟩
   case measure=>simp[intOf];omega
  ·go_wp2
   go_ret
   have hkk:k=xs.length:=by omega
   subst hkk
   exact⟨_,rfl,HST.out.fin HX.out⟩
theorem afd {L:List Df} (h:good L=true):(∀e∈L.map iw,dW e)/\(L.map iw).length<=1048576:=by
 have h1:=yE h;have h2:=tK h;refine⟨λx hx=>?_,by simp;omega⟩;obtain⟨d,hd,rfl⟩:=List.mem_map.1 hx;obtain⟨q1,q2,q3⟩:=h1 d hd;exact⟨by show d.name.size<=1048576;omega,by show(0:Nat)<=1048576;omega,λn hn=>by have:=q3 n hn;omega,by show d.body.length<=1048576;omega⟩
def nm6:List ByteArray:=[⟨#[102]⟩,⟨#[103]⟩,⟨#[104]⟩,⟨#[120,49]⟩,⟨#[108,111,110,103]⟩,⟨#[121]⟩]
theorem Zo:∀x∈nm6,x.size<=8:=by decide
structure oh (bc m:Nat) (w wr:World):Prop where
 b0:wr.heap[w.heap.size]?=some (.cells #[.int .i64 0,.string ⟨#[]⟩,.string ⟨#[]⟩,.slice none 0 0] 45)
 b1:wr.heap[w.heap.size+1]?=some (.cells #[.string ⟨#[102]⟩,.string ⟨#[103]⟩,.string ⟨#[104]⟩,.string ⟨#[120,49]⟩,.string ⟨#[108,111,110,103]⟩,.string ⟨#[121]⟩] 9)
 cur:aW bc m wr
 ex:ah (λk=>k=bc) w wr
theorem oh.cur' {bc m m':Nat} {w wr w2:World} (h:oh bc m w wr) (hE:ah (λk=>k=bc) wr w2) (hb:bc<w.heap.size) (hc:aW bc m' w2):oh bc m' w w2:=by
 have z0:=(made_cell h.b0).2.2;have z1:=(made_cell h.b1).2.2;exact⟨(hE.block _ z0 (by omega)).trans h.b0,(hE.block _ z1 (by omega)).trans h.b1,hc,h.ex.trans hE⟩
theorem oh.keep {bc m:Nat} {w wr w2:World} (h:oh bc m w wr) (hb:Below wr.heap.size wr w2) (hbc:bc<w.heap.size):oh bc m w w2 :=
 h.cur' ((ah.refl _ _).below hb) hbc (h.cur.keep hb)
theorem oh.mono {bc m m':Nat} {w wr:World} (h:oh bc m w wr) (hm:m<=m'):oh bc m' w wr:=⟨h.b0,h.b1,h.cur.mono hm,h.ex⟩
theorem oh.names {bc m:Nat} {w wr:World} (h:oh bc m w wr):Rk wr (.slice (some ⟨w.heap.size+1,0,none⟩) 6 6) nm6:=by
 obtain⟨m0,_,_⟩:=made_cell h.b1;refine⟨some ⟨w.heap.size+1,0,none⟩,6,rfl,Nat.le_refl _,λi hi=>⟨_,0,rfl,hi,?_⟩⟩;simp only[nm6,List.length_cons,List.length_nil]at hi;match i,hi with
 | 0,_=>simp[m0,nm6]
 | 1,_=>simp[m0,nm6]
 | 2,_=>simp[m0,nm6]
 | 3,_=>simp[m0,nm6]
 | 4,_=>simp[m0,nm6]
 | 5,_=>simp[m0,nm6]
theorem alloc_at (w:World) (o:Obj):(w.alloc o).heap[w.heap.size]?=some o:=by
 show(w.heap.push o)[w.heap.size]?=some o;exact Array.getElem?_push_size
def sF (e:En):Prop:=e.name.size<=8/\e.to.size<=8/\(∀d∈e.body,d.name.size<=8)/\e.body.length<=250
def EyP (bc m:Nat) (w:World) (e:Ending) (w':World):Prop:=∃(en:En) (vb:Value),e=.returned (.agg #[.int .i64 en.kind,.string en.name,.string en.to,vb])/\au w' (w.heap.size+1) vb en.body/\sF en/\aW bc m w'/\ah (λk=>k=bc) w w'
theorem RX {bc m:Nat} {w W:World} {v:Value} {ns:List Nd} (h:oh bc m w W) (hbz:bc<w.heap.size) (ho:au W (w.heap.size+1) v ns) (a b c d:Value) :
  ∀W4,W4=(((W.setCell ⟨w.heap.size,0,none⟩ a).setCell ⟨w.heap.size,1,none⟩ b).setCell ⟨w.heap.size,2,none⟩ c).setCell ⟨w.heap.size,3,none⟩ d ->
   W4.cell? ⟨w.heap.size,0,none⟩=some a/\W4.cell? ⟨w.heap.size,1,none⟩=some b/\W4.cell? ⟨w.heap.size,2,none⟩=some c/\W4.cell? ⟨w.heap.size,3,none⟩=some d/\au W4 (w.heap.size+1) v ns/\aW bc m W4/\ah (λk=>k=bc) w W4:=by
 intro W4 hW;obtain⟨m0,m1,m2⟩:=made_cell h.b0;have c0:W.cell? ⟨w.heap.size,0,none⟩=some (.int .i64 0):=m0 0;have c1:W.cell? ⟨w.heap.size,1,none⟩=some (.string ⟨#[]⟩):=m0 1;have c2:W.cell? ⟨w.heap.size,2,none⟩=some (.string ⟨#[]⟩):=m0 2;have c3:W.cell? ⟨w.heap.size,3,none⟩=some (.slice none 0 0):=m0 3;have hS:ah (λk=>k=w.heap.size) W W4:=by
  rw[hW];exact aB (a:=⟨w.heap.size,3,none⟩) (aB (a:=⟨w.heap.size,2,none⟩) (aB (a:=⟨w.heap.size,1,none⟩) (aB (a:=⟨w.heap.size,0,none⟩) (ah.refl (λk=>k=w.heap.size) _) (.inr rfl) _) (.inr rfl) _) (.inr rfl) _) (.inr rfl) _
 refine⟨by rw[hW];clear hW;go_simp,by rw[hW];clear hW;go_simp,by rw[hW];clear hW;go_simp,by rw[hW];clear hW;go_simp,gV hS ho (λk hk e=>by have:=(World.ownsRow.lt ho k hk).1;omega),h.cur.exc (T:=λk=>k=w.heap.size) hS (λk hk=>by omega),?_⟩;rw[hW];exact aB (aB (aB (aB h.ex (.inl (Nat.le_refl _)) _) (.inl (Nat.le_refl _)) _) (.inl (Nat.le_refl _)) _) (.inl (Nat.le_refl _)) _
theorem afe {k:Nat} {ns:List Nd} (h:Dn k ns):∀d∈ns,d.name.size<=8:=by obtain⟨_,_,_,_,_,h⟩:=h;exact h
structure sN (bc m:Nat) (w wx:World) (tb:Nat) (u:ByteArray) (vb:Value) (nb:List Nd):Prop where
 st:oh bc m w wx
 t0:wx.cell? ⟨tb,0,none⟩=some (.int .i64 1)
 t1:wx.cell? ⟨tb,1,none⟩=some (.string u)
 t2:wx.cell? ⟨tb,2,none⟩=some (.string ⟨#[]⟩)
 t3:wx.cell? ⟨tb,3,none⟩=some vb
 f3:wx.frozen? ⟨tb,3,none⟩=false
 tl:w.heap.size+1<tb
 own:au wx (w.heap.size+1) vb nb
 ne:∀k,vb.ownBlock=some k->k≠tb
 dn:Dn 250 nb
theorem sN.cur' {bc m m':Nat} {w wx w2:World} {tb:Nat} {u:ByteArray} {vb:Value} {nb:List Nd} (h:sN bc m w wx tb u vb nb) (hE:ah (λk=>k=bc) wx w2) (hb:bc<w.heap.size) (hc:aW bc m' w2):sN bc m' w w2 tb u vb nb:=by
 have z0:=cell_lt h.t0;have tl:=h.tl;have nb:¬tb=bc:=by omega
 exact⟨h.st.cur' hE hb hc,(hE.cell.1 _ _ z0 nb).trans h.t0,(hE.cell.1 _ _ z0 nb).trans h.t1,(hE.cell.1 _ _ z0 nb).trans h.t2,(hE.cell.1 _ _ z0 nb).trans h.t3,(hE.cell.2 _ _ z0 nb).trans h.f3,tl,LC h.own hE (by omega),h.ne,h.dn⟩
theorem sN.mono {bc m m':Nat} {w wx:World} {tb:Nat} {u:ByteArray} {vb:Value} {nb:List Nd} (h:sN bc m w wx tb u vb nb) (hm:m<=m'):sN bc m' w wx tb u vb nb:=⟨h.st.mono hm,h.t0,h.t1,h.t2,h.t3,h.f3,h.tl,h.own,h.ne,h.dn⟩
theorem aff {bc m:Nat} {w w6:World} {u:ByteArray} {a6:Option Addr} {c6:Nat} {zN:List Nd} (hbz:bc<w.heap.size) (h:oh bc m w w6) (ho:au w6 (w.heap.size+1) (.slice a6 zN.length c6) zN) (hd:Dn 250 zN) :
  sN bc m w (w6.alloc (.cells #[.int .i64 1,.string u,.string ⟨#[]⟩,.slice a6 zN.length c6] 45)) w6.heap.size u (.slice a6 zN.length c6) zN:=by
 have hbn:=(made_cell h.b1).2.2;exact⟨h.keep (aj _ _) hbz,by simp[go_sem],by simp[go_sem],by simp[go_sem],by simp[go_sem],by simp[go_sem],hbn,au.keep (aj _ _) ho,λk hk e=>by have:=(World.ownsRow.lt ho k hk).2;omega,hd⟩
theorem sN.set {bc m:Nat} {w wx:World} {tb:Nat} {u:ByteArray} {vb v':Value} {nb ns':List Nd} (h:sN bc m w wx tb u vb nb) (hbc:bc<w.heap.size) (ho:au wx (w.heap.size+1) v' ns') (hne:∀k,v'.ownBlock=some k->k≠tb) (hd:Dn 250 ns'):sN bc m w (wx.setCell ⟨tb,3,none⟩ v') tb u v' ns':=by
 have t0:=h.t0;have t1:=h.t1;have t2:=h.t2;have t3:=h.t3;have f3:=h.f3;have z0:=cell_lt t0;have tl:=h.tl;have hS:ah (λk=>k=tb) wx (wx.setCell ⟨tb,3,none⟩ v'):=aB (a:=⟨tb,3,none⟩) (ah.refl (λk=>k=tb) _) (.inr rfl) _;refine⟨⟨?_,?_,h.st.cur.exc (T:=λk=>k=tb) hS (λk hk=>by omega),aB h.st.ex (.inl (by show w.heap.size<=tb;omega)) _⟩,by go_simp,by go_simp,by go_simp,by go_simp,by go_simp,tl,gV hS ho (λk hk e=>hne k hk e),hne,hd⟩
 ·exact(hS.block _ (made_cell h.st.b0).2.2 (by omega)).trans h.st.b0
 ·exact(hS.block _ (made_cell h.st.b1).2.2 (by omega)).trans h.st.b1
theorem Zp (bc m:Nat) (p:Int) (lv:Value) (xs:List (Df×Value)) (w:World) (h:aW bc m w) (hm:m+1300<=1099511627776) (hp:1<p) (hp2:p<=97) (hl:bP w (bc+1) lv xs) (hg:good (xs.map Prod.fst)=true) :
  Calls Tryz.prog 101 #[.pointer (some ⟨bc,0,none⟩),.int .i64 p,lv] w (EyP bc (m+1300) w):=by
 have hbz:=h.lt;have hn:xs.length<=12:=by have:=tK hg;simpa using this
 obtain⟨la,lc,rfl⟩:=hl.shape xs.length rfl;have hal:Below w.heap.size w ((w.alloc (.cells #[.int .i64 0,.string ⟨#[]⟩,.string ⟨#[]⟩,.slice none 0 0] 45)).alloc (.cells #[.string ⟨#[102]⟩,.string ⟨#[103]⟩,.string ⟨#[104]⟩,.string ⟨#[120,49]⟩,.string ⟨#[108,111,110,103]⟩,.string ⟨#[121]⟩] 9)):=((Below.refl _ _).alloc (Nat.le_refl _) _).alloc (by simp) _;have hst:oh bc m w ((w.alloc (.cells #[.int .i64 0,.string ⟨#[]⟩,.string ⟨#[]⟩,.slice none 0 0] 45)).alloc (.cells #[.string ⟨#[102]⟩,.string ⟨#[103]⟩,.string ⟨#[104]⟩,.string ⟨#[120,49]⟩,.string ⟨#[108,111,110,103]⟩,.string ⟨#[121]⟩] 9)):=by
  exact⟨((aj (w.alloc (.cells #[.int .i64 0,.string ⟨#[]⟩,.string ⟨#[]⟩,.slice none 0 0] 45)) (.cells #[.string ⟨#[102]⟩,.string ⟨#[103]⟩,.string ⟨#[104]⟩,.string ⟨#[120,49]⟩,.string ⟨#[108,111,110,103]⟩,.string ⟨#[121]⟩] 9)).block w.heap.size (by simp)).trans (alloc_at w _),by have:=alloc_at (w.alloc (.cells #[.int .i64 0,.string ⟨#[]⟩,.string ⟨#[]⟩,.slice none 0 0] 45)) (.cells #[.string ⟨#[102]⟩,.string ⟨#[103]⟩,.string ⟨#[104]⟩,.string ⟨#[120,49]⟩,.string ⟨#[108,111,110,103]⟩,.string ⟨#[121]⟩] 9);rwa [World.size_alloc]at this,h.keep hal,(ah.refl _ _).below hal⟩
 go_enter Tryz.func101,Tryz.ntmps101;go_upto_region 2 with fail
 go_cut [17] (λs17 wx=>∃b,s17=.bool b/\(b=false->0<xs.length)/\oh bc (m+2) w wx)
 case first =>
  by_cases hx:xs.length=0
  ·have hx':(xs.length:Int)=0:=by omega
   go_wp2_with fail
   go_meet
   case rel=>exact⟨true,rfl,by simp,hst.mono (by omega)⟩
  ·have hx':¬(xs.length:Int)=0:=by omega
   go_wp2_with (go_at_call 39;refine(one_any bc m 2 _ hst.cur (by omega) (by omega)).mono ?_;rintro e w2⟨b,rfl,hc2,hx2⟩;have hst2:=hst.cur' hx2 hbz hc2)
   all_goals
    go_meet
    case rel=>exact⟨_,rfl,by intros;omega,hst2⟩
 case rest =>
  obtain⟨b,rfl,hb0,st⟩:=hcut
  clear hst hal
  have hr:=hl.cur st.ex (Nat.lt_succ_self _)
  have hbx:=(made_cell st.b0).2.2
  have hbn:=(made_cell st.b1).2.2
  cases b
  ·have hx0:=hb0 rfl
   have hx':(0:Int)<xs.length:=by omega
   obtain⟨g,Za,e,hcap,_,hgB,hgz⟩:=Ad hr.1 hx0
   simp only[Value.slice.injEq]at e
   obtain⟨rfl,_,rfl⟩:=e
   have hpick:=(pick_any bc _ xs.length _ st.cur (by omega) (by omega)).mono (R':=λe w5=>∃q:Nat,∃hq:q<xs.length,∃nm:ByteArray,e=.returned (.int .i64 (q:Int))/\nm.size<=8 /\
     w5.cell? ⟨g,q*4,none⟩=some (.string nm)/\aW bc (m+2+2) w5/\ah (λk=>k=bc) wc w5) (by
    rintro e w5⟨y,rfl,y0,y1,y2,hc5,hx5⟩;obtain⟨q,rfl⟩:=Int.eq_ofNat_of_zero_le y0;have hq:q<xs.length:=by omega
    obtain⟨d0,_,_,_,_,_⟩:=RI (hr.cur hx5 (Nat.lt_succ_self _)) q hq;have hmem:xs[q].1∈xs.map Prod.fst:=List.mem_map_of_mem (List.getElem_mem _);exact⟨q,hq,_,rfl,qV (wB hg _ hmem),d0,hc5,hx5⟩)
   go_upto_if 57 with(first
    |(go_at_call 39;refine(one_any bc _ 2 _ iQ.cur (by omega) (by omega)).mono ?_;rintro e w6⟨b,rfl,hc6,hx6⟩;have lF:=iQ.cur' hx6 hbz hc6)
    |(go_at_call 38;refine hpick.mono ?_;rintro e w5⟨q,hq,nm,rfl,nm8,d0,hc5,hx5⟩;have iQ:=st.cur' hx5 hbz hc5))
   clear hpick st iQ hc5 hx5 hc6 hx6 hr d0
   have Bz:=lF.names
   cases b
   ·obtain⟨m0,m1,m2⟩:=made_cell lF.b0
    have f0:=m1 0
    have f1:=m1 1
    have f2:=m1 2
    have f3:=m1 3
    have c0:w6.cell? ⟨w.heap.size,0,none⟩=some (.int .i64 0):=m0 0
    have c1:w6.cell? ⟨w.heap.size,1,none⟩=some (.string ⟨#[]⟩):=m0 1
    have c2:w6.cell? ⟨w.heap.size,2,none⟩=some (.string ⟨#[]⟩):=m0 2
    have c3:w6.cell? ⟨w.heap.size,3,none⟩=some (.slice none 0 0):=m0 3
    clear m0 m1
    go_wp2_with fail
    obtain⟨q0,q1,q2,q3,Hw,A_,Hy⟩:=RX lF hbz (v:=.slice none 0 0) (ns:=[]) ⟨rfl,.inl ⟨rfl,rfl⟩⟩ (.int .i64 2) (.string nm) (.string ⟨#[]⟩) (.slice none 0 0) _ rfl
    refine bodyPost_ret (v:=.agg #[.int .i64 2,.string nm,.string ⟨#[]⟩,.slice none 0 0]) (by simp[results,Tryz.results101,go_sem,q0,q1,q2,q3]) rfl ⟨⟨2,nm,⟨#[]⟩,[]⟩,_,rfl,Hw,⟨nm8,(show(⟨#[]⟩:ByteArray).size<=8 by decide),by simp,by simp⟩,A_.mono (by omega),Hy⟩
   ·go_wp2_with (go_at_call 49;refine(Ll bc _ _ nm6 _ lF.cur (by omega) Bz (by decide) (by decide) (λq hq=>by simp[Value.ownBlock]at hq;omega)).mono ?_;rintro e w7⟨u,hu,rfl,xH,hx7⟩;have og:=lF.cur' hx7 hbz xH;obtain⟨m0,m1,m2⟩:=made_cell og.b0;have f0:=m1 0;have f1:=m1 1;have f2:=m1 2;have f3:=m1 3;have c0:w7.cell? ⟨w.heap.size,0,none⟩=some (.int .i64 0):=m0 0;have c1:w7.cell? ⟨w.heap.size,1,none⟩=some (.string ⟨#[]⟩):=m0 1;have c2:w7.cell? ⟨w.heap.size,2,none⟩=some (.string ⟨#[]⟩):=m0 2;have c3:w7.cell? ⟨w.heap.size,3,none⟩=some (.slice none 0 0):=m0 3;clear m0 m1)
    have RY:=Zo u hu
    obtain⟨q0,q1,q2,q3,Hw,A_,Hy⟩:=RX og hbz (v:=.slice none 0 0) (ns:=[]) ⟨rfl,.inl ⟨rfl,rfl⟩⟩ (.int .i64 3) (.string nm) (.string u) (.slice none 0 0) _ rfl
    refine bodyPost_ret (v:=.agg #[.int .i64 3,.string nm,.string u,.slice none 0 0]) (by simp[results,Tryz.results101,go_sem,q0,q1,q2,q3]) rfl ⟨⟨3,nm,u,[]⟩,_,rfl,Hw,⟨nm8,RY,by simp,by simp⟩,A_.mono (by omega),Hy⟩
  ·clear hb0
   have Bz:=st.names
   go_upto_region 4 with(first
    |(go_at_call 73;refine(Ro bc _ p i o 2 d _ iQ.cur (by omega) hp hp2 i0 (by omega) o0 (by omega) (by omega) (by omega)).mono ?_;rintro e w6⟨v6,zN,rfl,hd6,dK,hc6,hx6⟩;obtain⟨a6,c6,rfl⟩:=dK.slice;have lF:=iQ.cur' hx6 hbz hc6)
    |(go_at_call 39;refine(one_any bc _ 4 _ jU.cur (by omega) (by omega)).mono ?_;rintro e w5⟨d,rfl,hc5,hx5⟩;have iQ:=jU.cur' hx5 hbz hc5)
    |(go_at_call 38;refine(pick_any bc _ 3 _ gI.cur (by omega) (by omega)).mono ?_;rintro e w4⟨o,rfl,o0,o1,o2,hc4,hx4⟩;have jU:=gI.cur' hx4 hbz hc4)
    |(go_at_call 38;refine(pick_any bc _ 3 _ st2.cur (by omega) (by omega)).mono ?_;rintro e w3⟨i,rfl,i0,i1,i2,hc3,hx3⟩;have gI:=st2.cur' hx3 hbz hc3)
    |(go_at_call 49;refine(Ll bc _ _ nm6 _ st.cur (by omega) Bz (by decide) (by decide) (λq hq=>by simp[Value.ownBlock]at hq;omega)).mono ?_;rintro e w2⟨u,hu,rfl,hc2,hx2⟩;have st2:=st.cur' hx2 hbz hc2))
   have RY:=Zo u hu
   have et:=aff (u:=u) hbz lF (au.mono (by have:=(made_cell iQ.b1).2.2;omega) dK) (hd6.mono (by omega))
   obtain⟨tb,htb⟩:∃tb,tb=w6.heap.size:=⟨_,rfl⟩
   obtain⟨W7,RZ⟩:∃W,W=w6.alloc (.cells #[.int .i64 1,.string u,.string ⟨#[]⟩,.slice a6 zN.length c6] 45):=⟨_,rfl⟩
   rw[<-htb,<-RZ]at et
   rw[<-htb,<-RZ]
   clear htb RZ lF iQ jU gI st2 st hc2 hc3 hc4 hc5 hc6 hx2 hx3 hx4 hx5 hx6 dK hd6 hu Bz i1 o1 hr hbx hbn i2 o2
   go_cut [37] (λs37 wx=>∃b,s37=.bool b/\(b=true->0<xs.length)/\∃vb nb,sN bc (m+250) w wx tb u vb nb)
   case first =>
    by_cases hx:xs.length=0
    ·have hx':¬(0:Int)<xs.length:=by omega
     clear hx
     go_wp2_with fail
     go_meet
     case rel=>exact⟨false,rfl,by simp,_,_,et.mono (by omega)⟩
    ·have hx':(0:Int)<xs.length:=by omega
     go_wp2_with (go_at_call 39;refine(one_any bc _ 2 _ et.st.cur (by omega) (by omega)).mono ?_;rintro e w8⟨b,rfl,hc8,o_⟩;have Ci:=et.cur' o_ hbz hc8)
     all_goals
      go_meet
      case rel=>exact⟨_,rfl,by intros;omega,_,_,Ci.mono (by omega)⟩
   case rest =>
    obtain⟨b,rfl,hb0,vb,nb,Ci⟩:=hcut
    clear et
    go_upto_if 37 with fail
    go_cut [20] (λs20 wx=>∃vb nb,sN bc (m+1300) w wx tb u vb nb)
    case first =>
     cases b
     ·go_wp2_with fail
      go_meet
      case rel=>exact⟨_,_,Ci.mono (by omega)⟩
     ·have hrow:=hl.cur Ci.st.ex (Nat.lt_succ_self _)
      go_wp2_with (first
       |(go_at_call 37;refine(aeY bc _ p i2 o2 _ xs _ Hz.st.cur (by omega) hp hp2 i20 (by omega) o20 (by omega) (hl.cur Hz.st.ex (Nat.lt_succ_self _)) hg hn).mono ?_;rintro e iE⟨v11,ahY,rfl,hd11,R_,afg,afh⟩;obtain⟨a11,c11,rfl⟩:=R_.slice;have Si:=Hz.cur' afh hbz afg;have t3:=Si.t3;have f3:=Si.f3;have z3:=cell_lt t3)
       |(go_at_call 38;refine(pick_any bc _ 3 _ Zq.st.cur (by omega) (by omega)).mono ?_;rintro e w10⟨o2,rfl,o20,o21,o22,uO,uV⟩;have Hz:=Zq.cur' uV hbz uO)
       |(go_at_call 38;refine(pick_any bc _ 3 _ Ci.st.cur (by omega) (by omega)).mono ?_;rintro e w9⟨i2,rfl,i20,i21,i22,vI,FU⟩;have Zq:=Ci.cur' FU hbz vI))
      go_meet
      case rel=>exact⟨_,_,(Si.set hbz (au.mono (by have:=(made_cell Hz.st.b1).2.2;omega) R_) (λk hk e=>by have:=(World.ownsRow.lt R_ k hk).1;have:=cell_lt Hz.t0;omega) hd11).mono (by omega)⟩
    case rest =>
     obtain⟨vb,nb,et⟩:=hcut
     clear Ci
     obtain⟨ab,cb,rfl⟩:=et.own.slice
     have t0:=et.t0
     have t1:=et.t1
     have t2:=et.t2
     have t3:=et.t3
     have z0:=cell_lt t0
     obtain⟨m0,m1,m2⟩:=made_cell et.st.b0
     have f0:=m1 0
     have f1:=m1 1
     have f2:=m1 2
     have f3:=m1 3
     have c0:wc.cell? ⟨w.heap.size,0,none⟩=some (.int .i64 0):=m0 0
     have c1:wc.cell? ⟨w.heap.size,1,none⟩=some (.string ⟨#[]⟩):=m0 1
     have c2:wc.cell? ⟨w.heap.size,2,none⟩=some (.string ⟨#[]⟩):=m0 2
     have c3:wc.cell? ⟨w.heap.size,3,none⟩=some (.slice none 0 0):=m0 3
     clear m0 m1
     go_wp2_with fail
     obtain⟨_,_,_,hln,_⟩:=et.dn.one
     obtain⟨q0,q1,q2,q3,Hw,A_,Hy⟩:=RX et.st hbz et.own (.int .i64 1) (.string u) (.string ⟨#[]⟩) (.slice ab nb.length cb) _ rfl
     refine bodyPost_ret (v:=.agg #[.int .i64 1,.string u,.string ⟨#[]⟩,.slice ab nb.length cb]) (by simp[results,Tryz.results101,go_sem,q0,q1,q2,q3]) rfl ⟨⟨1,u,⟨#[]⟩,nb⟩,_,rfl,Hw,⟨RY,(show(⟨#[]⟩:ByteArray).size<=8 by decide),afe et.dn,hln⟩,A_.mono (by omega),Hy⟩
def lG (w:World) (B:Nat) (v:Value) (xs:List (En×Value)):Prop:=w.ownsRow B 45 4 v xs.length (xs.flatMap jA)/\∀x∈xs,au w B x.2 x.1.body
theorem lG.at {w:World} {B:Nat} {v:Value} {xs:List (En×Value)} (h:lG w B v xs):tu w v (xs.map Prod.fst):=Zn h.1 λx hx=>(h.2 x hx).at
theorem lG.cur {bc B:Nat} {w w':World} {v:Value} {xs:List (En×Value)} (h:lG w B v xs) (hE:ah (λk=>k=bc) w w') (hB:bc<B):lG w' B v xs :=
 ⟨gV hE h.1 (λk hk e=>by have:=(World.ownsRow.lt h.1 k hk).1;have:k=bc:=e;omega),λx hx=>LC (h.2 x hx) hE hB⟩
theorem lG.keep {B:Nat} {w w':World} {v:Value} {xs:List (En×Value)} (h:lG w B v xs) (hb:Below w.heap.size w w'):lG w' B v xs :=
 ⟨bW hb h.1,λx hx=>au.keep hb (h.2 x hx)⟩
theorem lG.shape {B:Nat} {w:World} {v:Value} {xs:List (En×Value)} (h:lG w B v xs):∃a c,v=.slice a xs.length c:=jW h.1
theorem lG.snoc {w w':World} {B:Nat} {v v' vb:Value} {xs:List (En×Value)} {e:En} {o:Obj} (h:lG w B v xs) (hb:au w B vb e.body)
  (hr:w'.ownsRow B 45 4 v' (xs.length+1) (xs.flatMap jA++jA (e,vb))) (hg:(w.alloc o).grownBy w' v.ownBlock):lG w' B v' (xs++[(e,vb)]):=by
 have ne:∀(u:Value) ns,au w B u ns->∀k,u.ownBlock=some k->v.ownBlock≠some k:=λu ns hu k hk=>oG hu h.1 (by decide) k hk;have kp:∀(u:Value) ns,au w B u ns->au w' B u ns:=λu ns hu=>Dv (au.keep (aj w o) hu) hg (ne u ns hu);refine⟨by rw[List.length_append,List.flatMap_append];simpa using hr,λx hx=>?_⟩;rcases List.mem_append.1 hx with hx|hx
 ·exact kp _ _ (h.2 x hx)
 ·simp at hx;subst hx;exact kp _ _ hb
theorem Eo {e:En} (h:sF e):dW e:=by
 obtain⟨h1,h2,h3,h4⟩:=h;exact⟨by omega,by omega,λd hd=>by have:=h3 d hd;omega,by omega⟩
structure l9 (bc m:Nat) (w wr:World) (v lv:Value) (xs:List (En×Value)) (L:List Df):Prop where
 row:lG wr (w.heap.size) v xs
 lib:cu wr (w.heap.size) lv L
 gd:good L=true
 sm:∀x∈xs,sF x.1
 cur:aW bc m wr
 ex:ah (λk=>k=bc) w wr
theorem l9.cur' {bc m m':Nat} {w wr w2:World} {v lv:Value} {xs:List (En×Value)} {L:List Df} (h:l9 bc m w wr v lv xs L) (hE:ah (λk=>k=bc) wr w2) (hb:bc<w.heap.size) (hc:aW bc m' w2):l9 bc m' w w2 v lv xs L:=by
 obtain⟨ys,rfl,hy⟩:=cu.row h.lib;exact⟨h.row.cur hE hb,(hy.cur hE hb).own,h.gd,h.sm,hc,h.ex.trans hE⟩
theorem l9.keep {bc m:Nat} {w wr w2:World} {v lv:Value} {xs:List (En×Value)} {L:List Df} (h:l9 bc m w wr v lv xs L) (hb:Below wr.heap.size wr w2) (hbc:bc<w.heap.size):l9 bc m w w2 v lv xs L :=
 h.cur' ((ah.refl _ _).below hb) hbc (h.cur.keep hb)
theorem l9.mono {bc m m':Nat} {w wr:World} {v lv:Value} {xs:List (En×Value)} {L:List Df} (h:l9 bc m w wr v lv xs L) (hm:m<=m'):l9 bc m' w wr v lv xs L:=⟨h.row,h.lib,h.gd,h.sm,h.cur.mono hm,h.ex⟩
theorem l9.afi {bc m:Nat} {w wr:World} {v lv Sj:Value} {xs:List (En×Value)} {L R:List Df} (h:l9 bc m w wr v lv xs L) (hl:cu wr w.heap.size Sj R) (hg:good R=true):l9 bc m w wr v Sj xs R:=⟨h.row,hl,hg,h.sm,h.cur,h.ex⟩
theorem afj {w w':World} {B:Nat} {lv:Value} {L:List Df} {row:Option Nat} (h:cu w B lv L) (hg:w.grownBy w' row) (hn:∀k,row=some k->(∀v ns,au w B v ns->v.ownBlock≠some k)/\lv.ownBlock≠some k):cu w' B lv L:=by
 obtain⟨ys,rfl,hy⟩:=cu.row h;refine bP.own ⟨World.ownsRow.kept hy.1 hg ?_,λx hx=>Dv (hy.2.1 x hx) hg λk hk e=>(hn k e).1 _ _ (hy.2.1 x hx) hk,hy.2.2⟩;cases ho:lv.ownBlock with
 | none=>exact .inl rfl
 | some k=>exact .inr λe=>(hn k e.symm).2 ho
theorem l9.app {bc m:Nat} {w w1 w2:World} {o:Obj} {v v' lv vb:Value} {xs:List (En×Value)} {L:List Df} {e:En} (h:l9 bc m w w1 v lv xs L) (hbz:bc<w.heap.size) (hb:au w1 w.heap.size vb e.body) (he:sF e)
  (hr:w2.ownsRow w.heap.size 45 4 v' (xs.length+1) (xs.flatMap jA++jA (e,vb))) (hg:(w1.alloc o).grownBy w2 v.ownBlock):l9 bc m w w2 v' lv (xs++[(e,vb)]) L:=by
 have hE:ah (λk=>v.ownBlock=some k) w1 w2:=((ah.refl (λk=>v.ownBlock=some k) w1).below (aj w1 o)).grown hg (λk hk=>.inr hk);have hlt:=λk hk=>(World.ownsRow.lt h.row.1 k hk).1;have hs:=h.ex.size;have q_:cu (w1.alloc o) w.heap.size lv L:=by obtain⟨ys,rfl,hy⟩:=cu.row h.lib;exact(hy.keep (aj _ _)).own
 have hrow:=bW (aj w1 o) h.row.1;refine⟨h.row.snoc hb hr hg,afj q_ hg (λk hk=>⟨λu ns hu e=>oG hu hrow (by decide) k e hk,λe=>?_⟩),h.gd,λx hx=>?_,h.cur.exc hE (λk hk=>by have:=hlt k hk;omega),⟨hE.os.trans h.ex.os,hE.tape.trans h.ex.tape,hE.output.trans h.ex.output,Nat.le_trans hs hE.size,λk hk ht=>(hE.block k (Nat.lt_of_lt_of_le hk hs) (λe=>by have:=hlt k e;omega)).trans (h.ex.block k hk ht)⟩⟩
 ·obtain⟨ys,hy,hr⟩:=cu.row q_;exact oG hr.1 hrow (by decide) k e hk
 ·rcases List.mem_append.1 hx with hx|hx
  ·exact h.sm x hx
  ·simp at hx;subst hx;exact he
def EsP (bc m n:Nat) (w:World) (e:Ending) (w':World):Prop:=∃v xs,e=.returned v/\lG w' w.heap.size v xs/\(∀x∈xs,sF x.1)/\xs.length<=n/\aW bc m w'/\ah (λk=>k=bc) w w'
theorem Zr (bc m n:Nat) (p:Int) (w:World) (h:aW bc m w) (hm:m+20000<=1099511627776) (hp:1<p) (hp2:p<=97) (hn:n<=7) :
  Calls Tryz.prog 54 #[.pointer (some ⟨bc,0,none⟩),.int .i64 p,.int .i64 n] w (EsP bc (m+20000) n w):=by
 have hbz:=h.lt;go_enter Tryz.func54,Tryz.ntmps54;go_wp2_with fail
 go_loopw [2,7,8] (λkv v lv wr=>∃(k j:Nat) (xs:List (En×Value)) (L:List Df),kv=.int .i64 (k:Int)/\k+j=n/\xs.length<=j/\l9 bc (m+2000*j) w wr v lv xs L) (λkv _ _ _=>(intOf kv).toNat)
 case atStart=>exact⟨n,0,[],[],rfl,by omega,Nat.le_refl _,⟨⟨⟨rfl,.inl ⟨rfl,rfl⟩⟩,by simp⟩,gY _ _,by decide,by simp,h.mono (by omega),ah.refl _ _⟩⟩
 case round =>
  obtain⟨k,j,xs,L,rfl,hkj,hxl,st⟩:=hrel
  obtain⟨av,cv,rfl⟩:=st.row.shape
  by_cases hk:0<k
  ·have hk':(0:Int)<(k:Int):=by omega
   have gl:=wo st.gd
   obtain⟨ys,hys,Zt⟩:=cu.row st.lib
   have gy:=st.gd
   rw[<-hys]at gy
   go_upto_region 6 with(go_at_call 101;refine(Zp bc _ p _ ys _ st.cur (by omega) hp hp2 (Zt.mono (by omega)) gy).mono ?_;rintro e w2⟨en,vb,rfl,hob,hen,hc2,hx2⟩;obtain⟨a2,c2,rfl⟩:=hob.slice;have st2:=st.cur' hx2 hbz hc2)
   obtain⟨tb,htb⟩:∃tb,tb=w2.heap.size:=⟨_,rfl⟩
   obtain⟨W3,hW3⟩:∃W,W=w2.alloc (.cells #[.int .i64 en.kind,.string en.name,.string en.to,.slice a2 en.body.length c2] 45):=⟨_,rfl⟩
   have hal:Below w2.heap.size w2 W3:=by rw[hW3];exact aj _ _
   have t0:W3.cell? ⟨tb,0,none⟩=some (.int .i64 en.kind):=by rw[hW3,htb];simp[go_sem]
   have t1:W3.cell? ⟨tb,1,none⟩=some (.string en.name):=by rw[hW3,htb];simp[go_sem]
   have t2:W3.cell? ⟨tb,2,none⟩=some (.string en.to):=by rw[hW3,htb];simp[go_sem]
   have t3:W3.cell? ⟨tb,3,none⟩=some (.slice a2 en.body.length c2):=by rw[hW3,htb];simp[go_sem]
   have z0:=cell_lt t0
   have hz2:=st2.ex.size
   have htw:¬tb=bc:=by omega
   rw[<-htb,<-hW3]
   have gI:=st2.keep hal hbz
   have ho3:au W3 w.heap.size (.slice a2 en.body.length c2) en.body:=au.mono (by have:=st.ex.size;omega) (au.keep hal hob)
   clear hW3 htb st2 hob hal hc2 hx2 Zt
   have afk:aG W3 u8 L:=by obtain⟨zs,rfl,hz⟩:=cu.row gI.lib;exact hz.at
   have hap:=oQ u8 _ L en W3 afk gl.2 gl.1 ho3.at (Eo hen)
   cases ha:aJ L en with
   | none =>
    rw[ha]at hap
    clear ha
    go_upto_if 32 with(first
     |(go_at_call 39;refine(one_any bc _ 12 _ jU.cur (by omega) (by omega)).mono ?_;rintro e w5⟨b,rfl,hc5,hx5⟩)
     |(go_at_call 56;refine hap.mono ?_;rintro e w4⟨v4,rfl,bF,hb4⟩;have jU:=gI.keep hb4 hbz))
    have iQ:=jU.cur' hx5 hbz hc5
    have dZ:=LC (au.keep hb4 ho3) hx5 hbz
    have iY:=hb4.size
    have t0:=(hx5.cell.1 _ 0 (by omega) htw).trans ((hb4.cell (p:=⟨tb,0,none⟩) z0).trans t0)
    have t1:=(hx5.cell.1 _ 1 (by omega) htw).trans ((hb4.cell (p:=⟨tb,1,none⟩) z0).trans t1)
    have t2:=(hx5.cell.1 _ 2 (by omega) htw).trans ((hb4.cell (p:=⟨tb,2,none⟩) z0).trans t2)
    have t3:=(hx5.cell.1 _ 3 (by omega) htw).trans ((hb4.cell (p:=⟨tb,3,none⟩) z0).trans t3)
    have z5:=cell_lt t0
    clear jU bF hb4 hc5 hx5 gI ho3 hap
    cases b
    ·go_wp2_with fail
     go_roundw
     case rel=>exact⟨k-1,j+1,xs,L,by go_num,by omega,by omega,iQ.mono (by omega)⟩
     case measure=>simp[intOf];omega
    ·go_wp2_with (at_builtin;go_must (refine LD (e:=en) (ab:=a2) (nb:=en.body.length) (cb:=c2) (g:=w5.heap.size) rfl (.tmp 33) (.tmp 35) rfl w.heap.size _ xs.length (xs.flatMap jA) rfl rfl rfl iQ.row.1 ?e1 ?e2 ?_;(case e1=>(have:=iQ.ex.size;omega));(case e2=>omega);intro v' w' h1 h2;have hst':=l9.app iQ hbz dZ hen h1 h2))
     go_roundw
     case rel=>exact⟨k-1,j+1,_,L,by go_num,by omega,by simp;omega,hst'.mono (by omega)⟩
     case measure=>simp[intOf];omega
   | some R =>
    rw[ha]at hap
    have hgR:=xE ha
    clear ha
    go_upto_if 32 with(go_at_call 56;refine hap.mono ?_;rintro e w4⟨v4,rfl,bF,hb4⟩)
    have jU:=(gI.keep hb4 hbz).afi (Sj:=v4) (R:=R) (by obtain⟨zs,hz,hr⟩:=cu.row bF;have e:zs.map Prod.fst=R:=hz;rw[<-e];exact(hr.mono (by have:=gI.ex.size;omega)).own) hgR
    have BD:=au.keep hb4 ho3
    have t0:=(hb4.cell (p:=⟨tb,0,none⟩) z0).trans t0
    have t1:=(hb4.cell (p:=⟨tb,1,none⟩) z0).trans t1
    have t2:=(hb4.cell (p:=⟨tb,2,none⟩) z0).trans t2
    have t3:=(hb4.cell (p:=⟨tb,3,none⟩) z0).trans t3
    have z4:=cell_lt t0
    clear bF hb4 gI ho3 hap
    go_wp2_with (at_builtin;go_must (refine LD (e:=en) (ab:=a2) (nb:=en.body.length) (cb:=c2) (g:=w4.heap.size) rfl (.tmp 33) (.tmp 35) rfl w.heap.size _ xs.length (xs.flatMap jA) rfl rfl rfl jU.row.1 ?e1 ?e2 ?_;(case e1=>(have:=jU.ex.size;omega));(case e2=>omega);intro v' w' h1 h2;have hst':=l9.app jU hbz BD hen h1 h2))
    go_roundw
    case rel=>exact⟨k-1,j+1,_,R,by go_num,by omega,by simp;omega,hst'.mono (by omega)⟩
    case measure=>simp[intOf];omega
  ·go_wp2_with fail
   go_ret
   exact⟨_,xs,rfl,st.row,st.sm,by omega,st.cur.mono (by omega),st.ex⟩
end Go.Proofs.YtikgblkfmpecfaaGreatDoor
