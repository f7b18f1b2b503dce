/-
  The draws: names and entries that are seldom changed. Own work.
-/
import Derived.Test.YtikgblkfmpecfaaGreatDoorWNI
import Derived.Test.YtikgblkfmpecfaaGreatDoorWRS
import Derived.Deep.DeepCutAuto
set_option linter.all false
set_option maxRecDepth 100000
set_option maxHeartbeats 8000000
namespace Go.Proofs.YtikgblkfmpecfaaGreatDoor
open Go.RowKit
def LY:List ByteArray:=[⟨#[102]⟩,⟨#[105,100]⟩,⟨#[99,111,112,121]⟩,⟨#[99,111,100,101,108,97,121]⟩,⟨#[]⟩,⟨#[70]⟩,⟨#[97,49]⟩,⟨#[49,97]⟩,⟨#[97,98,99,100,101,102,103,104]⟩,⟨#[97,98,99,100,101,102,103,104,105]⟩,⟨#[97,95,98]⟩]
theorem afz:∀x∈LY,x.size<=9:=by decide
def LZ:List ByteArray:=[⟨#[102]⟩,⟨#[99,111,112,121]⟩,⟨#[65]⟩,⟨#[]⟩]
theorem afA:∀x∈LZ,x.size<=9:=by decide
def AnP (bc m:Nat) (w:World) (e:Ending) (w':World):Prop:=∃nm:ByteArray,e=.returned (.string nm)/\nm.size<=9/\aW bc m w'/\ah (λk=>k=bc) w w'
theorem afB (bc m:Nat) (lv:Value) (xs:List (Df×Value)) (w:World) (h:aW bc m w) (hm:m+6<=1099511627776) (hl:bP w (bc+1) lv xs) (hg:good (xs.map Prod.fst)=true) :
  Calls Tryz.prog 130 #[.pointer (some ⟨bc,0,none⟩),lv] w (AnP bc (m+6) w):=by
 have hbz:=h.lt;have hn:xs.length<=12:=by have:=tK hg;simpa using this
 obtain⟨la,lc,rfl⟩:=hl.shape xs.length rfl;go_enter Tryz.func130,Tryz.ntmps130;go_upto_region 1 with fail
 go_cut [12] (λs12 wx=>∃b,s12=.bool b/\(b=true->0<xs.length)/\aW bc (m+2) wx/\ah (λk=>k=bc) w wx)
 case first =>
  by_cases hx:xs.length=0
  ·have hx':¬(0:Int)<xs.length:=by omega
   clear hx
   go_wp2_with fail
   go_meet
   case rel=>exact⟨false,rfl,by simp,h.mono (by omega),ah.refl _ _⟩
  ·have hx':(0:Int)<xs.length:=by omega
   go_wp2_with (go_at_call 39;refine(one_any bc m 6 _ h (by omega) (by omega)).mono ?_;rintro e w2⟨b,rfl,hc2,hx2⟩)
   all_goals
    go_meet
    case rel=>exact⟨_,rfl,by intros;omega,hc2,hx2⟩
 case rest =>
  obtain⟨b,rfl,hb0,hcx,SB⟩:=hcut
  have hr:=hl.cur SB (Nat.lt_succ_self _)
  have hzx:=hcx.lt
  cases b
  ·have htx:=Zm wc LY 11 rfl
   have hal:=aj wc (.cells (LY.map Value.string).toArray 9)
   have vI:=hcx.keep hal
   go_wp2_with (go_at_call 49;refine(Ll bc _ _ LY _ vI (by omega) htx (by decide) (by decide) (λq hq=>by simp[Value.ownBlock]at hq;omega)).mono ?_;rintro e w10⟨u,hu,rfl,uO,uV⟩)
   go_ret
   exact⟨u,rfl,afz u hu,uO.mono (by omega),(SB.below hal).trans uV⟩
  ·have hx0:=hb0 rfl
   obtain⟨g,Za,e,hcap,_,hgB,hgz⟩:=Ad hr.1 hx0
   simp only[Value.slice.injEq]at e
   obtain⟨rfl,_,rfl⟩:=e
   have hpick:=(pick_any bc _ xs.length _ hcx (by omega) (by omega)).mono (R':=λe w5=>∃q:Nat,∃hq:q<xs.length,∃nm:ByteArray,e=.returned (.int .i64 (q:Int))/\nm.size<=8 /\
     w5.cell? ⟨g,q*4,none⟩=some (.string nm)/\aW bc (m+2+2) w5/\ah (λk=>k=bc) wc w5) (by
    rintro e w5⟨y,rfl,y0,y1,y2,hc5,hx5⟩;obtain⟨q,rfl⟩:=Int.eq_ofNat_of_zero_le y0;have hq:q<xs.length:=by omega
    obtain⟨d0,_,_,_,_,_⟩:=RI (hr.cur hx5 (Nat.lt_succ_self _)) q hq;have hmem:xs[q].1∈xs.map Prod.fst:=List.mem_map_of_mem (List.getElem_mem _);exact⟨q,hq,_,rfl,qV (wB hg _ hmem),d0,hc5,hx5⟩)
   go_wp2_with (go_at_call 38;refine hpick.mono ?_;rintro e w5⟨q,hq,nm,rfl,nm8,d0,hc5,hx5⟩)
   go_ret
   exact⟨nm,rfl,by omega,hc5.mono (by omega),SB.trans hx5⟩
structure kU (bc m:Nat) (w wx:World) (tb:Nat) (en:En) (vb:Value):Prop where
 b0:wx.heap[w.heap.size]?=some (.cells #[.int .i64 0,.string ⟨#[]⟩,.string ⟨#[]⟩,.slice none 0 0] 45)
 cur:aW bc m wx
 ex:ah (λk=>k=bc) w wx
 t0:wx.cell? ⟨tb,0,none⟩=some (.int .i64 en.kind)
 t1:wx.cell? ⟨tb,1,none⟩=some (.string en.name)
 t2:wx.cell? ⟨tb,2,none⟩=some (.string en.to)
 t3:wx.cell? ⟨tb,3,none⟩=some vb
 tf:∀j,wx.frozen? ⟨tb,j,none⟩=false
 tl:w.heap.size<tb
 own:au wx (w.heap.size+1) vb en.body
 ne:∀k,vb.ownBlock=some k->k≠tb
 ok:dW en
theorem kU.cur' {bc m m':Nat} {w wx w2:World} {tb:Nat} {en:En} {vb:Value} (h:kU bc m w wx tb en vb) (hE:ah (λk=>k=bc) wx w2) (hb:bc<w.heap.size) (hc:aW bc m' w2):kU bc m' w w2 tb en vb:=by
 have z0:=cell_lt h.t0;have tl:=h.tl;have nb:¬tb=bc:=by omega
 exact⟨(hE.block _ (made_cell h.b0).2.2 (by omega)).trans h.b0,hc,h.ex.trans hE,(hE.cell.1 _ _ z0 nb).trans h.t0,(hE.cell.1 _ _ z0 nb).trans h.t1,(hE.cell.1 _ _ z0 nb).trans h.t2,(hE.cell.1 _ _ z0 nb).trans h.t3,λj=>(hE.cell.2 _ _ z0 nb).trans (h.tf j),tl,LC h.own hE (by omega),h.ne,h.ok⟩
theorem kU.mono {bc m m':Nat} {w wx:World} {tb:Nat} {en:En} {vb:Value} (h:kU bc m w wx tb en vb) (hm:m<=m'):kU bc m' w wx tb en vb:=⟨h.b0,h.cur.mono hm,h.ex,h.t0,h.t1,h.t2,h.t3,h.tf,h.tl,h.own,h.ne,h.ok⟩
theorem L6 {w wx:World} {tb:Nat} {v u:Value} {ns:List Nd} {i:Nat} (ho:au wx (w.heap.size+1) v ns) (hne:∀k,v.ownBlock=some k->k≠tb):au (wx.setCell ⟨tb,i,none⟩ u) (w.heap.size+1) v ns :=
 gV (aB (a:=⟨tb,i,none⟩) (ah.refl (λk=>k=tb) _) (.inr rfl) u) ho (λk hk e=>hne k hk e)
theorem L8 {bc m:Nat} {w wx:World} {tb i:Nat} {u:Value} (h0:wx.heap[w.heap.size]?=some (.cells #[.int .i64 0,.string ⟨#[]⟩,.string ⟨#[]⟩,.slice none 0 0] 45)) (hc:aW bc m wx) (hx:ah (λk=>k=bc) w wx) (tl:w.heap.size<tb) (hbc:bc<w.heap.size) :
  (wx.setCell ⟨tb,i,none⟩ u).heap[w.heap.size]?=some (.cells #[.int .i64 0,.string ⟨#[]⟩,.string ⟨#[]⟩,.slice none 0 0] 45)/\aW bc m (wx.setCell ⟨tb,i,none⟩ u)/\ah (λk=>k=bc) w (wx.setCell ⟨tb,i,none⟩ u):=by
 have hS:ah (λk=>k=tb) wx (wx.setCell ⟨tb,i,none⟩ u):=aB (a:=⟨tb,i,none⟩) (ah.refl (λk=>k=tb) _) (.inr rfl) _;exact⟨(hS.block _ (made_cell h0).2.2 (by omega)).trans h0,hc.exc (T:=λk=>k=tb) hS (λk hk=>by omega),aB hx (.inl (by show w.heap.size<=tb;omega)) _⟩
theorem kU.kind {bc m:Nat} {w wx:World} {tb:Nat} {en:En} {vb:Value} (h:kU bc m w wx tb en vb) (hbc:bc<w.heap.size) (k:Int):kU bc m w (wx.setCell ⟨tb,0,none⟩ (.int .i64 k)) tb ⟨k,en.name,en.to,en.body⟩ vb:=by
 obtain⟨a,b,c⟩:=L8 (i:=0) (u:=.int .i64 k) h.b0 h.cur h.ex h.tl hbc;obtain⟨_,_,_,t0,t1,t2,t3,tf,tl,own,ne,ok⟩:=h;have f0:=tf 0;have z0:=cell_lt t0;exact⟨a,b,c,by go_simp,by go_simp,by go_simp,by go_simp,λj=>by have:=tf j;go_simp,tl,L6 own ne,ne,ok⟩
theorem kU.name {bc m:Nat} {w wx:World} {tb:Nat} {en:En} {vb:Value} (h:kU bc m w wx tb en vb) (hbc:bc<w.heap.size) (u:ByteArray) (hu:u.size<=9):kU bc m w (wx.setCell ⟨tb,1,none⟩ (.string u)) tb ⟨en.kind,u,en.to,en.body⟩ vb:=by
 obtain⟨a,b,c⟩:=L8 (i:=1) (u:=.string u) h.b0 h.cur h.ex h.tl hbc;obtain⟨_,_,_,t0,t1,t2,t3,tf,tl,own,ne,ok⟩:=h;have f0:=tf 1;have z0:=cell_lt t0;exact⟨a,b,c,by go_simp,by go_simp,by go_simp,by go_simp,λj=>by have:=tf j;go_simp,tl,L6 own ne,ne,⟨by show u.size<=_;omega,ok.2⟩⟩
theorem kU.to {bc m:Nat} {w wx:World} {tb:Nat} {en:En} {vb:Value} (h:kU bc m w wx tb en vb) (hbc:bc<w.heap.size) (u:ByteArray) (hu:u.size<=9):kU bc m w (wx.setCell ⟨tb,2,none⟩ (.string u)) tb ⟨en.kind,en.name,u,en.body⟩ vb:=by
 obtain⟨a,b,c⟩:=L8 (i:=2) (u:=.string u) h.b0 h.cur h.ex h.tl hbc;obtain⟨_,_,_,t0,t1,t2,t3,tf,tl,own,ne,ok⟩:=h;have f0:=tf 2;have z0:=cell_lt t0;exact⟨a,b,c,by go_simp,by go_simp,by go_simp,by go_simp,λj=>by have:=tf j;go_simp,tl,L6 own ne,ne,⟨ok.1,by show u.size<=_;omega,ok.2.2⟩⟩
theorem kU.body {bc m:Nat} {w wx:World} {tb:Nat} {en:En} {vb v':Value} {ns:List Nd} (h:kU bc m w wx tb en vb) (hbc:bc<w.heap.size) (ho:au wx (w.heap.size+1) v' ns) (hne:∀k,v'.ownBlock=some k->k≠tb) (hok:kL ns):kU bc m w (wx.setCell ⟨tb,3,none⟩ v') tb ⟨en.kind,en.name,en.to,ns⟩ v':=by
 obtain⟨a,b,c⟩:=L8 (i:=3) (u:=v') h.b0 h.cur h.ex h.tl hbc;obtain⟨_,_,_,t0,t1,t2,t3,tf,tl,own,ne,ok⟩:=h;have f0:=tf 3;have z0:=cell_lt t0;exact⟨a,b,c,by go_simp,by go_simp,by go_simp,by go_simp,λj=>by have:=tf j;go_simp,tl,L6 ho hne,hne,⟨ok.1,ok.2.1,hok⟩⟩
theorem afC {bc m:Nat} {w w2:World} {en:En} {a2:Option Addr} {c2:Nat} (hbz:bc<w.heap.size) (hc:aW bc m w2) (hx:ah (λk=>k=bc) (w.alloc (.cells #[.int .i64 0,.string ⟨#[]⟩,.string ⟨#[]⟩,.slice none 0 0] 45)) w2) (ho:au w2 ((w.alloc (.cells #[.int .i64 0,.string ⟨#[]⟩,.string ⟨#[]⟩,.slice none 0 0] 45)).heap.size+1) (.slice a2 en.body.length c2) en.body) (hs:sF en) :
  kU bc m w (w2.alloc (.cells #[.int .i64 en.kind,.string en.name,.string en.to,.slice a2 en.body.length c2] 45)) w2.heap.size en (.slice a2 en.body.length c2):=by
 have h0:=(hx.block w.heap.size (by simp) (by omega)).trans (alloc_at w _);have hz:=(made_cell h0).2.2;have hal:=aj w2 (.cells #[.int .i64 en.kind,.string en.name,.string en.to,.slice a2 en.body.length c2] 45);have hba:=aj w (.cells #[.int .i64 0,.string ⟨#[]⟩,.string ⟨#[]⟩,.slice none 0 0] 45);exact⟨(hal.block _ hz).trans h0,hc.keep hal,((ah.refl _ _).below hba).trans (hx.below hal),by simp[go_sem],by simp[go_sem],by simp[go_sem],by simp[go_sem],λj=>by simp[go_sem],hz,au.keep hal (au.mono (by simp) ho),λk hk e=>by have:=(World.ownsRow.lt ho k hk).2;omega,Eo hs⟩
def AyP (bc m:Nat) (w:World) (e:Ending) (w':World):Prop:=∃(en:En) (vb:Value),e=.returned (.agg #[.int .i64 en.kind,.string en.name,.string en.to,vb])/\au w' (w.heap.size+1) vb en.body/\dW en/\aW bc m w'/\ah (λk=>k=bc) w w'
theorem afD (bc m:Nat) (p:Int) (lv:Value) (xs:List (Df×Value)) (w:World) (h:aW bc m w) (hm:m+1400<=1099511627776) (hp:1<p) (hp2:p<=97) (hl:bP w (bc+1) lv xs) (hg:good (xs.map Prod.fst)=true) :
  Calls Tryz.prog 68 #[.pointer (some ⟨bc,0,none⟩),.int .i64 p,lv] w (AyP bc (m+1400) w):=by
 have hbz:=h.lt;have hal:=aj w (.cells #[.int .i64 0,.string ⟨#[]⟩,.string ⟨#[]⟩,.slice none 0 0] 45);have hc1:=h.keep hal;have hl1:=hl.keep hal;go_enter Tryz.func68,Tryz.ntmps68;go_upto_block 0 with(first
  |(go_at_call 38;refine(pick_any bc _ 20 _ st.cur (by omega) (by omega)).mono ?_;rintro e w3⟨y,rfl,y0,y1,y2,hc3,hx3⟩;have gI:=st.cur' hx3 hbz hc3)
  |(go_at_call 101;refine(Zp bc m p lv xs _ hc1 (by omega) hp hp2 hl1 hg).mono ?_;rintro e w2⟨en,v2,rfl,ho2,hsm,hc2,hx2⟩;obtain⟨a2,c2,rfl⟩:=ho2.slice;have st:=afC hbz hc2 hx2 ho2 hsm))
 have hbl:en.body.length<=250:=hsm.2.2.2;obtain⟨tb,htb⟩:∃tb,tb=w2.heap.size:=⟨_,rfl⟩
 rw[<-htb]at gI;rw[<-htb];obtain⟨vb,hvb⟩:∃vb,vb=Value.slice a2 en.body.length c2:=⟨_,rfl⟩
 have t30:=gI.t3;have tf0:=gI.tf 0;have tf1:=gI.tf 1;have tf2:=gI.tf 2;have RS:=gI.tf 3;have z3:=cell_lt t30;have tl:=gI.tl;have hrow:=hl.cur gI.ex (Nat.lt_succ_self _);clear htb st hc2 hx2 ho2 hc3 hx3 hc1 hl1 hal hsm y1 hvb h;go_cut [14] (λs14 wx=>∃(en:En) (vb:Value),kU bc (m+1400) w wx tb en vb)
 case first =>
  by_cases e0:y=0
  ·subst e0
   go_wp2_with (go_at_call 38;refine(pick_any bc _ 5 _ gI.cur (by omega) (by omega)).mono ?_;rintro e w4⟨z,rfl,z0,z1,z2,hc4,hx4⟩;have jU:=gI.cur' hx4 hbz hc4;have t0:=jU.t0;have f0:=jU.tf 0;have zz:=cell_lt t0)
   go_meet
   case rel=>exact⟨_,_,(jU.kind hbz z).mono (by omega)⟩
  by_cases e1:y=1
  ·subst e1
   go_wp2_with (go_at_call 130;refine(afB bc _ lv xs _ gI.cur (by omega) hrow hg).mono ?_;rintro e w4⟨u,rfl,hu,hc4,hx4⟩;have jU:=gI.cur' hx4 hbz hc4;have t1:=jU.t1;have f1:=jU.tf 1;have zz:=cell_lt t1)
   go_meet
   case rel=>exact⟨_,_,(jU.name hbz u hu).mono (by omega)⟩
  by_cases e2:y=2
  ·subst e2
   have htx:=Zm w3 LZ 4 rfl
   have hal:=aj w3 (.cells (LZ.map Value.string).toArray 9)
   have wJ:=gI.cur' ((ah.refl _ _).below hal) hbz (gI.cur.keep hal)
   have z9:=gI.cur.lt
   go_wp2_with (go_at_call 49;refine(Ll bc _ _ LZ _ wJ.cur (by omega) htx (by decide) (by decide) (λq hq=>by simp[Value.ownBlock]at hq;omega)).mono ?_;rintro e w10⟨u,hu,rfl,uO,uV⟩;have lD:=wJ.cur' uV hbz uO;have t2:=lD.t2;have f2:=lD.tf 2;have zz:=cell_lt t2)
   go_meet
   case rel=>exact⟨_,_,(lD.to hbz u (afA u hu)).mono (by omega)⟩
  by_cases e3:y=3
  ·subst e3
   by_cases hb:en.body.length=0
   ·have hb':¬(0:Int)<en.body.length:=by omega
    clear hb
    go_wp2_with fail
    go_meet
    case rel=>exact⟨_,_,gI.mono (by omega)⟩
   ·have hb':(0:Int)<en.body.length:=by omega
    have hok:=gI.ok.2.2
    go_wp2_with (go_at_call 40;refine(ae7 bc _ p _ en.body _ gI.cur (by omega) hp hp2 gI.own.at (by omega) (by omega) hok).mono ?_;rintro e w4⟨v4,ns4,rfl,bF,afE,hc4,hx4⟩;obtain⟨a4,c4,rfl⟩:=bF.slice;have jU:=gI.cur' hx4 hbz hc4;have t3:=jU.t3;have f3:=jU.tf 3;have zz:=cell_lt t3)
    go_meet
    case rel=>exact⟨_,_,(jU.body hbz (au.mono (by omega) bF) (λk hk e=>by have:=(World.ownsRow.lt bF k hk).1;omega) afE).mono (by omega)⟩
  go_wp2_with fail
  go_meet
  case rel=>exact⟨_,_,gI.mono (by omega)⟩
 case rest =>
  obtain⟨en,vb,st⟩:=hcut
  clear gI t30 tf0 tf1 tf2 RS z3 hrow
  obtain⟨ab,cb,rfl⟩:=st.own.slice
  have t0:=st.t0
  have t1:=st.t1
  have t2:=st.t2
  have t3:=st.t3
  have z0:=cell_lt t0
  obtain⟨m0,m1,m2⟩:=made_cell st.b0
  have f0:=m1 0
  have f1:=m1 1
  have f2:=m1 2
  have f3:=m1 3
  have c0:wc.cell? ⟨w.heap.size,0,none⟩=some (.int .i64 0):=m0 0
  have c1:wc.cell? ⟨w.heap.size,1,none⟩=some (.string ⟨#[]⟩):=m0 1
  have c2:wc.cell? ⟨w.heap.size,2,none⟩=some (.string ⟨#[]⟩):=m0 2
  have c3:wc.cell? ⟨w.heap.size,3,none⟩=some (.slice none 0 0):=m0 3
  clear m0 m1
  go_wp2_with fail
  obtain⟨W,hW⟩:∃W,W=(((wc.setCell ⟨w.heap.size,0,none⟩ (.int .i64 en.kind)).setCell ⟨w.heap.size,1,none⟩ (.string en.name)).setCell ⟨w.heap.size,2,none⟩ (.string en.to)).setCell ⟨w.heap.size,3,none⟩ (.slice ab en.body.length cb):=⟨_,rfl⟩
  rw[<-hW]
  have q0:W.cell? ⟨w.heap.size,0,none⟩=some (.int .i64 en.kind):=by rw[hW];clear hW;go_simp
  have q1:W.cell? ⟨w.heap.size,1,none⟩=some (.string en.name):=by rw[hW];clear hW;go_simp
  have q2:W.cell? ⟨w.heap.size,2,none⟩=some (.string en.to):=by rw[hW];clear hW;go_simp
  have q3:W.cell? ⟨w.heap.size,3,none⟩=some (.slice ab en.body.length cb):=by rw[hW];clear hW;go_simp
  have hS:ah (λk=>k=w.heap.size) wc W:=by
   rw[hW];exact aB (a:=⟨w.heap.size,3,none⟩) (aB (a:=⟨w.heap.size,2,none⟩) (aB (a:=⟨w.heap.size,1,none⟩) (aB (a:=⟨w.heap.size,0,none⟩) (ah.refl (λk=>k=w.heap.size) _) (.inr rfl) _) (.inr rfl) _) (.inr rfl) _) (.inr rfl) _
  have hX:ah (λk=>k=bc) w W:=by
   rw[hW];exact aB (aB (aB (aB st.ex (.inl (Nat.le_refl _)) _) (.inl (Nat.le_refl _)) _) (.inl (Nat.le_refl _)) _) (.inl (Nat.le_refl _)) _
  have hC:=st.cur.exc (T:=λk=>k=w.heap.size) hS (λk hk=>by omega)
  have hO:=gV hS st.own (λk hk e=>by have:=(World.ownsRow.lt st.own k hk).1;omega)
  have hok:=st.ok
  clear hW
  refine bodyPost_ret (v:=.agg #[.int .i64 en.kind,.string en.name,.string en.to,.slice ab en.body.length cb]) (by simp[results,Tryz.results68,go_sem,q0,q1,q2,q3]) rfl ⟨en,_,rfl,hO,hok,hC,hX⟩
def DiP (bc m:Nat) (w:World) (e:Ending) (w':World):Prop:=∃s t:ByteArray,e=.returned (.agg #[.string s,.string t])/\s.size<=22001/\t.size<=22002/\aW bc m w'/\ah (λk=>k=bc) w w'
structure oz (bc m:Nat) (w wx:World) (tb:Nat) (s t:ByteArray):Prop where
 b0:wx.heap[w.heap.size]?=some (.cells #[.string ⟨#[]⟩,.string ⟨#[]⟩] 54)
 cur:aW bc m wx
 ex:ah (λk=>k=bc) w wx
 t0:wx.cell? ⟨tb,0,none⟩=some (.string s)
 t1:wx.cell? ⟨tb,1,none⟩=some (.string t)
 tf:∀j,wx.frozen? ⟨tb,j,none⟩=false
 tl:w.heap.size<tb
theorem oz.cur' {bc m m':Nat} {w wx w2:World} {tb:Nat} {s t:ByteArray} (h:oz bc m w wx tb s t) (hE:ah (λk=>k=bc) wx w2) (hb:bc<w.heap.size) (hc:aW bc m' w2):oz bc m' w w2 tb s t:=by
 have z0:=cell_lt h.t0;have tl:=h.tl;have nb:¬tb=bc:=by omega
 exact⟨(hE.block _ (made_cell h.b0).2.2 (by omega)).trans h.b0,hc,h.ex.trans hE,(hE.cell.1 _ _ z0 nb).trans h.t0,(hE.cell.1 _ _ z0 nb).trans h.t1,λj=>(hE.cell.2 _ _ z0 nb).trans (h.tf j),tl⟩
theorem oz.mono {bc m m':Nat} {w wx:World} {tb:Nat} {s t:ByteArray} (h:oz bc m w wx tb s t) (hm:m<=m'):oz bc m' w wx tb s t:=⟨h.b0,h.cur.mono hm,h.ex,h.t0,h.t1,h.tf,h.tl⟩
theorem ZJ {bc m:Nat} {w wx:World} {tb i:Nat} {u:Value} (h0:wx.heap[w.heap.size]?=some (.cells #[.string ⟨#[]⟩,.string ⟨#[]⟩] 54)) (hc:aW bc m wx) (hx:ah (λk=>k=bc) w wx) (tl:w.heap.size<tb) (hbc:bc<w.heap.size) :
  (wx.setCell ⟨tb,i,none⟩ u).heap[w.heap.size]?=some (.cells #[.string ⟨#[]⟩,.string ⟨#[]⟩] 54)/\aW bc m (wx.setCell ⟨tb,i,none⟩ u)/\ah (λk=>k=bc) w (wx.setCell ⟨tb,i,none⟩ u):=by
 have hS:ah (λk=>k=tb) wx (wx.setCell ⟨tb,i,none⟩ u):=aB (a:=⟨tb,i,none⟩) (ah.refl (λk=>k=tb) _) (.inr rfl) _;exact⟨(hS.block _ (made_cell h0).2.2 (by omega)).trans h0,hc.exc (T:=λk=>k=tb) hS (λk hk=>by omega),aB hx (.inl (by show w.heap.size<=tb;omega)) _⟩
theorem oz.set0 {bc m:Nat} {w wx:World} {tb:Nat} {s t:ByteArray} (h:oz bc m w wx tb s t) (hbc:bc<w.heap.size) (u:ByteArray):oz bc m w (wx.setCell ⟨tb,0,none⟩ (.string u)) tb u t:=by
 obtain⟨a,b,c⟩:=ZJ (i:=0) (u:=.string u) h.b0 h.cur h.ex h.tl hbc;obtain⟨_,_,_,t0,t1,tf,tl⟩:=h;have f0:=tf 0;have z0:=cell_lt t0;exact⟨a,b,c,by go_simp,by go_simp,λj=>by have:=tf j;go_simp,tl⟩
theorem oz.set1 {bc m:Nat} {w wx:World} {tb:Nat} {s t:ByteArray} (h:oz bc m w wx tb s t) (hbc:bc<w.heap.size) (u:ByteArray):oz bc m w (wx.setCell ⟨tb,1,none⟩ (.string u)) tb s u:=by
 obtain⟨a,b,c⟩:=ZJ (i:=1) (u:=.string u) h.b0 h.cur h.ex h.tl hbc;obtain⟨_,_,_,t0,t1,tf,tl⟩:=h;have f0:=tf 1;have z0:=cell_lt t0;exact⟨a,b,c,by go_simp,by go_simp,λj=>by have:=tf j;go_simp,tl⟩
theorem afF {bc m:Nat} {w wr:World} {s t:ByteArray} (h0:wr.heap[w.heap.size]?=some (.cells #[.string ⟨#[]⟩,.string ⟨#[]⟩] 54)) (hc:aW bc m wr) (hx:ah (λk=>k=bc) w wr) :
  oz bc m w ((wr.alloc (.cells #[.string s,.string t] 54)).drew) wr.heap.size s t:=by
 have hz:=(made_cell h0).2.2;have hal:Below wr.heap.size wr ((wr.alloc (.cells #[.string s,.string t] 54)).drew):=(aj wr _).drew;exact⟨(hal.block _ hz).trans h0,hc.keep hal,hx.below hal,by simp[go_sem],by simp[go_sem],λj=>by simp[go_sem],hz⟩
theorem afG (bc m:Nat) (p:Int) (w:World) (h:aW bc m w) (hm:m+70000<=1099511627776) (hp:1<p) (hp2:p<=97) :
  Calls Tryz.prog 67 #[.pointer (some ⟨bc,0,none⟩),.int .i64 p] w (DiP bc (m+70000) w):=by
 have hbz:=h.lt;have hal:=aj w (.cells #[.string ⟨#[]⟩,.string ⟨#[]⟩] 54);have h0:=alloc_at w (.cells #[.string ⟨#[]⟩,.string ⟨#[]⟩] 54);go_enter Tryz.func67,Tryz.ntmps67;go_wp2_with (go_at_call 64;refine(Zw bc m p _ (h.keep hal) (by omega) hp hp2).mono ?_;rintro e w2⟨s,rfl,hs,hc2,hx2⟩)
 have hb2:=(hx2.block w.heap.size (by simp) (by omega)).trans h0;have hE2:ah (λk=>k=bc) w w2:=((ah.refl _ _).below hal).trans hx2;clear hx2 h0 hal h;go_loopw [6,7] (λav kv wr=>∃(a k:Nat),av=.int .i64 (a:Int)/\kv=.int .i64 (k:Int)/\a<=s.size/\k<=s.size/\wr.heap[w.heap.size]?=some (.cells #[.string ⟨#[]⟩,.string ⟨#[]⟩] 54)/\aW bc (m+21000+2*k) wr/\ah (λj=>j=bc) w wr) (λ_ kv _=>s.size-(intOf kv).toNat)
 case atStart=>exact⟨0,0,rfl,rfl,by omega,by omega,hb2,hc2.mono (by omega),hE2⟩
 case round =>
  obtain⟨a,k,rfl,rfl,ha,hk,hb3,hc3,hx3⟩:=hrel
  clear hb2 hc2 hE2
  have e1:IntKind.i64.wrap ((k:Int)+1)=(k:Int)+1:=IntWalk.i64_in _ (by omega)
  by_cases hlt:k<s.size
  ·have hlt':(k:Int)<(s.size:Int):=by omega
   go_wp2_with (go_at_call 39;refine(one_any bc _ 2 _ hc3 (by omega) (by omega)).mono ?_;rintro e w4⟨b,rfl,hc4,hx4⟩;have hb4:=(hx4.block w.heap.size (made_cell hb3).2.2 (by omega)).trans hb3;have ZK:=hx3.trans hx4)
   all_goals
    go_roundw
    case rel=>first
     | exact⟨k+1,k+1,by go_num,by go_num,by omega,by omega,hb4,hc4.mono (by omega),ZK⟩
     | exact⟨a,k+1,rfl,by go_num,by omega,by omega,hb4,hc4.mono (by omega),ZK⟩
     | exact⟨a,k+1,rfl,by go_num,by omega,by omega,hb3,hc3.mono (by omega),hx3⟩
    case measure=>simp[intOf];omega
  ·have hks:k=s.size:=by omega
   have ha':(a:Int)<=(s.size:Int):=by omega
   have hz3:=(made_cell hb3).2.2
   subst hks
   go_upto_region 8 with fail
   go_region
   have st0:=(afF (s:=s.extract 0 a) (t:=s.extract a s.size) hb3 hc3 hx3).mono (m':=m+65000) (by omega)
   have hs1:(s.extract 0 a).size<=22000:=by simp[ByteArray.size_extract];omega
   have ht1:(s.extract a s.size).size<=22000:=by simp[ByteArray.size_extract];omega
   obtain⟨s1,es1⟩:∃x,x=s.extract 0 a:=⟨_,rfl⟩
   obtain⟨t1,uP⟩:∃x,x=s.extract a s.size:=⟨_,rfl⟩
   rw[<-es1,<-uP]at st0
   rw[<-es1]at hs1
   rw[<-uP]at ht1
   rw[<-es1,<-uP]
   obtain⟨tb,etb⟩:∃x,x=wr.heap.size:=⟨_,rfl⟩
   obtain⟨W1,eW1⟩:∃W,W=(wr.alloc (.cells #[.string s1,.string t1] 54)).drew:=⟨_,rfl⟩
   have st:oz bc (m+65000) w W1 tb s1 t1:=by rw[eW1,etb];exact st0
   rw[<-eW1,<-etb]
   clear st0 eW1 etb es1 uP
   clear hb3 hc3 hx3 hz3
   go_upto_if 36 with(go_at_call 39;refine(one_any bc _ 6 _ st.cur (by omega) (by omega)).mono ?_;rintro e w5⟨b,rfl,hc5,hx5⟩;have iQ:=st.cur' hx5 hbz hc5)
   clear st hc5 hx5
   go_cut [9] (λs9 wx=>∃t2:ByteArray,t2.size<=22002/\oz bc (m+65100) w wx tb s1 t2)
   case first =>
    cases b
    ·go_wp2_with fail
     go_meet
     case rel=>exact⟨_,by omega,iQ.mono (by omega)⟩
    ·have t11:=iQ.t1
     have z1:=cell_lt t11
     go_wp2_with (go_at_call 65;refine(Zj bc _ t1 _ _ iQ.cur (by omega) (by omega) (by decide) (by decide)).mono ?_;rintro e w6⟨u,rfl,hu,hc6,hx6⟩;have lF:=iQ.cur' hx6 hbz hc6;have t16:=lF.t1;have f16:=lF.tf 1;have z16:=cell_lt t16)
     go_meet
     case rel=>exact⟨_,by omega,(lF.set1 hbz u).mono (by omega)⟩
   case rest =>
    obtain⟨t2,ht2,lF⟩:=hcut
    clear iQ
    go_upto_if 43 with(go_at_call 39;refine(one_any bc _ 24 _ lF.cur (by omega) (by omega)).mono ?_;rintro e w7⟨b,rfl,xH,hx7⟩;have og:=lF.cur' hx7 hbz xH)
    clear lF xH hx7
    go_cut [9] (λs9 wx=>∃s3:ByteArray,s3.size<=22001/\oz bc (m+66000) w wx tb s3 t2)
    case first =>
     cases b
     ·go_wp2_with fail
      go_meet
      case rel=>exact⟨_,by omega,og.mono (by omega)⟩
     ·have t07:=og.t0
      have f07:=og.tf 0
      have z1:=cell_lt t07
      have n1:¬9223372036854775807<s1.size+1:=by omega
      go_wp2_with fail
      go_meet
      case rel=>exact⟨_,by(have u1:(⟨#[120]⟩:ByteArray).size=1:=rfl);simp only[bsize,u1];omega,(og.set0 hbz _).mono (by omega)⟩
    case rest =>
     obtain⟨s3,hs3,st⟩:=hcut
     clear og
     have t0:=st.t0
     have t1:=st.t1
     have z0:=cell_lt t0
     obtain⟨m0,m1,m2⟩:=made_cell st.b0
     have f0:=m1 0
     have f1:=m1 1
     have c0:wc.cell? ⟨w.heap.size,0,none⟩=some (.string ⟨#[]⟩):=m0 0
     have c1:wc.cell? ⟨w.heap.size,1,none⟩=some (.string ⟨#[]⟩):=m0 1
     clear m0 m1
     go_wp2_with fail
     obtain⟨W,hW⟩:∃W,W=((wc.setCell ⟨w.heap.size,0,none⟩ (.string s3)).setCell ⟨w.heap.size,1,none⟩ (.string t2)):=⟨_,rfl⟩
     rw[<-hW]
     have q0:W.cell? ⟨w.heap.size,0,none⟩=some (.string s3):=by rw[hW];clear hW;go_simp
     have q1:W.cell? ⟨w.heap.size,1,none⟩=some (.string t2):=by rw[hW];clear hW;go_simp
     have hS:ah (λk=>k=w.heap.size) wc W:=by
      rw[hW];exact aB (a:=⟨w.heap.size,1,none⟩) (aB (a:=⟨w.heap.size,0,none⟩) (ah.refl (λk=>k=w.heap.size) _) (.inr rfl) _) (.inr rfl) _
     have hX:ah (λk=>k=bc) w W:=by
      rw[hW];exact aB (aB st.ex (.inl (Nat.le_refl _)) _) (.inl (Nat.le_refl _)) _
     have hC:=st.cur.exc (T:=λk=>k=w.heap.size) hS (λk hk=>by omega)
     clear hW
     refine bodyPost_ret (v:=.agg #[.string s3,.string t2]) (by simp[results,Tryz.results67,go_sem,q0,q1]) rfl ⟨s3,t2,rfl,hs3,ht2,hC.mono (by omega),hX⟩
def DwP (w:World) (e:Ending) (w':World):Prop:=∃(s t:ByteArray) (en:En) (vb:Value),e=.returned (.tuple #[.agg #[.string s,.string t],.agg #[.int .i64 en.kind,.string en.name,.string en.to,vb]])/\s.size<=22001/\t.size<=22002/\dW en/\aZ w' vb en.body/\Below w.heap.size w w'
theorem aek (va:Value) (code:List UInt8) (w:World) (h:BytesAt w va code) (hl:code.length<=1048576) (hlow:∀k,va.ownBlock=some k->k<w.heap.size) :
  Calls Tryz.prog 28 #[va] w (DwP w):=by
 have hal:Below w.heap.size w ((w.alloc (.cells #[.string ⟨#[]⟩,.string ⟨#[]⟩] 54)).alloc (.cells #[.int .i64 0,.string ⟨#[]⟩,.string ⟨#[]⟩,.slice none 0 0] 45)):=((Below.refl _ _).alloc (Nat.le_refl _) _).alloc (by simp) _;have hc1:=RV (h.low hlow hal) hl (λk hk=>by have:=hlow k hk;simp;omega);simp only[World.size_alloc]at hc1;have hb1:Below w.heap.size w (((w.alloc (.cells #[.string ⟨#[]⟩,.string ⟨#[]⟩] 54)).alloc (.cells #[.int .i64 0,.string ⟨#[]⟩,.string ⟨#[]⟩,.slice none 0 0] 45)).alloc (.cells #[va,.int .i64 0,.int .u64 0] 67)):=hal.alloc (by simp;omega) _;have a0:(((w.alloc (.cells #[.string ⟨#[]⟩,.string ⟨#[]⟩] 54)).alloc (.cells #[.int .i64 0,.string ⟨#[]⟩,.string ⟨#[]⟩,.slice none 0 0] 45)).alloc (.cells #[va,.int .i64 0,.int .u64 0] 67)).heap[w.heap.size]?=some (.cells #[.string ⟨#[]⟩,.string ⟨#[]⟩] 54):=((aj _ _).block w.heap.size (by simp;omega)).trans (((aj _ _).block w.heap.size (by simp)).trans (alloc_at w _));have a1:(((w.alloc (.cells #[.string ⟨#[]⟩,.string ⟨#[]⟩] 54)).alloc (.cells #[.int .i64 0,.string ⟨#[]⟩,.string ⟨#[]⟩,.slice none 0 0] 45)).alloc (.cells #[va,.int .i64 0,.int .u64 0] 67)).heap[w.heap.size+1]?=some (.cells #[.int .i64 0,.string ⟨#[]⟩,.string ⟨#[]⟩,.slice none 0 0] 45):=((aj _ _).block (w.heap.size+1) (by simp)).trans (by have:=alloc_at (w.alloc (.cells #[.string ⟨#[]⟩,.string ⟨#[]⟩] 54)) (.cells #[.int .i64 0,.string ⟨#[]⟩,.string ⟨#[]⟩,.slice none 0 0] 45);rwa [World.size_alloc]at this);have hbz:=hc1.lt;obtain⟨aa,ac,rfl⟩:=h.shape;go_enter Tryz.func28,Tryz.ntmps28;go_upto_region 3 with(go_at_call 67;refine(afG (w.heap.size+1+1) 0 5 _ hc1 (by omega) (by omega) (by omega)).mono ?_;rintro e w2⟨s,t,rfl,hs,ht,hc2,hx2⟩)
 have b0:=(hx2.block w.heap.size (made_cell a0).2.2 (by omega)).trans a0;have b1:=(hx2.block (w.heap.size+1) (made_cell a1).2.2 (by omega)).trans a1;have hB2:=sK hb1 hx2 (by omega);have hz2:=hc2.lt;clear a0 a1 hb1 hc1 hx2 hal;obtain⟨W3,hW3⟩:∃W,W=w2.alloc (.cells #[.string s,.string t] 54):=⟨_,rfl⟩
 have hal3:Below w2.heap.size w2 W3:=by rw[hW3];exact aj _ _
 have t0:W3.cell? ⟨w2.heap.size,0,none⟩=some (.string s):=by rw[hW3];simp[go_sem]
 have t1:W3.cell? ⟨w2.heap.size,1,none⟩=some (.string t):=by rw[hW3];simp[go_sem]
 have c0:=(hal3.block _ (made_cell b0).2.2).trans b0;have c1:=(hal3.block _ (made_cell b1).2.2).trans b1;have hc3:=hc2.keep hal3;have hB3:=hB2.trans (hal3.mono hB2.size);have hz3:=hc3.lt;obtain⟨tb,htb⟩:∃tb,tb=w2.heap.size:=⟨_,rfl⟩
 have tl:w.heap.size+1+1<tb:=by omega
 rw[<-htb]at t0 t1;rw[<-hW3,<-htb];clear htb hW3 hal3 hc2 hB2 hz2 b0 b1;have z0:=cell_lt t0;have k1:¬tb=w.heap.size+1+1:=by omega
 have k2:¬tb=w.heap.size:=by omega
 have k3:¬tb=w.heap.size+1:=by omega
 have hst:(s++t).size<=60000:=by rw[bsize];omega
 have hjr:=λW=>Jy (s++t) W hst;have hgd:=(qQ (s++t)).1;obtain⟨⟨L,n,k⟩,hR⟩:∃R,aT (s++t)=R:=⟨_,rfl⟩
 rw[hR]at hjr hgd;have n1:¬9223372036854775807<s.size+t.size:=by omega
 have hfd:∀(v:Value) (w1:World),(Instr.field 114 (.agg #[v,.int .i64 (n:Int),.int .i64 (k:Int)]) 0).run Tryz.prog w1=.ok v w1:=λ_ _=>by kernel_rfl
 clear hR;have HJ:=Lib.hid hjr;have HT:=Lib.hid hst;clear hjr hst;have B3:∀w7,Below W3.drew.heap.size W3.drew w7->Below W3.heap.size W3 w7:=λw7 hb=>((Below.refl _ _).drew).trans (hb.mono (by simp));have nH:∀k,(k=w.heap.size+1+1\/k=w.heap.size\/k=w.heap.size+1)->k<W3.drew.heap.size:=λk hk=>by rcases hk with h|h|h<;>(simp;omega)
 go_wp2_with fail
 refine bC (C:=ah (λk=>k=w.heap.size+1+1\/k=w.heap.size\/k=w.heap.size+1) _) 6 [0,1,2,3,4,5,6,7,8,9,10,11] (by kernel_rfl) (by kernel_rfl) (ah.grows _ _) (ah.refl _ _) ?_;iterate 7 (apply fF rfl rfl rfl;(focus intro u hc' hf';(try simp only[World.size_drew]at hc' hf');go_simp<;>rfl);intro K hK;go_simp;apply hK;clear hK K)
 refine aX rfl rfl rfl (ah.grows _ _) (ah.refl _ _) 66 (λK hK=>?_);apply Exists.intro;refine⟨λw' hw'=>?_,λwa dU dS=>?_⟩;(focus go_simp;rfl);refine(HJ.out _).mono ?_;rintro e w4⟨v4,rfl,bF,hb4⟩;refine⟨_,rfl,hb4,λhx=>?_⟩;go_simp;apply hK;clear hK K;obtain⟨xs,hxs,hrow⟩:=cu.row bF;have hBa:=B3 _ dS;have hg4:good (xs.map Prod.fst)=true:=by rw[show xs.map Prod.fst=L from hxs];exact hgd
 have hza:=hBa.size;have hB4:=hBa.trans (hb4.mono hza);obtain⟨la,lc,rfl⟩:=hrow.shape xs.length rfl;iterate 1 (apply fF rfl rfl rfl;(focus intro u hc' hf';(try simp only[World.size_drew]at hc' hf');go_simp<;>rfl);intro K hK;go_simp;apply hK;clear hK K)
 refine Eu rfl rfl rfl (hx) 68 (nH) (λK hK=>?_);apply Exists.intro;refine⟨λw' hw'=>?_,λw7 hw7 jw=>?_⟩;(focus go_simp;rfl);refine(afD (w.heap.size+1+1) (0+70000) 5 _ xs _ ((hc3.keep hB4).keep jw) (by omega) (by omega) (by omega) ((hrow.keep jw).mono (by omega)) hg4).mono ?_;rintro e w8⟨en,vb,rfl,lZ,afH,hc8,o_⟩;refine⟨_,rfl,o_.mono (λk hk=>.inl hk),λhx=>?_⟩;go_simp;apply hK;clear hK K;obtain⟨ab,cb,rfl⟩:=lZ.slice;have qx:=hB4.trans (jw.mono hB4.size);have e0:=(o_.block w.heap.size (by have:=qx.size;omega) (by omega)).trans ((qx.block _ (by omega)).trans c0);have e1:=(o_.block (w.heap.size+1) (by have:=qx.size;omega) (by omega)).trans ((qx.block _ (by omega)).trans c1);have ZL:=sK (hB3.trans (qx.mono hB3.size)) o_ (by omega);have i_:=qx.size;refine eH rfl rfl rfl (ah.grows _ _) hx (λK hK=>?_);intro w9 eu bG;have e09:=(bG.block _ (made_cell e0).2.2).trans e0;have e19:=(bG.block _ (made_cell e1).2.2).trans e1;obtain⟨m0,m1,m2⟩:=made_cell e09;have d0:w9.cell? ⟨w.heap.size,0,none⟩=some (.string ⟨#[]⟩):=m0 0;have d1:w9.cell? ⟨w.heap.size,1,none⟩=some (.string ⟨#[]⟩):=m0 1;have f0:=m1 0;have f1:=m1 1;obtain⟨Ic,sQ⟩:∃W,W=(w9.setCell ⟨w.heap.size,0,none⟩ (.string s)).setCell ⟨w.heap.size,1,none⟩ (.string t):=⟨_,rfl⟩
 have SC:ah (λk=>k=w.heap.size) w9 Ic:=by rw[sQ];exact aB (a:=⟨w.heap.size,1,none⟩) (aB (a:=⟨w.heap.size,0,none⟩) (ah.refl (λk=>k=w.heap.size) _) (.inr rfl) _) (.inr rfl) _
 have q0:Ic.cell? ⟨w.heap.size,0,none⟩=some (.string s):=by rw[sQ];clear sQ;go_simp
 have q1:Ic.cell? ⟨w.heap.size,1,none⟩=some (.string t):=by rw[sQ];clear sQ;go_simp
 have SE:Below w.heap.size w Ic:=by rw[sQ];exact((ZL.trans (bG.mono ZL.size)).setCell (Nat.le_refl _) _).setCell (Nat.le_refl _) _
 have SG:=(SC.block _ (made_cell e19).2.2 (by omega)).trans e19;have sH:=gV SC (au.keep bG lZ) (λk hk e=>by have:=(World.ownsRow.lt lZ k hk).1;omega);have hC10:ah (λk=>k=w.heap.size+1+1\/k=w.heap.size\/k=w.heap.size+1) W3.drew Ic:=by rw[sQ];exact aB (aB eu (.inr (.inr (.inl rfl))) _) (.inr (.inr (.inl rfl))) _
 refine⟨Ic,?_,⟨hC10,by rw[sQ];simp,λq hq _ _=>by rw[sQ,Below.heap_setCell _ _ _ _ (λhh=>by have:q=w.heap.size:=hh;simp at hq;omega),Below.heap_setCell _ _ _ _ (λhh=>by have:q=w.heap.size:=hh;simp at hq;omega)]⟩,?_⟩
 ·rw[sQ];clear sQ SE SC q0 q1 SG sH;go_simp
 clear sQ;go_simp;refine hK _ _ _ ?_;clear hK K;refine eH rfl rfl rfl (ah.grows _ _) hC10 (λK hK=>?_);intro iE zM ku;have afI:=(ku.block _ (made_cell SG).2.2).trans SG;obtain⟨m0,m1,m2⟩:=made_cell afI;have g0:iE.cell? ⟨w.heap.size+1,0,none⟩=some (.int .i64 0):=m0 0;have g1:iE.cell? ⟨w.heap.size+1,1,none⟩=some (.string ⟨#[]⟩):=m0 1;have g2:iE.cell? ⟨w.heap.size+1,2,none⟩=some (.string ⟨#[]⟩):=m0 2;have g3:iE.cell? ⟨w.heap.size+1,3,none⟩=some (.slice none 0 0):=m0 3;have f0:=m1 0;have f1:=m1 1;have f2:=m1 2;have f3:=m1 3;obtain⟨Cj,oC⟩:∃W,W=(((iE.setCell ⟨w.heap.size+1,0,none⟩ (.int .i64 en.kind)).setCell ⟨w.heap.size+1,1,none⟩ (.string en.name)).setCell ⟨w.heap.size+1,2,none⟩ (.string en.to)).setCell ⟨w.heap.size+1,3,none⟩ (.slice ab en.body.length cb):=⟨_,rfl⟩
 have L9:ah (λk=>k=w.heap.size+1) iE Cj:=by rw[oC];exact aB (a:=⟨w.heap.size+1,3,none⟩) (aB (a:=⟨w.heap.size+1,2,none⟩) (aB (a:=⟨w.heap.size+1,1,none⟩) (aB (a:=⟨w.heap.size+1,0,none⟩) (ah.refl (λk=>k=w.heap.size+1) _) (.inr rfl) _) (.inr rfl) _) (.inr rfl) _) (.inr rfl) _
 have s0:Cj.cell? ⟨w.heap.size+1,0,none⟩=some (.int .i64 en.kind):=by rw[oC];clear oC;go_simp
 have s1:Cj.cell? ⟨w.heap.size+1,1,none⟩=some (.string en.name):=by rw[oC];clear oC;go_simp
 have s2:Cj.cell? ⟨w.heap.size+1,2,none⟩=some (.string en.to):=by rw[oC];clear oC;go_simp
 have s3:Cj.cell? ⟨w.heap.size+1,3,none⟩=some (.slice ab en.body.length cb):=by rw[oC];clear oC;go_simp
 have p0:=(L9.cell.1 _ 0 (by have:=ku.size;have:=cell_lt q0;omega) (by omega)).trans (ak ku q0);have p1:=(L9.cell.1 _ 1 (by have:=ku.size;have:=cell_lt q0;omega) (by omega)).trans (ak ku q1);have ZM:Below w.heap.size w Cj:=by rw[oC];exact((((SE.trans (ku.mono SE.size)).setCell (Nat.le_succ _) _).setCell (Nat.le_succ _) _).setCell (Nat.le_succ _) _).setCell (Nat.le_succ _) _
 have xA:=gV L9 (au.keep ku sH) (λk hk e=>by have:=(World.ownsRow.lt lZ k hk).1;omega);refine⟨Cj,?_,⟨by rw[oC];exact aB (aB (aB (aB zM (.inr (.inr (.inr rfl))) _) (.inr (.inr (.inr rfl))) _) (.inr (.inr (.inr rfl))) _) (.inr (.inr (.inr rfl))) _,by rw[oC];simp,λq hq _ _=>by rw[oC,Below.heap_setCell _ _ _ _ (λhh=>by have:q=w.heap.size+1:=hh;simp at hq;omega),Below.heap_setCell _ _ _ _ (λhh=>by have:q=w.heap.size+1:=hh;simp at hq;omega),Below.heap_setCell _ _ _ _ (λhh=>by have:q=w.heap.size+1:=hh;simp at hq;omega),Below.heap_setCell _ _ _ _ (λhh=>by have:q=w.heap.size+1:=hh;simp at hq;omega)]⟩,?_⟩
 ·rw[oC];clear oC ZM L9 s0 s1 s2 s3 p0 p1 xA;go_simp
 clear oC;go_simp;refine hK _ _ _ ?_;clear hK K;refine aK ?_;go_wp2;refine bodyPost_ret (v:=.tuple #[.agg #[.string s,.string t],.agg #[.int .i64 en.kind,.string en.name,.string en.to,.slice ab en.body.length cb]]) (by simp[results,Tryz.results28,go_sem,p0,p1,s0,s1,s2,s3]) rfl ⟨s,t,en,_,rfl,hs,ht,afH,au.at xA,ZM⟩
end Go.Proofs.YtikgblkfmpecfaaGreatDoor
