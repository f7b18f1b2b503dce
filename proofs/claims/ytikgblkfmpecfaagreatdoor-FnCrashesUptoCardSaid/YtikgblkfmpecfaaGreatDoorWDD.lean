/-
  The reference's reader: its state, is, take, put. Own work.
-/
import Derived.Test.YtikgblkfmpecfaaGreatDoorWBB
import Derived.Test.YtikgblkfmpecfaaGreatDoorWF
import Derived.Deep.QuietTactic
import Derived.BigQuiet
import Derived.WalkSmall
import Derived.Test.YtikgblkfmpecfaaGreatDoorWCC
set_option linter.all false
set_option maxRecDepth 100000
set_option maxHeartbeats 8000000
namespace Go.Proofs.YtikgblkfmpecfaaGreatDoor
open Go.RowKit
theorem VU:(Tryz.prog.info? 3).map (λi=>(i.zero,i.size,i.bytes))=some (some (.int .i64 0),1,8):=by kernel_rfl
structure uo (B bx:Nat) (all:List Tk) (w:World) (vt vn va:Value) (nx:Nat) (nodes:List Nd) (ats:List Int) (failed:Bool):Prop where
 lt:bx<B
 sz:B<=w.heap.size
 c0:w.cell? ⟨bx,0,none⟩=some vt
 c1:w.cell? ⟨bx,1,none⟩=some (.int .i64 nx)
 c2:w.cell? ⟨bx,2,none⟩=some vn
 c3:w.cell? ⟨bx,3,none⟩=some va
 c4:w.cell? ⟨bx,4,none⟩=some (.bool failed)
 fz:∀i,w.frozen? ⟨bx,i,none⟩=false
 tk:kZ w vt all
 low:I4 B bx vt
 nx:nx<=all.length
 len:all.length<=40000
 on:au w B vn nodes
 oa:Rw w B va ats
def fC (B bx:Nat) (all:List Tk) (w:World) (nx:Nat) (nodes:List Nd) (ats:List Int) (failed:Bool):Prop:=∃vt vn va,uo B bx all w vt vn va nx nodes ats failed
theorem kZ.get {w:World} {v:Value} {ts:List Tk} (h:kZ w v ts) (k:Nat) (hk:k<ts.length):∃b o c,v=.slice (some ⟨b,o,none⟩) ts.length c/\ts.length<=c/\Dl w ts[k] b (o+k*3):=by
 obtain⟨_,a,cap,rfl,hc,hat⟩:=h;obtain⟨b,o,rfl,hi,hr⟩:=hat k hk;exact⟨b,o,cap,rfl,hc,hr⟩
theorem jP {B bx:Nat} {all:List Tk} {w w':World} {vt vn va:Value} {nx:Nat} {nodes:List Nd} {ats:List Int} {failed:Bool} (h:uo B bx all w vt vn va nx nodes ats failed) (hb:Below w.heap.size w w'):uo B bx all w' vt vn va nx nodes ats failed :=
 ⟨h.lt,Nat.le_trans h.sz hb.size,ak hb h.c0,ak hb h.c1,ak hb h.c2,ak hb h.c3,ak hb h.c4,
  λi=>(World.frozen?_of_block (w:=w) (hb.block bx (by have:=h.lt;have:=h.sz;omega))).trans (h.fz i),h.tk.keep hb,h.low,h.nx,h.len,h.on.keep hb,h.oa.keep hb⟩
theorem Aq {B bx:Nat} {all:List Tk} {w:World} {vt vn va:Value} {nx nx':Nat} {nodes:List Nd} {ats:List Int} {failed vO:Bool} (h:uo B bx all w vt vn va nx nodes ats failed)
  (o:Nat) (u:Value) (hu:(o=1/\u=.int .i64 nx'/\vO=failed/\nx'<=all.length)\/(o=4/\u=.bool vO/\nx'=nx)) :
  uo B bx all (w.setCell ⟨bx,o,none⟩ u) vt vn va nx' nodes ats vO/\ah (λk=>k=bx) w (w.setCell ⟨bx,o,none⟩ u):=by
 have hE:ah (λk=>k=bx) w (w.setCell ⟨bx,o,none⟩ u):=aB (T:=λk=>k=bx) (ah.refl _ w) (.inr rfl) _;have hF:Fr B bx w (w.setCell ⟨bx,o,none⟩ u):=Fr.exc h.sz hE (λk hk=>.inl hk);have c0:=h.c0;have c1:=h.c1;have c2:=h.c2;have c3:=h.c3;have c4:=h.c4;have hlt:=h.lt;have q:∀{sz e n:Nat} {v:Value} {xs:List Value},w.ownsRow B e sz v n xs->(w.setCell ⟨bx,o,none⟩ u).ownsRow B e sz v n xs:=λhr=>gV hE hr λk hk e=>by have:=(World.ownsRow.lt hr _ hk).1;omega
 refine⟨?_,hE⟩;rcases hu with⟨rfl,rfl,rfl,hn⟩|⟨rfl,rfl,rfl⟩
 ·refine⟨h.lt,by simpa using h.sz,?_,?_,?_,?_,?_,λi=>by simpa using h.fz i,h.tk.fr hF h.low,h.low,hn,h.len,q h.on,q h.oa⟩<;>go_simp
 ·refine⟨h.lt,by simpa using h.sz,?_,?_,?_,?_,?_,λi=>by simpa using h.fz i,h.tk.fr hF h.low,h.low,h.nx,h.len,q h.on,q h.oa⟩<;>go_simp
theorem acd {all:List Tk} {k:Nat} (h:k<all.length) (s:ByteArray):bJ (all.drop k) s=(decide (all[k].kind=3)&&decide (all[k].text=s)):=by
 rw[List.drop_eq_getElem_cons h];rfl
theorem VW {all:List Tk} {k:Nat} (h:¬k<all.length) (s:ByteArray):bJ (all.drop k) s=false:=by
 rw[List.drop_eq_nil_of_le (by omega)];rfl
theorem pY (B bx:Nat) (all:List Tk) (nx:Nat) (nodes:List Nd) (ats:List Int) (failed:Bool) (s:ByteArray) (w:World) (h:fC B bx all w nx nodes ats failed) :
  Calls Tryz.prog 167 #[.pointer (some ⟨bx,0,none⟩),.string s] w λe w'=>e=.returned (.bool (bJ (all.drop nx) s))/\Below w.heap.size w w':=by
 obtain⟨vt,vn,va,h⟩:=h;have c0:=h.c0;have c1:=h.c1;have hlen:=h.len;by_cases hlt:nx<all.length
 ·obtain⟨b,o,c,rfl,hc,k0,k1,k2⟩:=h.tk.get nx hlt;have HI:=Lib.hid (acd hlt s);have hlt':(nx:Int)<all.length:=by omega
  clear h;by_cases h3:all[nx].kind=3
  ·by_cases hs:all[nx].text=s
   ·have g1:(all[nx].kind==3)=true:=by simp[h3]
    have g2:(all[nx].text.toList==s.toList)=true:=by rw[k_];simp[hs]
    have HH:=Lib.hid (show bJ (all.drop nx) s=true by rw[HI.out];simp[h3,hs]);clear h3 hs;go_enter Tryz.func167,Tryz.ntmps167;go_wp2_with fail
    go_quiet (fail)
    go_wp2;go_ret
    exact⟨dI HH.out.symm,below_drewN (Below.refl _ _) _⟩
   ·have g1:(all[nx].kind==3)=true:=by simp[h3]
    have g2:(all[nx].text.toList==s.toList)=false:=by rw[k_];simp[hs]
    have HH:=Lib.hid (show bJ (all.drop nx) s=false by rw[HI.out];simp[hs]);clear h3 hs;go_enter Tryz.func167,Tryz.ntmps167;go_wp2_with fail
    go_quiet (fail)
    go_wp2;go_ret
    exact⟨dI HH.out.symm,below_drewN (Below.refl _ _) _⟩
  ·have g1:(all[nx].kind==3)=false:=by simp[h3]
   have HH:=Lib.hid (show bJ (all.drop nx) s=false by rw[HI.out];simp[h3]);clear h3;go_enter Tryz.func167,Tryz.ntmps167;go_wp2_with fail
   go_quiet (fail)
   go_wp2;go_ret
   exact⟨dI HH.out.symm,below_drewN (Below.refl _ _) _⟩
 ·obtain⟨a,c,rfl,hc⟩:=h.tk.shape;have HH:=Lib.hid (VW hlt s);obtain rfl:nx=all.length:=by have:=h.nx;omega
  have hge:decide ((all.length:Int)<all.length)=false:=by simp
  have ahm:decide (all.length<all.length)=false:=by simp
  clear h hlt;go_enter Tryz.func167,Tryz.ntmps167;go_wp2_with fail
  go_quiet (fail)
  go_wp2;go_ret
  exact⟨dI HH.out.symm,below_drewN (Below.refl _ _) _⟩
theorem lS {B bx:Nat} {all:List Tk} {w w':World} {nx:Nat} {nodes:List Nd} {ats:List Int} {failed:Bool} (h:fC B bx all w nx nodes ats failed) (hb:Below w.heap.size w w'):fC B bx all w' nx nodes ats failed:=by
 obtain⟨vt,vn,va,h⟩:=h;exact⟨vt,vn,va,jP h hb⟩
theorem Ar (B bx:Nat) (all:List Tk) (nx:Nat) (nodes:List Nd) (ats:List Int) (failed:Bool) (s:ByteArray) (w:World) (h:fC B bx all w nx nodes ats failed) (hs:bJ (all.drop nx) s=true) :
  Calls Tryz.prog 200 #[.pointer (some ⟨bx,0,none⟩),.string s] w λe w'=>e=.returned (.tuple #[])/\fC B bx all w' (nx+1) nodes ats failed/\ah (λk=>k=bx) w w':=by
 have hlt:nx<all.length:=by
  by_cases hh:nx<all.length
  ·exact hh
  ·rw[VW hh]at hs;cases hs
 have hlen:all.length<=40000:=by obtain⟨_,_,_,h'⟩:=h;exact h'.len
 have e:((nx+1:Nat):Int)=(nx:Int)+1:=by omega
 go_enter Tryz.func200,Tryz.ntmps200;go_wp2_with (go_at_call 167;refine(pY B bx all nx nodes ats failed s w h).mono ?_;rintro e w1⟨rfl,hb1⟩;rw[hs];obtain⟨vt,vn,va,h'⟩:=lS h hb1;have c1:=h'.c1;have f1:=h'.fz 1;have z1:=cell_lt c1)
 obtain⟨q1,q2⟩:=Aq (nx':=nx+1) (vO:=failed) h' 1 (.int .i64 ((nx+1:Nat):Int)) (.inl ⟨rfl,rfl,rfl,by omega⟩);rw[e]at q1 q2;exact bodyPost_end (v:=.tuple #[]) (by simp[results,Tryz.results200,go_sem]) rfl ⟨rfl,⟨_,_,_,q1⟩,(Below.exc hb1).trans (q2.mono (λk hk=>hk))⟩
theorem VX (B bx:Nat) (all:List Tk) (nx:Nat) (nodes:List Nd) (ats:List Int) (failed:Bool) (s:ByteArray) (w:World) (h:fC B bx all w nx nodes ats failed) (hs:bJ (all.drop nx) s=false) :
  Calls Tryz.prog 200 #[.pointer (some ⟨bx,0,none⟩),.string s] w λe w'=>e=.returned (.tuple #[])/\fC B bx all w' nx nodes ats true/\ah (λk=>k=bx) w w':=by
 go_enter Tryz.func200,Tryz.ntmps200;go_wp2_with (go_at_call 167;refine(pY B bx all nx nodes ats failed s w h).mono ?_;rintro e w1⟨rfl,hb1⟩;rw[hs];obtain⟨vt,vn,va,h'⟩:=lS h hb1;have c4:=h'.c4;have f4:=h'.fz 4;have z4:=cell_lt c4)
 obtain⟨q1,q2⟩:=Aq (nx':=nx) (vO:=true) h' 4 (.bool true) (.inr ⟨rfl,rfl,rfl⟩);exact bodyPost_ret (v:=.tuple #[]) (by simp[results,Tryz.results200,go_sem]) rfl ⟨rfl,⟨_,_,_,q1⟩,(Below.exc hb1).trans (q2.mono (λk hk=>hk))⟩
theorem ace {B bx:Nat} {all:List Tk} {w w2:World} {vt vn va v':Value} {nx:Nat} {nodes:List Nd} {ats:List Int} {failed:Bool} (n:Nd) (h:uo B bx all w vt vn va nx nodes ats failed) (hg:w.grownBy w2 vn.ownBlock) (hown:au w2 B v' (nodes++[n])) :
  uo B bx all (w2.setCell ⟨bx,2,none⟩ v') vt v' va nx (nodes++[n]) ats failed/\Fr B bx w (w2.setCell ⟨bx,2,none⟩ v'):=by
 have hE1:ah (λk=>vn.ownBlock=some k) w w2:=(ah.refl _ w).grown hg (λk hk=>.inr hk);have hlow:∀k,vn.ownBlock=some k->B<=k:=λk hk=>(World.ownsRow.lt h.on _ hk).1;have hF1:Fr B bx w w2:=Fr.exc h.sz hE1 (λk hk=>.inr (hlow k hk));have hsz2:B<=w2.heap.size:=Nat.le_trans h.sz hE1.size;have hE2:ah (λk=>k=bx) w2 (w2.setCell ⟨bx,2,none⟩ v'):=aB (T:=λk=>k=bx) (ah.refl _ w2) (.inr rfl) _;have hF:Fr B bx w (w2.setCell ⟨bx,2,none⟩ v'):=hF1.trans (Fr.exc hsz2 hE2 (λk hk=>.inl hk));have hlt:=h.lt;have hbw:bx<w.heap.size:=Nat.lt_of_lt_of_le h.lt h.sz;have hn:¬vn.ownBlock=some bx:=λe=>by have:=hlow bx e;omega
 have c0:=(hE1.cell.1 bx 0 hbw hn).trans h.c0;have c1:=(hE1.cell.1 bx 1 hbw hn).trans h.c1;have c2:=(hE1.cell.1 bx 2 hbw hn).trans h.c2;have c3:=(hE1.cell.1 bx 3 hbw hn).trans h.c3;have c4:=(hE1.cell.1 bx 4 hbw hn).trans h.c4;have q:∀{sz e n:Nat} {v:Value} {xs:List Value},w2.ownsRow B e sz v n xs->(w2.setCell ⟨bx,2,none⟩ v').ownsRow B e sz v n xs:=λhr=>gV hE2 hr λk hk e=>by have:=(World.ownsRow.lt hr _ hk).1;omega
 refine⟨⟨h.lt,by simpa using hsz2,?_,?_,?_,?_,?_,λi=>?_,h.tk.fr hF h.low,h.low,h.nx,h.len,q hown,q (gV hE1 h.oa (λk hk e=>oG h.on h.oa (by decide) k e hk))⟩,hF⟩
 ·go_simp
 ·go_simp
 ·go_simp
 ·go_simp
 ·go_simp
 ·have:=(hE1.cell.2 bx i hbw hn).trans (h.fz i);simpa using this
theorem acf {B bx:Nat} {all:List Tk} {w w2:World} {vt vn va v':Value} {nx:Nat} {nodes:List Nd} {ats:List Int} {failed:Bool} (n:Int) (h:uo B bx all w vt vn va nx nodes ats failed) (hg:w.grownBy w2 va.ownBlock) (hown:Rw w2 B v' (ats++[n])) :
  uo B bx all (w2.setCell ⟨bx,3,none⟩ v') vt vn v' nx nodes (ats++[n]) failed/\Fr B bx w (w2.setCell ⟨bx,3,none⟩ v'):=by
 have hE1:ah (λk=>va.ownBlock=some k) w w2:=(ah.refl _ w).grown hg (λk hk=>.inr hk);have hlow:∀k,va.ownBlock=some k->B<=k:=λk hk=>(World.ownsRow.lt h.oa _ hk).1;have hF1:Fr B bx w w2:=Fr.exc h.sz hE1 (λk hk=>.inr (hlow k hk));have hsz2:B<=w2.heap.size:=Nat.le_trans h.sz hE1.size;have hE2:ah (λk=>k=bx) w2 (w2.setCell ⟨bx,3,none⟩ v'):=aB (T:=λk=>k=bx) (ah.refl _ w2) (.inr rfl) _;have hF:Fr B bx w (w2.setCell ⟨bx,3,none⟩ v'):=hF1.trans (Fr.exc hsz2 hE2 (λk hk=>.inl hk));have hlt:=h.lt;have hbw:bx<w.heap.size:=Nat.lt_of_lt_of_le h.lt h.sz;have hn:¬va.ownBlock=some bx:=λe=>by have:=hlow bx e;omega
 have c0:=(hE1.cell.1 bx 0 hbw hn).trans h.c0;have c1:=(hE1.cell.1 bx 1 hbw hn).trans h.c1;have c2:=(hE1.cell.1 bx 2 hbw hn).trans h.c2;have c3:=(hE1.cell.1 bx 3 hbw hn).trans h.c3;have c4:=(hE1.cell.1 bx 4 hbw hn).trans h.c4;have q:∀{sz e n:Nat} {v:Value} {xs:List Value},w2.ownsRow B e sz v n xs->(w2.setCell ⟨bx,3,none⟩ v').ownsRow B e sz v n xs:=λhr=>gV hE2 hr λk hk e=>by have:=(World.ownsRow.lt hr _ hk).1;omega
 refine⟨⟨h.lt,by simpa using hsz2,?_,?_,?_,?_,?_,λi=>?_,h.tk.fr hF h.low,h.low,h.nx,h.len,q (gV hE1 h.on (λk hk e=>oG h.oa h.on (by decide) k e hk)),q hown⟩,hF⟩
 ·go_simp
 ·go_simp
 ·go_simp
 ·go_simp
 ·go_simp
 ·have:=(hE1.cell.2 bx i hbw hn).trans (h.fz i);simpa using this
theorem Ju (B bx:Nat) (all:List Tk) (nx:Nat) (nodes:List Nd) (ats:List Int) (failed:Bool) (n:Nd) (p:Int) (w:World) (h:fC B bx all w nx nodes ats failed) (hn:nodes.length<=1048576) (ha:ats.length<=1048576) :
  Calls Tryz.prog 168 #[.pointer (some ⟨bx,0,none⟩),.agg #[.int .i64 n.kind,.int .i64 n.value,.string n.name],.int .i64 p] w λe w'=>e=.returned (.tuple #[])/\fC B bx all w' nx (nodes++[n]) (ats++[p]) failed/\Fr B bx w w':=by
 obtain⟨vt,vn,va,h0⟩:=h;obtain⟨j0,hj,hy0,hy1,hy2⟩:=info_parts I8;obtain⟨i0,hi,hz0,hz1,hz2⟩:=info_parts VU;obtain⟨an,cn,rfl⟩:=h0.on.slice;have hB0:=h0.sz;have hlt:=h0.lt;have aU:=jP h0 (aj w (.cells #[.int .i64 n.kind,.int .i64 n.value,.string n.name] 87));have qM:Fr B bx w (w.alloc (.cells #[.int .i64 n.kind,.int .i64 n.value,.string n.name] 87)):=Fr.below hB0 (aj _ _);obtain⟨W,hW⟩:∃W,W=w.alloc (.cells #[.int .i64 n.kind,.int .i64 n.value,.string n.name] 87):=⟨_,rfl⟩
 obtain⟨nb,hnb⟩:∃nb,nb=w.heap.size:=⟨_,rfl⟩
 have n0:W.cell? ⟨nb,0,none⟩=some (.int .i64 n.kind):=by rw[hW,hnb];simp
 have n1:W.cell? ⟨nb,1,none⟩=some (.int .i64 n.value):=by rw[hW,hnb];simp
 have n2:W.cell? ⟨nb,2,none⟩=some (.string n.name):=by rw[hW,hnb];simp
 go_enter Tryz.func168,Tryz.ntmps168;go_wp2_with fail
 rw[<-hW,<-hnb];rw[<-hW]at aU qM;have nK:B<=nb:=by rw[hnb];exact hB0
 have NH:nb<W.heap.size:=cell_lt n0;clear hW hnb h0;have q2:=aU.c2;have NI:bx<W.heap.size:=Nat.lt_of_lt_of_le aU.lt aU.sz;have NJ:¬nb=bx:=by omega
 have hown0:(Value.slice an nodes.length cn).ownBlock≠some bx:=λe=>by have:=(World.ownsRow.lt aU.on _ e).1;omega
 refine Fa (C:=ah (aQ) _) 9 0 [1,2,3,4,5,6] [7,8,9,10] (.pointer (some ⟨bx,0,none⟩)) rfl (by kernel_rfl) (by kernel_rfl) (λ_ _ _ h=>h) (Or.inl ⟨by rfl,λ_=>by go_simp⟩) (ah.grows _ _) (ah.refl _ _) ?_;go_simp;iterate 5 (apply ay rfl rfl rfl;(focus intro u hc' hf';go_simp<;>rfl);intro K hK;go_simp;apply hK;clear hK K)
 refine fG rfl rfl rfl (ah.grows _ _) (ah.refl _ _) (λb=>.slice (some ⟨b,0,none⟩) 1 1) (λK hK=>?_);apply Exists.intro;refine⟨λw' hw'=>?_,λbb w5 hw5 hb5 aI hNb hnb=>?_⟩
 ·obtain⟨hc',hf'⟩:=hw'.cell;try simp only[World.size_drew]at hc' hf'
  go_simp;rfl
 go_simp;refine hK _ _ _ ?_;clear hK K;refine aK ?_;have hb6:Below W.heap.size W w5:=(Below.refl _ W).drew.trans ((hw5.toBelow).mono (by simp));have hv6:=jP aU hb6;refine⟨ah (λk=>k=bx\/(Value.slice an nodes.length cn).ownBlock=some k) w5,w5.heap.size,ah.grows _ _,ah.refl _ _,?_⟩;refine rU rfl rfl rfl (ah.refl _ _) (.tmp 10) (.tmp 12) 25 rfl B 87 j0 _ 3 32 Tryz.underlying25 hj hy0 hy1 hy2 rfl (by decide) (.slice an nodes.length cn) nodes.length (nodes.flatMap d_) rfl (λk hk=>.inl ⟨(World.ownsRow.lt hv6.on k hk).2,.inr hk⟩) (.slice (some ⟨bb,0,none⟩) 1 1) 1 (d_ n) rfl ?c1 (by unfold maxLen;omega) (by omega) hv6.sz ?c2 ?_;case c1=>intro u hu;simp[d_]at hu;rcases hu with rfl|rfl|rfl<;>rfl
 case c2 =>
  intro w8 hw8 hb8
  refine⟨bW hb8 hv6.on,rfl,.inr ⟨_,1,rfl,?_⟩⟩
  obtain⟨m0,m1,m2⟩:=made_cell ((hb8.block bb (made_cell aI).2.2).trans aI)
  intro j u hj
  match j,hj with
  | 0,hj=>simp[d_]at hj;subst hj;simp[Addr.add,m0]
  | 1,hj=>simp[d_]at hj;subst hj;simp[Addr.add,m0]
  | 2,hj=>simp[d_]at hj;subst hj;simp[Addr.add,m0]
 intro K hK w8 w9 v9 hw8 hb8 g_ iK eu iL;obtain⟨a9,c9,rfl⟩:=jc g_;go_simp;refine hK _ _ _ ?_;clear hK K;iterate 2 (apply fF rfl rfl rfl;(focus intro u hc' hf';(try simp only[World.size_drew]at hc' hf');go_simp<;>rfl);intro K hK;go_simp;apply hK;clear hK K)
 refine eH rfl rfl rfl (ah.grows _ _) eu (λK hK=>?_);intro w10 qN bf;have h_:=jP hv6 hb8;have t_:bx<w8.heap.size:=Nat.lt_of_lt_of_le h_.lt h_.sz;have jD:ah (λk=>(Value.slice an nodes.length cn).ownBlock=some k) w8 w9:=(ah.refl _ _).grown iK (λk hk=>.inr hk);have k9:=ak bf ((jD.cell.1 bx 2 t_ hown0).trans h_.c2);have f9:w10.frozen? ⟨bx,2,none⟩=false:=(bf.frozen (p:=⟨bx,2,none⟩) (by have:=jD.size;simp;omega)).trans ((jD.cell.2 bx 2 t_ hown0).trans (h_.fz 2));have s9:=cell_lt k9;have VY:au w10 B (.slice a9 (nodes.length+1) c9) (nodes++[n]):=by
  unfold au;rw[List.length_append,List.flatMap_append];exact bW bf (by simpa using g_)
 have kP:=ace n h_ (I5 iK bf) VY;have NK:bx<w5.heap.size:=Nat.lt_of_lt_of_le hv6.lt hv6.sz;refine⟨w10.setCell ⟨bx,2,none⟩ (.slice a9 (nodes.length+1) c9),?_,⟨aB qN (.inr (.inl rfl)) _,by simp,λj hj _ _=>by rw[Below.heap_setCell _ _ _ _ (by show ¬_=_;intro hh;simp only at hh;omega)]⟩,?_⟩
 ·go_simp
 go_simp;refine hK _ _ _ ?_;clear hK K;refine aK ?_;have mO:=(qM.trans (Fr.below aU.sz (hb6.trans (hb8.mono hb6.size)))).trans kP.2;have mV:=kP.1;obtain⟨X,hX⟩:∃X,X=w10.setCell ⟨bx,2,none⟩ (.slice a9 (nodes.length+1) c9):=⟨_,rfl⟩
 rw[<-hX]at mV mO ⊢;clear hX kP VY k9 f9 s9 jD h_ qN bf eu iK g_ iL hw8 hb8 hv6 hb6 hw5 hb5 aI hNb hnb aU qM n0 n1 n2 q2;have q3:=mV.c3;have f3:=mV.fz 3;have sX:bx<X.heap.size:=Nat.lt_of_lt_of_le mV.lt mV.sz;have hXB:=mV.sz;obtain⟨aa,ca,rfl⟩:=jc mV.oa;go_wp2_with (at_builtin;refine oK rfl (.tmp 20) (.tmp 22) 130 rfl B 3 i0 _ 1 8 Tryz.underlying130 hi hz0 hz1 hz2 rfl (by decide) (.slice aa ats.length ca) ats.length (ats.flatMap dw) rfl (bW (aj _ _) mV.oa) (.slice (some ⟨X.heap.size,0,none⟩) 1 1) 1 (dw p) rfl ?d1 ?d2 (by unfold maxLen;omega) (by omega) (by simp;omega) ?_)
 case d1 =>
  refine⟨rfl,.inr ⟨_,1,rfl,?_⟩⟩
  intro j u hj
  match j,hj with
  | 0,hj=>simp[dw]at hj;subst hj;simp[Addr.add]
 case d2=>intro u hu;simp[dw]at hu;subst hu;rfl
 intro v12 w12 OE OG xA;obtain⟨a12,c12,rfl⟩:=jc OE;have Jv:=jP mV (aj X (.cells #[.int .i64 p] 3));have OH:ah (λk=>(Value.slice aa ats.length ca).ownBlock=some k) (X.alloc (.cells #[.int .i64 p] 3)) w12:=(ah.refl _ _).grown OG (λk hk=>.inr hk);have hown3:(Value.slice aa ats.length ca).ownBlock≠some bx:=λe=>by have:=(World.ownsRow.lt mV.oa _ e).1;omega
 have k12:=(OH.cell.1 bx 3 (by simp;omega) hown3).trans Jv.c3;have f12:=(OH.cell.2 bx 3 (by simp;omega) hown3).trans (Jv.fz 3);have s12:=cell_lt k12;have VZ:Rw w12 B (.slice a12 (ats.length+1) c12) (ats++[p]):=by
  unfold Rw;rw[List.length_append,List.flatMap_append];simpa using OE
 have OI:=acf p Jv OG VZ;have Au:=(mO.trans (Fr.below hXB (aj X (.cells #[.int .i64 p] 3)))).trans OI.2;have hvZ:=OI.1;clear OI VZ OH OE OG xA mV Jv mO;go_wp2;exact bodyPost_end (v:=.tuple #[]) (by simp[results,Tryz.results168,go_sem]) rfl ⟨rfl,⟨_,_,_,hvZ⟩,Au⟩
structure qg (B bx:Nat) (all:List Tk) (w:World) (ts:List Tk) (out:Rd) (r:pJ) (e:Ending) (w':World):Prop where
 st:∃nx nodes ats,fC B bx all w' nx nodes ats r.bad/\all.drop nx=r.rest/\(r.bad=false->nodes=r.out.map Prod.fst/\ats=r.out.map Prod.snd)/\nodes.length=ats.length/\nodes.length+r.rest.length<=out.length+ts.length
 fr:Fr B bx w w'
 len:r.rest.length<=ts.length
 ret:e=.returned (.tuple #[])
theorem fC.facts {B bx:Nat} {all:List Tk} {w:World} {nx:Nat} {nodes:List Nd} {ats:List Int} {failed:Bool} (h:fC B bx all w nx nodes ats failed):bx<B/\B<=w.heap.size/\nx<=all.length/\all.length<=40000/\fA all:=by
 obtain⟨_,_,_,h⟩:=h;exact⟨h.lt,h.sz,h.nx,h.len,h.tk.1⟩
theorem DI {B bx:Nat} {all:List Tk} {w:World} {nx:Nat} {nodes:List Nd} {ats:List Int} {failed:Bool} (h:fC B bx all w nx nodes ats failed) (hl:nx<all.length) :
  fC B bx all (w.setCell ⟨bx,1,none⟩ (.int .i64 ((nx:Int)+1))) (nx+1) nodes ats failed/\Fr B bx w (w.setCell ⟨bx,1,none⟩ (.int .i64 ((nx:Int)+1))):=by
 obtain⟨vt,vn,va,h⟩:=h;obtain⟨q1,q2⟩:=Aq (nx':=nx+1) (vO:=failed) h 1 (.int .i64 ((nx+1:Nat):Int)) (.inl ⟨rfl,rfl,rfl,by omega⟩);have e:((nx+1:Nat):Int)=(nx:Int)+1:=by omega
 rw[e]at q1 q2;exact⟨⟨_,_,_,q1⟩,Fr.exc h.sz q2 (λk hk=>.inl hk)⟩
theorem OJ {B bx:Nat} {all:List Tk} {w:World} {nx:Nat} {nodes:List Nd} {ats:List Int} {failed:Bool} (h:fC B bx all w nx nodes ats failed) :
  fC B bx all (w.setCell ⟨bx,4,none⟩ (.bool true)) nx nodes ats true/\Fr B bx w (w.setCell ⟨bx,4,none⟩ (.bool true)):=by
 obtain⟨vt,vn,va,h⟩:=h;obtain⟨q1,q2⟩:=Aq (nx':=nx) (vO:=true) h 4 (.bool true) (.inr ⟨rfl,rfl,rfl⟩);exact⟨⟨_,_,_,q1⟩,Fr.exc h.sz q2 (λk hk=>.inl hk)⟩
theorem drop_cons {all:List Tk} {nx:Nat} {t:Tk} {r:List Tk} (h:all.drop nx=t::r):nx<all.length/\all.drop (nx+1)=r:=by
 have hl:nx<all.length:=by
  have:=congrArg List.length h;simp at this;omega
 rw[List.drop_eq_getElem_cons hl]at h;exact⟨hl,(List.cons.inj h).2⟩
theorem yX {all:List Tk} {nx:Nat} {t:Tk} {r:List Tk} (h:all.drop nx=t::r):∃hl:nx<all.length,all[nx]=t:=by
 obtain⟨hl,_⟩:=drop_cons h;refine⟨hl,?_⟩;rw[List.drop_eq_getElem_cons hl]at h;exact(List.cons.inj h).1
theorem fC.cells {B bx:Nat} {all:List Tk} {w:World} {nx:Nat} {nodes:List Nd} {ats:List Int} {failed:Bool} (h:fC B bx all w nx nodes ats failed) :
  w.cell? ⟨bx,1,none⟩=some (.int .i64 nx)/\w.cell? ⟨bx,4,none⟩=some (.bool failed)/\w.frozen? ⟨bx,1,none⟩=false/\w.frozen? ⟨bx,4,none⟩=false/\bx<w.heap.size:=by
 obtain⟨_,_,_,h⟩:=h;exact⟨h.c1,h.c4,h.fz 1,h.fz 4,Nat.lt_of_lt_of_le h.lt h.sz⟩
theorem acg (B bx:Nat) (all:List Tk) (f:Nat) (hT:∀nx out w,(all.drop nx).length<=f->out.length+(all.drop nx).length<=40000->fC B bx all w nx (out.map Prod.fst) (out.map Prod.snd) false->Calls Tryz.prog 98 #[.pointer (some ⟨bx,0,none⟩)] w (qg B bx all w (all.drop nx) out (fQ f (all.drop nx) out)))
  (nx:Nat) (t:Tk) (r:List Tk) (out:Rd) (w:World) (hd:all.drop nx=t::r) (hts:r.length<=f) (hsum:out.length+(r.length+1)<=40000) (h:fC B bx all w nx (out.map Prod.fst) (out.map Prod.snd) false) (hy:bJ (t::r) ⟨#[40]⟩=true) :
  Calls Tryz.prog 193 #[.pointer (some ⟨bx,0,none⟩)] w (qg B bx all w (t::r) out (bQ (f+1) (t::r) out)):=by
 have hy':bI (t::r) 40=true:=by simpa[bI,bJ]using hy
 obtain⟨hl,hd1⟩:=drop_cons hd;obtain⟨⟨bad,r2,o2⟩,hq⟩:∃q,fQ f r out=q:=⟨_,rfl⟩
 have hT1:=λw2 h2=>hT (nx+1) out w2 (by rw[hd1];exact hts) (by rw[hd1];omega) h2;rw[hd1,hq]at hT1;obtain⟨hb,hsz,hnx,hall,hok⟩:=h.facts;have hnx1:(nx:Int)+1<=40000:=by omega
 rw[<-hd]at hy;cases bad
 ·cases tZ:bJ r2 ⟨#[41]⟩
  ·have z_:bI r2 41=false:=by rw[<-xu];exact tZ
   have HE:Hid (bQ (f+1) (t::r) out=⟨true,r2,o2⟩):=(show _=_ by rw[bQ.eq_def];simp[hy',hq,z_])
   clear hq;go_enter Tryz.func193,Tryz.ntmps193;go_wp2_with (first|(go_at_call 167;refine(pY B bx all nx _ _ _ _ _ h).mono ?_;rintro e w1⟨rfl,hb1⟩;rw[hy];have h1:=lS h hb1;obtain⟨k1,_,f1,_,s1⟩:=h1.cells;obtain⟨h2,hF2⟩:=DI h1 hl)|(go_at_call 98;refine(hT1 _ h2).mono ?_;rintro e w3⟨⟨lT,uq,uw,h3,hd3,hn3,he3,hs3⟩,hF3,hl3,rfl⟩;obtain⟨_,k4,_,f4,s4⟩:=h3.cells)|(go_at_call 200;refine(VX B bx all lT _ _ _ _ _ h3 (by rw[hd3];exact tZ)).mono ?_;rintro e w4⟨rfl,h4,hx4⟩))
   have hz3:B<=w3.heap.size:=h3.facts.2.1;exact bodyPost_ret (v:=.tuple #[]) (by simp[results,Tryz.results193,go_sem]) rfl (by rw[HE.out];exact⟨⟨lT,uq,uw,h4,hd3,(λhh=>by cases hh),he3,by simp at hs3 ⊢;omega⟩,(((Fr.below hsz hb1).trans hF2).trans hF3).trans (Fr.exc hz3 hx4 (λk hk=>.inl hk)),by simp at hl3 ⊢;omega,rfl⟩)
  ·cases r2 with
   | nil=>simp[bJ]at tZ
   | cons t2 r3 =>
   have z_:bI (t2::r3) 41=true:=by simpa[bI,bJ]using tZ
   have HE:Hid (bQ (f+1) (t::r) out=⟨false,r3,o2⟩):=(show _=_ by rw[bQ.eq_def];simp[hy',hq,z_])
   clear hq;go_enter Tryz.func193,Tryz.ntmps193;go_wp2_with (first|(go_at_call 167;refine(pY B bx all nx _ _ _ _ _ h).mono ?_;rintro e w1⟨rfl,hb1⟩;rw[hy];have h1:=lS h hb1;obtain⟨k1,_,f1,_,s1⟩:=h1.cells;obtain⟨h2,hF2⟩:=DI h1 hl)|(go_at_call 98;refine(hT1 _ h2).mono ?_;rintro e w3⟨⟨lT,uq,uw,h3,hd3,hn3,he3,hs3⟩,hF3,hl3,rfl⟩;obtain⟨_,k4,_,f4,s4⟩:=h3.cells)|(go_at_call 200;refine(Ar B bx all lT _ _ _ _ _ h3 (by rw[hd3];exact tZ)).mono ?_;rintro e w4⟨rfl,h4,hx4⟩))
   have hz3:B<=w3.heap.size:=h3.facts.2.1;exact bodyPost_ret (v:=.tuple #[]) (by simp[results,Tryz.results193,go_sem]) rfl (by rw[HE.out];exact⟨⟨lT+1,uq,uw,h4,(drop_cons hd3).2,(λ_=>by first|exact hn3 rfl|exact hn3 trivial),he3,by simp at hs3 ⊢;omega⟩,(((Fr.below hsz hb1).trans hF2).trans hF3).trans (Fr.exc hz3 hx4 (λk hk=>.inl hk)),by simp at hl3 ⊢;omega,rfl⟩)
 ·have HE:Hid (bQ (f+1) (t::r) out=⟨true,r2,o2⟩):=(show _=_ by rw[bQ.eq_def];simp[hy',hq])
  clear hq;go_enter Tryz.func193,Tryz.ntmps193;go_wp2_with (first|(go_at_call 167;refine(pY B bx all nx _ _ _ _ _ h).mono ?_;rintro e w1⟨rfl,hb1⟩;rw[hy];have h1:=lS h hb1;obtain⟨k1,_,f1,_,s1⟩:=h1.cells;obtain⟨h2,hF2⟩:=DI h1 hl)|(go_at_call 98;refine(hT1 _ h2).mono ?_;rintro e w3⟨⟨lT,uq,uw,h3,hd3,hn3,he3,hs3⟩,hF3,hl3,rfl⟩;obtain⟨_,k4,_,f4,s4⟩:=h3.cells))
  exact bodyPost_ret (v:=.tuple #[]) (by simp[results,Tryz.results193,go_sem]) rfl (by rw[HE.out];exact⟨⟨lT,uq,uw,h3,hd3,(λhh=>by cases hh),he3,by simp at hs3 ⊢;omega⟩,((Fr.below hsz hb1).trans hF2).trans hF3,by simp at hl3 ⊢;omega,rfl⟩)
theorem ach (B bx:Nat) (all:List Tk) (f nx:Nat) (ts:List Tk) (out:Rd) (w:World) (hd:all.drop nx=ts) (hts:ts.length<=f) (h:fC B bx all w nx (out.map Prod.fst) (out.map Prod.snd) false) (hy:bJ ts ⟨#[40]⟩=false) (hk:∀t r,ts=t::r->t.kind≠1) :
  Calls Tryz.prog 193 #[.pointer (some ⟨bx,0,none⟩)] w (qg B bx all w ts out (bQ f ts out)):=by
 have HE:Hid (bQ f ts out=⟨true,ts,out⟩):=(show _=_ by
  cases ts with
  | nil=>cases f<;>simp[bQ,bI]
  | cons t r =>
   obtain⟨g,rfl⟩:∃g,f=g+1:=⟨f-1,by simp at hts;omega⟩
   have hy':bI (t::r) 40=false:=by simpa[bI,bJ]using hy
   rw[bQ.eq_def];simp[hy',hk t r rfl])
 obtain⟨hb,hsz,hnx,hall,hok⟩:=h.facts;rw[<-hd]at hy;cases ts with
 | nil =>
  have hnl:nx=all.length:=by have:=congrArg List.length hd;simp at this;omega
  subst hnl
  clear hk
  go_enter Tryz.func193,Tryz.ntmps193
  go_wp2_with (go_at_call 167;refine(pY B bx all _ _ _ _ _ _ h).mono ?_;rintro e w1⟨rfl,hb1⟩;rw[hy];have h1:=lS h hb1;obtain⟨Ak,vP,vS,hv1⟩:=id h1;obtain⟨a1,c1,rfl,hc1⟩:=hv1.tk.shape;have k0:=hv1.c0;have k1:=hv1.c1;have k4:=hv1.c4;have f4:=hv1.fz 4;have s4:=cell_lt k4;clear hv1)
  go_quiet (fail)
  go_wp2
  have h2:=lS h1 (below_drewN (Below.refl w1.heap.size w1) nq)
  obtain⟨h3,hF3⟩:=OJ h2
  exact bodyPost_ret (v:=.tuple #[]) (by simp[results,Tryz.results193,go_sem]) rfl (by rw[HE.out];exact⟨⟨_,_,_,h3,hd,(λhh=>by cases hh),by simp,by simp⟩,(Fr.below hsz (hb1.trans ((below_drewN (Below.refl w1.heap.size w1) nq).mono hb1.size))).trans hF3,Nat.le_refl _,rfl⟩)
 | cons t r =>
  obtain⟨hl,hget⟩:=yX hd
  have g1:(t.kind != 1)=true:=by simpa using hk t r rfl
  have HG:=Lib.hid hget
  clear hget
  have hne:((nx:Int)==all.length)=false:=by simp;omega
  clear hk
  go_enter Tryz.func193,Tryz.ntmps193
  go_wp2_with (go_at_call 167;refine(pY B bx all _ _ _ _ _ _ h).mono ?_;rintro e w1⟨rfl,hb1⟩;rw[hy];have h1:=lS h hb1;obtain⟨Ak,vP,vS,hv1⟩:=id h1;obtain⟨b1,o1,c1,rfl,hc1,t0,t1,t2⟩:=hv1.tk.get nx hl;rw[HG.out]at t0 t1 t2;have k0:=hv1.c0;have k1:=hv1.c1;have k4:=hv1.c4;have f4:=hv1.fz 4;have s4:=cell_lt k4;clear hv1)
  go_quiet (fail)
  go_wp2
  have h2:=lS h1 (below_drewN (Below.refl w1.heap.size w1) nq)
  obtain⟨h3,hF3⟩:=OJ h2
  exact bodyPost_ret (v:=.tuple #[]) (by simp[results,Tryz.results193,go_sem]) rfl (by rw[HE.out];exact⟨⟨_,_,_,h3,hd,(λhh=>by cases hh),by simp,by simp⟩,(Fr.below hsz (hb1.trans ((below_drewN (Below.refl w1.heap.size w1) nq).mono hb1.size))).trans hF3,Nat.le_refl _,rfl⟩)
def lu (s:ByteArray):List ByteArray->Nat->Nd->Nd
 | [],_,n=>n
 | x::r,j,n=>lu s r (j+1) (if x=s then⟨(j:Int)+1,0,⟨#[]⟩⟩else n)
theorem V3 (s:ByteArray):∀(l:List ByteArray) (j:Nat) (n:Nd),(∀x∈l,x≠s)->lu s l j n=n
 | [],_,_,_=>rfl
 | x::r,j,n,h=>by
  unfold lu;rw[if_neg (h x (List.mem_cons_self ..))];exact V3 s r (j+1) n λy hy=>h y (List.mem_cons_of_mem _ hy)
theorem V4 (s:ByteArray) (d:Int):∀(l:List ByteArray) (k:Nat),(∀x∈l,x≠s)->kV s d l k=d
 | [],_,_=>rfl
 | x::r,k,h=>by
  unfold kV;rw[if_neg (h x (List.mem_cons_self ..))];exact V4 s d r (k+1) λy hy=>h y (List.mem_cons_of_mem _ hy)
theorem OL (s:ByteArray) (h:1<=s.size):lu s reserved 0 ⟨17,0,s⟩=jI s:=by
 by_cases hm:s∈reserved
 ·simp only[reserved,List.mem_cons,List.not_mem_nil,or_false]at hm;rcases hm with rfl|rfl|rfl|rfl|rfl|rfl|rfl|rfl|rfl|rfl|rfl|rfl|rfl|rfl<;>kernel_rfl
 ·have hne:∀x∈reserved,x≠s:=λx hx e=>hm (e▸hx);rw[V3 s reserved 0 _ hne];have hk:bg s=17:=by
   unfold bg;refine V4 s 17 kN 0 λx hx=>?_;simp only[kN,List.mem_cons]at hx;rcases hx with rfl|hx
   ·rintro rfl;simp[ByteArray.size]at h
   ·exact hne x hx
  simp[jI,hk]
theorem Jw {T:Nat->Prop} {B bx:Nat} {all:List Tk} {w w':World} {vt vn va:Value} {nx:Nat} {nodes:List Nd} {ats:List Int} {failed:Bool} (h:uo B bx all w vt vn va nx nodes ats failed) (hE:ah T w w') (hT:∀k,T k->B<=k/\vn.ownBlock≠some k/\va.ownBlock≠some k):uo B bx all w' vt vn va nx nodes ats failed:=by
 have hn:¬T bx:=λht=>by have:=(hT bx ht).1;have:=h.lt;omega
 have hb:bx<w.heap.size:=Nat.lt_of_lt_of_le h.lt h.sz;have hF:Fr B bx w w':=Fr.exc h.sz hE (λk hk=>.inr (hT k hk).1);exact⟨h.lt,Nat.le_trans h.sz hE.size,(hE.cell.1 bx 0 hb hn).trans h.c0,(hE.cell.1 bx 1 hb hn).trans h.c1,(hE.cell.1 bx 2 hb hn).trans h.c2,(hE.cell.1 bx 3 hb hn).trans h.c3,(hE.cell.1 bx 4 hb hn).trans h.c4,
  λi=>(hE.cell.2 bx i hb hn).trans (h.fz i),h.tk.fr hF h.low,h.low,h.nx,h.len,gV hE h.on (λk hk ht=>(hT k ht).2.1 hk),gV hE h.oa (λk hk ht=>(hT k ht).2.2 hk)⟩
end Go.Proofs.YtikgblkfmpecfaaGreatDoor
