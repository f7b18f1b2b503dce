/-
  The reference's reader: its state, is, take, put. Own work.
-/
import Derived.Test.YtbljmfcifljkaaaGreatDoorYBB
import Derived.Test.YtbljmfcifljkaaaGreatDoorYF
import Derived.Deep.QuietTactic
import Derived.BigQuiet
import Derived.WalkSmall
import Derived.Test.YtbljmfcifljkaaaGreatDoorYCC
set_option linter.all false
set_option maxRecDepth 100000
set_option maxHeartbeats 8000000
namespace Go.Proofs.YtbljmfcifljkaaaGreatDoor
open Go.RowKit
theorem infoIntX:(Tryz.prog.info? 3).map (fun i=>(i.zero,i.size,i.bytes))=some (some (.int .i64 0),1,8):=by kernel_rfl
structure SxV (B bx:Nat) (all:List Tk) (w:World) (vt vn va:Value) (nx:Nat) (nodes:List Nd) (ats:List Int) (failed:Bool):Prop where
 lt:bx<B
 sz:B≤w.heap.size
 c0:w.cell? ⟨bx,0,none⟩=some vt
 c1:w.cell? ⟨bx,1,none⟩=some (.int .i64 nx)
 c2:w.cell? ⟨bx,2,none⟩=some vn
 c3:w.cell? ⟨bx,3,none⟩=some va
 c4:w.cell? ⟨bx,4,none⟩=some (.bool failed)
 fz:∀ i,w.frozen? ⟨bx,i,none⟩=false
 tk:TksAt w vt all
 low:TkLow B bx vt
 nx:nx≤all.length
 len:all.length≤40000
 on:NdsOwn w B vn nodes
 oa:Rw w B va ats
def SxAt (B bx:Nat) (all:List Tk) (w:World) (nx:Nat) (nodes:List Nd) (ats:List Int) (failed:Bool):Prop:=∃ vt vn va,SxV B bx all w vt vn va nx nodes ats failed
theorem TksAt.get {w:World} {v:Value} {ts:List Tk} (h:TksAt w v ts) (k:Nat) (hk:k<ts.length):∃ b o c,v=.slice (some ⟨b,o,none⟩) ts.length c∧ts.length≤c∧TkAt w ts[k] b (o+k * 3):=by
 obtain ⟨_,a,cap,rfl,hc,hat⟩:=h
 obtain ⟨b,o,rfl,hi,hr⟩:=hat k hk
 exact ⟨b,o,cap,rfl,hc,hr⟩
theorem sx_below {B bx:Nat} {all:List Tk} {w w':World} {vt vn va:Value} {nx:Nat} {nodes:List Nd} {ats:List Int} {failed:Bool} (h:SxV B bx all w vt vn va nx nodes ats failed) (hb:Below w.heap.size w w'):SxV B bx all w' vt vn va nx nodes ats failed :=
 ⟨h.lt,Nat.le_trans h.sz hb.size,cell_keep hb h.c0,cell_keep hb h.c1,cell_keep hb h.c2,cell_keep hb h.c3,cell_keep hb h.c4,
  fun i=>(World.frozen?_of_block (w:=w) (hb.block bx (by have:=h.lt;have:=h.sz;omega))).trans (h.fz i),h.tk.keep hb,h.low,h.nx,h.len,h.on.keep hb,h.oa.keep hb⟩
theorem sx_store {B bx:Nat} {all:List Tk} {w:World} {vt vn va:Value} {nx nx':Nat} {nodes:List Nd} {ats:List Int} {failed failed':Bool} (h:SxV B bx all w vt vn va nx nodes ats failed)
  (o:Nat) (u:Value) (hu:(o=1∧u=.int .i64 nx'∧failed'=failed∧nx'≤all.length)∨(o=4∧u=.bool failed'∧nx'=nx)) :
  SxV B bx all (w.setCell ⟨bx,o,none⟩ u) vt vn va nx' nodes ats failed'∧Exc (fun k=>k=bx) w (w.setCell ⟨bx,o,none⟩ u):=by
 have hE:Exc (fun k=>k=bx) w (w.setCell ⟨bx,o,none⟩ u):=exc_set (T:=fun k=>k=bx) (Exc.refl _ w) (.inr rfl) _
 have hF:Fr B bx w (w.setCell ⟨bx,o,none⟩ u):=Fr.exc h.sz hE (fun k hk=>.inl hk)
 have c0:=h.c0
 have c1:=h.c1
 have c2:=h.c2
 have c3:=h.c3
 have c4:=h.c4
 have hlt:=h.lt
 have q:∀ {sz e n:Nat} {v:Value} {xs:List Value},w.ownsRow B e sz v n xs → (w.setCell ⟨bx,o,none⟩ u).ownsRow B e sz v n xs:=fun hr=>owns_exc hE hr fun k hk e=>by have:=(World.ownsRow.lt hr _ hk).1;omega
 refine ⟨?_,hE⟩
 rcases hu with ⟨rfl,rfl,rfl,hn⟩|⟨rfl,rfl,rfl⟩
 ·refine ⟨h.lt,by simpa using h.sz,?_,?_,?_,?_,?_,fun i=>by simpa using h.fz i,h.tk.fr hF h.low,h.low,hn,h.len,q h.on,q h.oa⟩ <;> go_simp
 ·refine ⟨h.lt,by simpa using h.sz,?_,?_,?_,?_,?_,fun i=>by simpa using h.fz i,h.tk.fr hF h.low,h.low,h.nx,h.len,q h.on,q h.oa⟩ <;> go_simp
theorem isSymS_get {all:List Tk} {k:Nat} (h:k<all.length) (s:ByteArray):isSymS (all.drop k) s=(decide (all[k].kind=3) && decide (all[k].text=s)):=by
 rw [List.drop_eq_getElem_cons h];rfl
theorem isSymS_end {all:List Tk} {k:Nat} (h:¬ k<all.length) (s:ByteArray):isSymS (all.drop k) s=false:=by
 rw [List.drop_eq_nil_of_le (by omega)];rfl
theorem sxIs_any (B bx:Nat) (all:List Tk) (nx:Nat) (nodes:List Nd) (ats:List Int) (failed:Bool) (s:ByteArray) (w:World) (h:SxAt B bx all w nx nodes ats failed) :
  Calls Tryz.prog 102 #[.pointer (some ⟨bx,0,none⟩),.string s] w fun e w'=>e=.returned (.bool (isSymS (all.drop nx) s))∧Below w.heap.size w w':=by
 obtain ⟨vt,vn,va,h⟩:=h
 have c0:=h.c0
 have c1:=h.c1
 have hlen:=h.len
 by_cases hlt:nx<all.length
 ·obtain ⟨b,o,c,rfl,hc,k0,k1,k2⟩:=h.tk.get nx hlt
  have HI:=Lib.hid (isSymS_get hlt s)
  have hlt':(nx:Int)<all.length:=by omega
  clear h
  by_cases h3:all[nx].kind=3
  ·by_cases hs:all[nx].text=s
   ·have g1:(all[nx].kind == 3)=true:=by simp [h3]
    have g2:(all[nx].text.toList == s.toList)=true:=by rw [str_beq];simp [hs]
    have HH:=Lib.hid (show isSymS (all.drop nx) s=true by rw [HI.out];simp [h3,hs])
    clear h3 hs
    go_enter Tryz.func102,Tryz.ntmps102
    go_wp2_with fail
    go_quiet (fail)
    go_wp2
    go_ret
    exact ⟨ret_bool HH.out.symm,below_drewN (Below.refl _ _) _⟩
   ·have g1:(all[nx].kind == 3)=true:=by simp [h3]
    have g2:(all[nx].text.toList == s.toList)=false:=by rw [str_beq];simp [hs]
    have HH:=Lib.hid (show isSymS (all.drop nx) s=false by rw [HI.out];simp [hs])
    clear h3 hs
    go_enter Tryz.func102,Tryz.ntmps102
    go_wp2_with fail
    go_quiet (fail)
    go_wp2
    go_ret
    exact ⟨ret_bool HH.out.symm,below_drewN (Below.refl _ _) _⟩
  ·have g1:(all[nx].kind == 3)=false:=by simp [h3]
   have HH:=Lib.hid (show isSymS (all.drop nx) s=false by rw [HI.out];simp [h3])
   clear h3
   go_enter Tryz.func102,Tryz.ntmps102
   go_wp2_with fail
   go_quiet (fail)
   go_wp2
   go_ret
   exact ⟨ret_bool HH.out.symm,below_drewN (Below.refl _ _) _⟩
 ·obtain ⟨a,c,rfl,hc⟩:=h.tk.shape
  have HH:=Lib.hid (isSymS_end hlt s)
  obtain rfl:nx=all.length:=by have:=h.nx;omega
  have hge:decide ((all.length:Int)<all.length)=false:=by simp
  have hge2:decide (all.length<all.length)=false:=by simp
  clear h hlt
  go_enter Tryz.func102,Tryz.ntmps102
  go_wp2_with fail
  go_quiet (fail)
  go_wp2
  go_ret
  exact ⟨ret_bool HH.out.symm,below_drewN (Below.refl _ _) _⟩
theorem sxAt_below {B bx:Nat} {all:List Tk} {w w':World} {nx:Nat} {nodes:List Nd} {ats:List Int} {failed:Bool} (h:SxAt B bx all w nx nodes ats failed) (hb:Below w.heap.size w w'):SxAt B bx all w' nx nodes ats failed:=by
 obtain ⟨vt,vn,va,h⟩:=h
 exact ⟨vt,vn,va,sx_below h hb⟩
theorem sxTake_yes (B bx:Nat) (all:List Tk) (nx:Nat) (nodes:List Nd) (ats:List Int) (failed:Bool) (s:ByteArray) (w:World) (h:SxAt B bx all w nx nodes ats failed) (hs:isSymS (all.drop nx) s=true) :
  Calls Tryz.prog 46 #[.pointer (some ⟨bx,0,none⟩),.string s] w fun e w'=>e=.returned (.tuple #[])∧SxAt B bx all w' (nx+1) nodes ats failed∧Exc (fun k=>k=bx) w w':=by
 have hlt:nx<all.length:=by
  by_cases hh:nx<all.length
  ·exact hh
  ·rw [isSymS_end hh] at hs;cases hs
 have hlen:all.length≤40000:=by obtain ⟨_,_,_,h'⟩:=h;exact h'.len
 have e:((nx+1:Nat):Int)=(nx:Int)+1:=by omega
 go_enter Tryz.func46,Tryz.ntmps46
 go_wp2_with (go_at_call 102;refine (sxIs_any B bx all nx nodes ats failed s w h).mono ?_;rintro e w1 ⟨rfl,hb1⟩;rw [hs];obtain ⟨vt,vn,va,h'⟩:=sxAt_below h hb1;have c1:=h'.c1;have f1:=h'.fz 1;have z1:=cell_lt c1)
 obtain ⟨q1,q2⟩:=sx_store (nx':=nx+1) (failed':=failed) h' 1 (.int .i64 ((nx+1:Nat):Int)) (.inl ⟨rfl,rfl,rfl,by omega⟩)
 rw [e] at q1 q2
 exact bodyPost_end (v:=.tuple #[]) (by simp [results,Tryz.results46,go_sem]) rfl ⟨rfl,⟨_,_,_,q1⟩,(Below.exc hb1).trans (q2.mono (fun k hk=>hk))⟩
theorem sxTake_no (B bx:Nat) (all:List Tk) (nx:Nat) (nodes:List Nd) (ats:List Int) (failed:Bool) (s:ByteArray) (w:World) (h:SxAt B bx all w nx nodes ats failed) (hs:isSymS (all.drop nx) s=false) :
  Calls Tryz.prog 46 #[.pointer (some ⟨bx,0,none⟩),.string s] w fun e w'=>e=.returned (.tuple #[])∧SxAt B bx all w' nx nodes ats true∧Exc (fun k=>k=bx) w w':=by
 go_enter Tryz.func46,Tryz.ntmps46
 go_wp2_with (go_at_call 102;refine (sxIs_any B bx all nx nodes ats failed s w h).mono ?_;rintro e w1 ⟨rfl,hb1⟩;rw [hs];obtain ⟨vt,vn,va,h'⟩:=sxAt_below h hb1;have c4:=h'.c4;have f4:=h'.fz 4;have z4:=cell_lt c4)
 obtain ⟨q1,q2⟩:=sx_store (nx':=nx) (failed':=true) h' 4 (.bool true) (.inr ⟨rfl,rfl,rfl⟩)
 exact bodyPost_ret (v:=.tuple #[]) (by simp [results,Tryz.results46,go_sem]) rfl ⟨rfl,⟨_,_,_,q1⟩,(Below.exc hb1).trans (q2.mono (fun k hk=>hk))⟩
end Go.Proofs.YtbljmfcifljkaaaGreatDoor
/-
  The reference's reader: put. Own work.
-/
namespace Go.Proofs.YtbljmfcifljkaaaGreatDoor
open Go.RowKit
theorem sx_pushN {B bx:Nat} {all:List Tk} {w w2:World} {vt vn va v':Value} {nx:Nat} {nodes:List Nd} {ats:List Int} {failed:Bool} (n:Nd) (h:SxV B bx all w vt vn va nx nodes ats failed) (hg:w.grownBy w2 vn.ownBlock) (hown:NdsOwn w2 B v' (nodes ++ [n])) :
  SxV B bx all (w2.setCell ⟨bx,2,none⟩ v') vt v' va nx (nodes ++ [n]) ats failed∧Fr B bx w (w2.setCell ⟨bx,2,none⟩ v'):=by
 have hE1:Exc (fun k=>vn.ownBlock=some k) w w2:=(Exc.refl _ w).grown hg (fun k hk=>.inr hk)
 have hlow:∀ k,vn.ownBlock=some k → B≤k:=fun k hk=>(World.ownsRow.lt h.on _ hk).1
 have hF1:Fr B bx w w2:=Fr.exc h.sz hE1 (fun k hk=>.inr (hlow k hk))
 have hsz2:B≤w2.heap.size:=Nat.le_trans h.sz hE1.size
 have hE2:Exc (fun k=>k=bx) w2 (w2.setCell ⟨bx,2,none⟩ v'):=exc_set (T:=fun k=>k=bx) (Exc.refl _ w2) (.inr rfl) _
 have hF:Fr B bx w (w2.setCell ⟨bx,2,none⟩ v'):=hF1.trans (Fr.exc hsz2 hE2 (fun k hk=>.inl hk))
 have hlt:=h.lt
 have hbw:bx<w.heap.size:=Nat.lt_of_lt_of_le h.lt h.sz
 have hn:¬ vn.ownBlock=some bx:=fun e=>by have:=hlow bx e;omega
 have c0:=(hE1.cell.1 bx 0 hbw hn).trans h.c0
 have c1:=(hE1.cell.1 bx 1 hbw hn).trans h.c1
 have c2:=(hE1.cell.1 bx 2 hbw hn).trans h.c2
 have c3:=(hE1.cell.1 bx 3 hbw hn).trans h.c3
 have c4:=(hE1.cell.1 bx 4 hbw hn).trans h.c4
 have q:∀ {sz e n:Nat} {v:Value} {xs:List Value},w2.ownsRow B e sz v n xs → (w2.setCell ⟨bx,2,none⟩ v').ownsRow B e sz v n xs:=fun hr=>owns_exc hE2 hr fun k hk e=>by have:=(World.ownsRow.lt hr _ hk).1;omega
 refine ⟨⟨h.lt,by simpa using hsz2,?_,?_,?_,?_,?_,fun i=>?_,h.tk.fr hF h.low,h.low,h.nx,h.len,q hown,q (owns_exc hE1 h.oa (fun k hk e=>owns_ne h.on h.oa (by decide) k e hk))⟩,hF⟩
 ·go_simp
 ·go_simp
 ·go_simp
 ·go_simp
 ·go_simp
 ·have:=(hE1.cell.2 bx i hbw hn).trans (h.fz i);simpa using this
theorem sx_pushA {B bx:Nat} {all:List Tk} {w w2:World} {vt vn va v':Value} {nx:Nat} {nodes:List Nd} {ats:List Int} {failed:Bool} (n:Int) (h:SxV B bx all w vt vn va nx nodes ats failed) (hg:w.grownBy w2 va.ownBlock) (hown:Rw w2 B v' (ats ++ [n])) :
  SxV B bx all (w2.setCell ⟨bx,3,none⟩ v') vt vn v' nx nodes (ats ++ [n]) failed∧Fr B bx w (w2.setCell ⟨bx,3,none⟩ v'):=by
 have hE1:Exc (fun k=>va.ownBlock=some k) w w2:=(Exc.refl _ w).grown hg (fun k hk=>.inr hk)
 have hlow:∀ k,va.ownBlock=some k → B≤k:=fun k hk=>(World.ownsRow.lt h.oa _ hk).1
 have hF1:Fr B bx w w2:=Fr.exc h.sz hE1 (fun k hk=>.inr (hlow k hk))
 have hsz2:B≤w2.heap.size:=Nat.le_trans h.sz hE1.size
 have hE2:Exc (fun k=>k=bx) w2 (w2.setCell ⟨bx,3,none⟩ v'):=exc_set (T:=fun k=>k=bx) (Exc.refl _ w2) (.inr rfl) _
 have hF:Fr B bx w (w2.setCell ⟨bx,3,none⟩ v'):=hF1.trans (Fr.exc hsz2 hE2 (fun k hk=>.inl hk))
 have hlt:=h.lt
 have hbw:bx<w.heap.size:=Nat.lt_of_lt_of_le h.lt h.sz
 have hn:¬ va.ownBlock=some bx:=fun e=>by have:=hlow bx e;omega
 have c0:=(hE1.cell.1 bx 0 hbw hn).trans h.c0
 have c1:=(hE1.cell.1 bx 1 hbw hn).trans h.c1
 have c2:=(hE1.cell.1 bx 2 hbw hn).trans h.c2
 have c3:=(hE1.cell.1 bx 3 hbw hn).trans h.c3
 have c4:=(hE1.cell.1 bx 4 hbw hn).trans h.c4
 have q:∀ {sz e n:Nat} {v:Value} {xs:List Value},w2.ownsRow B e sz v n xs → (w2.setCell ⟨bx,3,none⟩ v').ownsRow B e sz v n xs:=fun hr=>owns_exc hE2 hr fun k hk e=>by have:=(World.ownsRow.lt hr _ hk).1;omega
 refine ⟨⟨h.lt,by simpa using hsz2,?_,?_,?_,?_,?_,fun i=>?_,h.tk.fr hF h.low,h.low,h.nx,h.len,q (owns_exc hE1 h.on (fun k hk e=>owns_ne h.oa h.on (by decide) k e hk)),q hown⟩,hF⟩
 ·go_simp
 ·go_simp
 ·go_simp
 ·go_simp
 ·go_simp
 ·have:=(hE1.cell.2 bx i hbw hn).trans (h.fz i);simpa using this
theorem sxPut_any (B bx:Nat) (all:List Tk) (nx:Nat) (nodes:List Nd) (ats:List Int) (failed:Bool) (n:Nd) (p:Int) (w:World) (h:SxAt B bx all w nx nodes ats failed) (hn:nodes.length≤1048576) (ha:ats.length≤1048576) :
  Calls Tryz.prog 104 #[.pointer (some ⟨bx,0,none⟩),.agg #[.int .i64 n.kind,.int .i64 n.value,.string n.name],.int .i64 p] w fun e w'=>e=.returned (.tuple #[])∧SxAt B bx all w' nx (nodes ++ [n]) (ats ++ [p]) failed∧Fr B bx w w':=by
 obtain ⟨vt,vn,va,h0⟩:=h
 obtain ⟨j0,hj,hy0,hy1,hy2⟩:=info_parts info170
 obtain ⟨i0,hi,hz0,hz1,hz2⟩:=info_parts infoIntX
 obtain ⟨an,cn,rfl⟩:=h0.on.slice
 have hB0:=h0.sz
 have hlt:=h0.lt
 have hvW:=sx_below h0 (alloc_below w (.cells #[.int .i64 n.kind,.int .i64 n.value,.string n.name] 144))
 have hFW:Fr B bx w (w.alloc (.cells #[.int .i64 n.kind,.int .i64 n.value,.string n.name] 144)):=Fr.below hB0 (alloc_below _ _)
 obtain ⟨W,hW⟩:∃ W,W=w.alloc (.cells #[.int .i64 n.kind,.int .i64 n.value,.string n.name] 144):=⟨_,rfl⟩
 obtain ⟨nb,hnb⟩:∃ nb,nb=w.heap.size:=⟨_,rfl⟩
 have n0:W.cell? ⟨nb,0,none⟩=some (.int .i64 n.kind):=by rw [hW,hnb];simp
 have n1:W.cell? ⟨nb,1,none⟩=some (.int .i64 n.value):=by rw [hW,hnb];simp
 have n2:W.cell? ⟨nb,2,none⟩=some (.string n.name):=by rw [hW,hnb];simp
 go_enter Tryz.func104,Tryz.ntmps104
 go_wp2_with fail
 rw [← hW,← hnb]
 rw [← hW] at hvW hFW
 have nbB:B≤nb:=by rw [hnb];exact hB0
 have nbW:nb<W.heap.size:=cell_lt n0
 clear hW hnb h0
 have q2:=hvW.c2
 have hbrW:bx<W.heap.size:=Nat.lt_of_lt_of_le hvW.lt hvW.sz
 have hnbr:¬ nb=bx:=by omega
 have hown0:(Value.slice an nodes.length cn).ownBlock ≠ some bx:=fun e=>by have:=(World.ownsRow.lt hvW.on _ e).1;omega
 refine region_acts3 (C:=Exc (NoT) _) 9 0 [1,2,3,4,5,6] [7,8,9,10] (.pointer (some ⟨bx,0,none⟩)) rfl (by kernel_rfl) (by kernel_rfl) (fun _ _ _ h=>h) (Or.inl ⟨by rfl,fun _=>by go_simp⟩) (Exc.grows _ _) (Exc.refl _ _) ?_
 go_simp
 iterate 5 (apply x_st rfl rfl rfl;(focus intro u hc' hf';go_simp <;> rfl);intro K hK;go_simp;apply hK;clear hK K)
 refine x_make rfl rfl rfl (Exc.grows _ _) (Exc.refl _ _) (fun b=>.slice (some ⟨b,0,none⟩) 1 1) (fun K hK=>?_)
 apply Exists.intro
 refine ⟨fun w' hw'=>?_,fun bb w5 hw5 hb5 hbo hNb hnb=>?_⟩
 ·obtain ⟨hc',hf'⟩:=hw'.cell
  try simp only [World.size_drew] at hc' hf'
  go_simp
  rfl
 go_simp
 refine hK _ _ _ ?_
 clear hK K
 refine x_nil ?_
 have hb6:Below W.heap.size W w5:=(Below.refl _ W).drew.trans ((hw5.toBelow).mono (by simp))
 have hv6:=sx_below hvW hb6
 refine ⟨Exc (fun k=>k=bx∨(Value.slice an nodes.length cn).ownBlock=some k) w5,w5.heap.size,Exc.grows _ _,Exc.refl _ _,?_⟩
 refine x_src rfl rfl rfl (Exc.refl _ _) (.tmp 10) (.tmp 12) 28 rfl B 144 j0 _ 3 32 Tryz.underlying28 hj hy0 hy1 hy2 rfl (by decide) (.slice an nodes.length cn) nodes.length (nodes.flatMap ndCells) rfl (fun k hk=>.inl ⟨(World.ownsRow.lt hv6.on k hk).2,.inr hk⟩) (.slice (some ⟨bb,0,none⟩) 1 1) 1 (ndCells n) rfl ?c1 (by unfold maxLen;omega) (by omega) hv6.sz ?c2 ?_
 case c1=>intro u hu;simp [ndCells] at hu;rcases hu with rfl|rfl|rfl <;> rfl
 case c2 =>
  intro w8 hw8 hb8
  refine ⟨owns_keep hb8 hv6.on,rfl,.inr ⟨_,1,rfl,?_⟩⟩
  obtain ⟨m0,m1,m2⟩:=made_cell ((hb8.block bb (made_cell hbo).2.2).trans hbo)
  intro j u hj
  match j,hj with
  | 0,hj=>simp [ndCells] at hj;subst hj;simp [Addr.add,m0]
  | 1,hj=>simp [ndCells] at hj;subst hj;simp [Addr.add,m0]
  | 2,hj=>simp [ndCells] at hj;subst hj;simp [Addr.add,m0]
 intro K hK w8 w9 v9 hw8 hb8 hown9 hgr9 hw9 ho9
 obtain ⟨a9,c9,rfl⟩:=owns_shape hown9
 go_simp
 refine hK _ _ _ ?_
 clear hK K
 iterate 2 (apply x_sT rfl rfl rfl;(focus intro u hc' hf';(try simp only [World.size_drew] at hc' hf');go_simp <;> rfl);intro K hK;go_simp;apply hK;clear hK K)
 refine x_do rfl rfl rfl (Exc.grows _ _) hw9 (fun K hK=>?_)
 intro w10 hw10 hb10
 have hv8:=sx_below hv6 hb8
 have hbr8:bx<w8.heap.size:=Nat.lt_of_lt_of_le hv8.lt hv8.sz
 have hE9:Exc (fun k=>(Value.slice an nodes.length cn).ownBlock=some k) w8 w9:=(Exc.refl _ _).grown hgr9 (fun k hk=>.inr hk)
 have k9:=cell_keep hb10 ((hE9.cell.1 bx 2 hbr8 hown0).trans hv8.c2)
 have f9:w10.frozen? ⟨bx,2,none⟩=false:=(hb10.frozen (p:=⟨bx,2,none⟩) (by have:=hE9.size;simp;omega)).trans ((hE9.cell.2 bx 2 hbr8 hown0).trans (hv8.fz 2))
 have s9:=cell_lt k9
 have hNO:NdsOwn w10 B (.slice a9 (nodes.length+1) c9) (nodes ++ [n]):=by
  unfold NdsOwn
  rw [List.length_append,List.flatMap_append]
  exact owns_keep hb10 (by simpa using hown9)
 have hPP:=sx_pushN n hv8 (grown_more hgr9 hb10) hNO
 have hbr5:bx<w5.heap.size:=Nat.lt_of_lt_of_le hv6.lt hv6.sz
 refine ⟨w10.setCell ⟨bx,2,none⟩ (.slice a9 (nodes.length+1) c9),?_,⟨exc_set hw10 (.inr (.inl rfl)) _,by simp,fun j hj _ _=>by rw [Below.heap_setCell _ _ _ _ (by show ¬ _=_;intro hh;simp only at hh;omega)]⟩,?_⟩
 ·go_simp
 go_simp
 refine hK _ _ _ ?_
 clear hK K
 refine x_nil ?_
 have hF6:=(hFW.trans (Fr.below hvW.sz (hb6.trans (hb8.mono hb6.size)))).trans hPP.2
 have hvX:=hPP.1
 obtain ⟨X,hX⟩:∃ X,X=w10.setCell ⟨bx,2,none⟩ (.slice a9 (nodes.length+1) c9):=⟨_,rfl⟩
 rw [← hX] at hvX hF6 ⊢
 clear hX hPP hNO k9 f9 s9 hE9 hv8 hw10 hb10 hw9 hgr9 hown9 ho9 hw8 hb8 hv6 hb6 hw5 hb5 hbo hNb hnb hvW hFW n0 n1 n2 q2
 have q3:=hvX.c3
 have f3:=hvX.fz 3
 have sX:bx<X.heap.size:=Nat.lt_of_lt_of_le hvX.lt hvX.sz
 have hXB:=hvX.sz
 obtain ⟨aa,ca,rfl⟩:=owns_shape hvX.oa
 go_wp2_with (at_builtin;refine wpList_append_src rfl (.tmp 20) (.tmp 22) 40 rfl B 3 i0 _ 1 8 Tryz.underlying40 hi hz0 hz1 hz2 rfl (by decide) (.slice aa ats.length ca) ats.length (ats.flatMap iCell) rfl (owns_keep (alloc_below _ _) hvX.oa) (.slice (some ⟨X.heap.size,0,none⟩) 1 1) 1 (iCell p) rfl ?d1 ?d2 (by unfold maxLen;omega) (by omega) (by simp;omega) ?_)
 case d1 =>
  refine ⟨rfl,.inr ⟨_,1,rfl,?_⟩⟩
  intro j u hj
  match j,hj with
  | 0,hj=>simp [iCell] at hj;subst hj;simp [Addr.add]
 case d2=>intro u hu;simp [iCell] at hu;subst hu;rfl
 intro v12 w12 hown12 hgr12 ho12
 obtain ⟨a12,c12,rfl⟩:=owns_shape hown12
 have hvY:=sx_below hvX (alloc_below X (.cells #[.int .i64 p] 3))
 have hE12:Exc (fun k=>(Value.slice aa ats.length ca).ownBlock=some k) (X.alloc (.cells #[.int .i64 p] 3)) w12:=(Exc.refl _ _).grown hgr12 (fun k hk=>.inr hk)
 have hown3:(Value.slice aa ats.length ca).ownBlock ≠ some bx:=fun e=>by have:=(World.ownsRow.lt hvX.oa _ e).1;omega
 have k12:=(hE12.cell.1 bx 3 (by simp;omega) hown3).trans hvY.c3
 have f12:=(hE12.cell.2 bx 3 (by simp;omega) hown3).trans (hvY.fz 3)
 have s12:=cell_lt k12
 have hRO:Rw w12 B (.slice a12 (ats.length+1) c12) (ats ++ [p]):=by
  unfold Rw
  rw [List.length_append,List.flatMap_append]
  simpa using hown12
 have hQQ:=sx_pushA p hvY hgr12 hRO
 have hF7:=(hF6.trans (Fr.below hXB (alloc_below X (.cells #[.int .i64 p] 3)))).trans hQQ.2
 have hvZ:=hQQ.1
 clear hQQ hRO hE12 hown12 hgr12 ho12 hvX hvY hF6
 go_wp2
 exact bodyPost_end (v:=.tuple #[]) (by simp [results,Tryz.results104,go_sem]) rfl ⟨rfl,⟨_,_,_,hvZ⟩,hF7⟩
end Go.Proofs.YtbljmfcifljkaaaGreatDoor
/-
  The reference's reader: part, at a bracket and where no word comes. Own work.
-/
namespace Go.Proofs.YtbljmfcifljkaaaGreatDoor
open Go.RowKit
structure SPost (B bx:Nat) (all:List Tk) (w:World) (ts:List Tk) (out:Rd) (r:PRes) (e:Ending) (w':World):Prop where
 st:∃ nx nodes ats,SxAt B bx all w' nx nodes ats r.bad∧all.drop nx=r.rest∧(r.bad=false → nodes=r.out.map Prod.fst∧ats=r.out.map Prod.snd)∧nodes.length=ats.length∧nodes.length+r.rest.length≤out.length+ts.length
 fr:Fr B bx w w'
 len:r.rest.length≤ts.length
 ret:e=.returned (.tuple #[])
theorem SxAt.facts {B bx:Nat} {all:List Tk} {w:World} {nx:Nat} {nodes:List Nd} {ats:List Int} {failed:Bool} (h:SxAt B bx all w nx nodes ats failed):bx<B∧B≤w.heap.size∧nx≤all.length∧all.length≤40000∧TksOk all:=by
 obtain ⟨_,_,_,h⟩:=h;exact ⟨h.lt,h.sz,h.nx,h.len,h.tk.1⟩
theorem sx_next {B bx:Nat} {all:List Tk} {w:World} {nx:Nat} {nodes:List Nd} {ats:List Int} {failed:Bool} (h:SxAt B bx all w nx nodes ats failed) (hl:nx<all.length) :
  SxAt B bx all (w.setCell ⟨bx,1,none⟩ (.int .i64 ((nx:Int)+1))) (nx+1) nodes ats failed∧Fr B bx w (w.setCell ⟨bx,1,none⟩ (.int .i64 ((nx:Int)+1))):=by
 obtain ⟨vt,vn,va,h⟩:=h
 obtain ⟨q1,q2⟩:=sx_store (nx':=nx+1) (failed':=failed) h 1 (.int .i64 ((nx+1:Nat):Int)) (.inl ⟨rfl,rfl,rfl,by omega⟩)
 have e:((nx+1:Nat):Int)=(nx:Int)+1:=by omega
 rw [e] at q1 q2
 exact ⟨⟨_,_,_,q1⟩,Fr.exc h.sz q2 (fun k hk=>.inl hk)⟩
theorem sx_fail {B bx:Nat} {all:List Tk} {w:World} {nx:Nat} {nodes:List Nd} {ats:List Int} {failed:Bool} (h:SxAt B bx all w nx nodes ats failed) :
  SxAt B bx all (w.setCell ⟨bx,4,none⟩ (.bool true)) nx nodes ats true∧Fr B bx w (w.setCell ⟨bx,4,none⟩ (.bool true)):=by
 obtain ⟨vt,vn,va,h⟩:=h
 obtain ⟨q1,q2⟩:=sx_store (nx':=nx) (failed':=true) h 4 (.bool true) (.inr ⟨rfl,rfl,rfl⟩)
 exact ⟨⟨_,_,_,q1⟩,Fr.exc h.sz q2 (fun k hk=>.inl hk)⟩
theorem drop_cons {all:List Tk} {nx:Nat} {t:Tk} {r:List Tk} (h:all.drop nx=t :: r):nx<all.length∧all.drop (nx+1)=r:=by
 have hl:nx<all.length:=by
  have:=congrArg List.length h
  simp at this;omega
 rw [List.drop_eq_getElem_cons hl] at h
 exact ⟨hl,(List.cons.inj h).2⟩
theorem drop_get {all:List Tk} {nx:Nat} {t:Tk} {r:List Tk} (h:all.drop nx=t :: r):∃ hl:nx<all.length,all[nx]=t:=by
 obtain ⟨hl,_⟩:=drop_cons h
 refine ⟨hl,?_⟩
 rw [List.drop_eq_getElem_cons hl] at h
 exact (List.cons.inj h).1
theorem SxAt.cells {B bx:Nat} {all:List Tk} {w:World} {nx:Nat} {nodes:List Nd} {ats:List Int} {failed:Bool} (h:SxAt B bx all w nx nodes ats failed) :
  w.cell? ⟨bx,1,none⟩=some (.int .i64 nx)∧w.cell? ⟨bx,4,none⟩=some (.bool failed)∧w.frozen? ⟨bx,1,none⟩=false∧w.frozen? ⟨bx,4,none⟩=false∧bx<w.heap.size:=by
 obtain ⟨_,_,_,h⟩:=h;exact ⟨h.c1,h.c4,h.fz 1,h.fz 4,Nat.lt_of_lt_of_le h.lt h.sz⟩
theorem sxPart_paren (B bx:Nat) (all:List Tk) (f:Nat) (hT:∀ nx out w,(all.drop nx).length≤f → out.length+(all.drop nx).length≤40000 → SxAt B bx all w nx (out.map Prod.fst) (out.map Prod.snd) false → Calls Tryz.prog 47 #[.pointer (some ⟨bx,0,none⟩)] w (SPost B bx all w (all.drop nx) out (pTerm f (all.drop nx) out)))
  (nx:Nat) (t:Tk) (r:List Tk) (out:Rd) (w:World) (hd:all.drop nx=t :: r) (hts:r.length≤f) (hsum:out.length+(r.length+1)≤40000) (h:SxAt B bx all w nx (out.map Prod.fst) (out.map Prod.snd) false) (hy:isSymS (t :: r) ⟨#[40]⟩=true) :
  Calls Tryz.prog 168 #[.pointer (some ⟨bx,0,none⟩)] w (SPost B bx all w (t :: r) out (pPart (f+1) (t :: r) out)):=by
 have hy':isSym (t :: r) 40=true:=by simpa [isSym,isSymS] using hy
 obtain ⟨hl,hd1⟩:=drop_cons hd
 obtain ⟨⟨bad,r2,o2⟩,hq⟩:∃ q,pTerm f r out=q:=⟨_,rfl⟩
 have hT1:=fun w2 h2=>hT (nx+1) out w2 (by rw [hd1];exact hts) (by rw [hd1];omega) h2
 rw [hd1,hq] at hT1
 obtain ⟨hb,hsz,hnx,hall,hok⟩:=h.facts
 have hnx1:(nx:Int)+1≤40000:=by omega
 rw [← hd] at hy
 cases bad
 ·cases h41:isSymS r2 ⟨#[41]⟩
  ·have h41':isSym r2 41=false:=by rw [← isSymS_eq];exact h41
   have HE:Hid (pPart (f+1) (t :: r) out=⟨true,r2,o2⟩):=(show _=_ by rw [pPart.eq_def];simp [hy',hq,h41'])
   clear hq
   go_enter Tryz.func168,Tryz.ntmps168
   go_wp2_with (first|(go_at_call 102;refine (sxIs_any B bx all nx _ _ _ _ _ h).mono ?_;rintro e w1 ⟨rfl,hb1⟩;rw [hy];have h1:=sxAt_below h hb1;obtain ⟨k1,_,f1,_,s1⟩:=h1.cells;obtain ⟨h2,hF2⟩:=sx_next h1 hl)|(go_at_call 47;refine (hT1 _ h2).mono ?_;rintro e w3 ⟨⟨nx3,nodes3,ats3,h3,hd3,hn3,he3,hs3⟩,hF3,hl3,rfl⟩;obtain ⟨_,k4,_,f4,s4⟩:=h3.cells)|(go_at_call 46;refine (sxTake_no B bx all nx3 _ _ _ _ _ h3 (by rw [hd3];exact h41)).mono ?_;rintro e w4 ⟨rfl,h4,hx4⟩))
   have hz3:B≤w3.heap.size:=h3.facts.2.1
   exact bodyPost_ret (v:=.tuple #[]) (by simp [results,Tryz.results168,go_sem]) rfl (by rw [HE.out];exact ⟨⟨nx3,nodes3,ats3,h4,hd3,(fun hh=>by cases hh),he3,by simp at hs3 ⊢;omega⟩,(((Fr.below hsz hb1).trans hF2).trans hF3).trans (Fr.exc hz3 hx4 (fun k hk=>.inl hk)),by simp at hl3 ⊢;omega,rfl⟩)
  ·cases r2 with
   | nil=>simp [isSymS] at h41
   | cons t2 r3 =>
   have h41':isSym (t2 :: r3) 41=true:=by simpa [isSym,isSymS] using h41
   have HE:Hid (pPart (f+1) (t :: r) out=⟨false,r3,o2⟩):=(show _=_ by rw [pPart.eq_def];simp [hy',hq,h41'])
   clear hq
   go_enter Tryz.func168,Tryz.ntmps168
   go_wp2_with (first|(go_at_call 102;refine (sxIs_any B bx all nx _ _ _ _ _ h).mono ?_;rintro e w1 ⟨rfl,hb1⟩;rw [hy];have h1:=sxAt_below h hb1;obtain ⟨k1,_,f1,_,s1⟩:=h1.cells;obtain ⟨h2,hF2⟩:=sx_next h1 hl)|(go_at_call 47;refine (hT1 _ h2).mono ?_;rintro e w3 ⟨⟨nx3,nodes3,ats3,h3,hd3,hn3,he3,hs3⟩,hF3,hl3,rfl⟩;obtain ⟨_,k4,_,f4,s4⟩:=h3.cells)|(go_at_call 46;refine (sxTake_yes B bx all nx3 _ _ _ _ _ h3 (by rw [hd3];exact h41)).mono ?_;rintro e w4 ⟨rfl,h4,hx4⟩))
   have hz3:B≤w3.heap.size:=h3.facts.2.1
   exact bodyPost_ret (v:=.tuple #[]) (by simp [results,Tryz.results168,go_sem]) rfl (by rw [HE.out];exact ⟨⟨nx3+1,nodes3,ats3,h4,(drop_cons hd3).2,(fun _=>by first|exact hn3 rfl|exact hn3 trivial),he3,by simp at hs3 ⊢;omega⟩,(((Fr.below hsz hb1).trans hF2).trans hF3).trans (Fr.exc hz3 hx4 (fun k hk=>.inl hk)),by simp at hl3 ⊢;omega,rfl⟩)
 ·have HE:Hid (pPart (f+1) (t :: r) out=⟨true,r2,o2⟩):=(show _=_ by rw [pPart.eq_def];simp [hy',hq])
  clear hq
  go_enter Tryz.func168,Tryz.ntmps168
  go_wp2_with (first|(go_at_call 102;refine (sxIs_any B bx all nx _ _ _ _ _ h).mono ?_;rintro e w1 ⟨rfl,hb1⟩;rw [hy];have h1:=sxAt_below h hb1;obtain ⟨k1,_,f1,_,s1⟩:=h1.cells;obtain ⟨h2,hF2⟩:=sx_next h1 hl)|(go_at_call 47;refine (hT1 _ h2).mono ?_;rintro e w3 ⟨⟨nx3,nodes3,ats3,h3,hd3,hn3,he3,hs3⟩,hF3,hl3,rfl⟩;obtain ⟨_,k4,_,f4,s4⟩:=h3.cells))
  exact bodyPost_ret (v:=.tuple #[]) (by simp [results,Tryz.results168,go_sem]) rfl (by rw [HE.out];exact ⟨⟨nx3,nodes3,ats3,h3,hd3,(fun hh=>by cases hh),he3,by simp at hs3 ⊢;omega⟩,((Fr.below hsz hb1).trans hF2).trans hF3,by simp at hl3 ⊢;omega,rfl⟩)
theorem sxPart_noword (B bx:Nat) (all:List Tk) (f nx:Nat) (ts:List Tk) (out:Rd) (w:World) (hd:all.drop nx=ts) (hts:ts.length≤f) (h:SxAt B bx all w nx (out.map Prod.fst) (out.map Prod.snd) false) (hy:isSymS ts ⟨#[40]⟩=false) (hk:∀ t r,ts=t :: r → t.kind ≠ 1) :
  Calls Tryz.prog 168 #[.pointer (some ⟨bx,0,none⟩)] w (SPost B bx all w ts out (pPart f ts out)):=by
 have HE:Hid (pPart f ts out=⟨true,ts,out⟩):=(show _=_ by
  cases ts with
  | nil=>cases f <;> simp [pPart,isSym]
  | cons t r =>
   obtain ⟨g,rfl⟩:∃ g,f=g+1:=⟨f - 1,by simp at hts;omega⟩
   have hy':isSym (t :: r) 40=false:=by simpa [isSym,isSymS] using hy
   rw [pPart.eq_def];simp [hy',hk t r rfl])
 obtain ⟨hb,hsz,hnx,hall,hok⟩:=h.facts
 rw [← hd] at hy
 cases ts with
 | nil =>
  have hnl:nx=all.length:=by have:=congrArg List.length hd;simp at this;omega
  subst hnl
  clear hk
  go_enter Tryz.func168,Tryz.ntmps168
  go_wp2_with (go_at_call 102;refine (sxIs_any B bx all _ _ _ _ _ _ h).mono ?_;rintro e w1 ⟨rfl,hb1⟩;rw [hy];have h1:=sxAt_below h hb1;obtain ⟨vt1,vn1,va1,hv1⟩:=id h1;obtain ⟨a1,c1,rfl,hc1⟩:=hv1.tk.shape;have k0:=hv1.c0;have k1:=hv1.c1;have k4:=hv1.c4;have f4:=hv1.fz 4;have s4:=cell_lt k4;clear hv1)
  go_quiet (fail)
  go_wp2
  have h2:=sxAt_below h1 (below_drewN (Below.refl w1.heap.size w1) nq)
  obtain ⟨h3,hF3⟩:=sx_fail h2
  exact bodyPost_ret (v:=.tuple #[]) (by simp [results,Tryz.results168,go_sem]) rfl (by rw [HE.out];exact ⟨⟨_,_,_,h3,hd,(fun hh=>by cases hh),by simp,by simp⟩,(Fr.below hsz (hb1.trans ((below_drewN (Below.refl w1.heap.size w1) nq).mono hb1.size))).trans hF3,Nat.le_refl _,rfl⟩)
 | cons t r =>
  obtain ⟨hl,hget⟩:=drop_get hd
  have g1:(t.kind != 1)=true:=by simpa using hk t r rfl
  have HG:=Lib.hid hget
  clear hget
  have hne:((nx:Int) == all.length)=false:=by simp;omega
  clear hk
  go_enter Tryz.func168,Tryz.ntmps168
  go_wp2_with (go_at_call 102;refine (sxIs_any B bx all _ _ _ _ _ _ h).mono ?_;rintro e w1 ⟨rfl,hb1⟩;rw [hy];have h1:=sxAt_below h hb1;obtain ⟨vt1,vn1,va1,hv1⟩:=id h1;obtain ⟨b1,o1,c1,rfl,hc1,t0,t1,t2⟩:=hv1.tk.get nx hl;rw [HG.out] at t0 t1 t2;have k0:=hv1.c0;have k1:=hv1.c1;have k4:=hv1.c4;have f4:=hv1.fz 4;have s4:=cell_lt k4;clear hv1)
  go_quiet (fail)
  go_wp2
  have h2:=sxAt_below h1 (below_drewN (Below.refl w1.heap.size w1) nq)
  obtain ⟨h3,hF3⟩:=sx_fail h2
  exact bodyPost_ret (v:=.tuple #[]) (by simp [results,Tryz.results168,go_sem]) rfl (by rw [HE.out];exact ⟨⟨_,_,_,h3,hd,(fun hh=>by cases hh),by simp,by simp⟩,(Fr.below hsz (hb1.trans ((below_drewN (Below.refl w1.heap.size w1) nq).mono hb1.size))).trans hF3,Nat.le_refl _,rfl⟩)
end Go.Proofs.YtbljmfcifljkaaaGreatDoor
/-
  The reserved words, as the reference looks them up; the reader's own block and others. Own work.
-/
namespace Go.Proofs.YtbljmfcifljkaaaGreatDoor
open Go.RowKit
def resGo (s:ByteArray):List ByteArray → Nat → Nd → Nd
 | [],_,n=>n
 | x :: r,j,n=>resGo s r (j+1) (if x=s then ⟨(j:Int)+1,0,⟨#[]⟩⟩ else n)
theorem resGo_none (s:ByteArray):∀ (l:List ByteArray) (j:Nat) (n:Nd),(∀ x ∈ l,x ≠ s) → resGo s l j n=n
 | [],_,_,_=>rfl
 | x :: r,j,n,h=>by
  unfold resGo
  rw [if_neg (h x (List.mem_cons_self ..))]
  exact resGo_none s r (j+1) n fun y hy=>h y (List.mem_cons_of_mem _ hy)
theorem wordFrom_none (s:ByteArray) (d:Int):∀ (l:List ByteArray) (k:Nat),(∀ x ∈ l,x ≠ s) → wordFrom s d l k=d
 | [],_,_=>rfl
 | x :: r,k,h=>by
  unfold wordFrom
  rw [if_neg (h x (List.mem_cons_self ..))]
  exact wordFrom_none s d r (k+1) fun y hy=>h y (List.mem_cons_of_mem _ hy)
theorem resGo_node (s:ByteArray) (h:1≤s.size):resGo s reserved 0 ⟨17,0,s⟩=nodeOf s:=by
 by_cases hm:s ∈ reserved
 ·simp only [reserved,List.mem_cons,List.not_mem_nil,or_false] at hm
  rcases hm with rfl|rfl|rfl|rfl|rfl|rfl|rfl|rfl|rfl|rfl|rfl|rfl|rfl|rfl <;> kernel_rfl
 ·have hne:∀ x ∈ reserved,x ≠ s:=fun x hx e=>hm (e ▸ hx)
  rw [resGo_none s reserved 0 _ hne]
  have hk:kindOfW s=17:=by
   unfold kindOfW
   refine wordFrom_none s 17 kwords 0 fun x hx=>?_
   simp only [kwords,List.mem_cons] at hx
   rcases hx with rfl|hx
   ·rintro rfl;simp [ByteArray.size] at h
   ·exact hne x hx
  simp [nodeOf,hk]
theorem sx_exc {T:Nat → Prop} {B bx:Nat} {all:List Tk} {w w':World} {vt vn va:Value} {nx:Nat} {nodes:List Nd} {ats:List Int} {failed:Bool} (h:SxV B bx all w vt vn va nx nodes ats failed) (hE:Exc T w w') (hT:∀ k,T k → B≤k∧vn.ownBlock ≠ some k∧va.ownBlock ≠ some k):SxV B bx all w' vt vn va nx nodes ats failed:=by
 have hn:¬ T bx:=fun ht=>by have:=(hT bx ht).1;have:=h.lt;omega
 have hb:bx<w.heap.size:=Nat.lt_of_lt_of_le h.lt h.sz
 have hF:Fr B bx w w':=Fr.exc h.sz hE (fun k hk=>.inr (hT k hk).1)
 exact ⟨h.lt,Nat.le_trans h.sz hE.size,(hE.cell.1 bx 0 hb hn).trans h.c0,(hE.cell.1 bx 1 hb hn).trans h.c1,(hE.cell.1 bx 2 hb hn).trans h.c2,(hE.cell.1 bx 3 hb hn).trans h.c3,(hE.cell.1 bx 4 hb hn).trans h.c4,
  fun i=>(hE.cell.2 bx i hb hn).trans (h.fz i),h.tk.fr hF h.low,h.low,h.nx,h.len,owns_exc hE h.on (fun k hk ht=>(hT k ht).2.1 hk),owns_exc hE h.oa (fun k hk ht=>(hT k ht).2.2 hk)⟩
end Go.Proofs.YtbljmfcifljkaaaGreatDoor
