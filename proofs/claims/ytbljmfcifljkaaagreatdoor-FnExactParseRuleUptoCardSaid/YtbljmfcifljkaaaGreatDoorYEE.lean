/-
  The reference's reader: part, at a word. Own work; by a program of my own (parS.py).
-/
import Derived.Test.YtbljmfcifljkaaaGreatDoorYDD
set_option linter.all false
set_option maxRecDepth 100000
set_option maxHeartbeats 8000000
namespace Go.Proofs.YtbljmfcifljkaaaGreatDoor
open Go.RowKit
theorem sxPart_plain (B bx:Nat) (all:List Tk) (f nx:Nat) (t:Tk) (r:List Tk) (out:Rd) (w:World) (hd:all.drop nx=t :: r) (hsum:out.length+(r.length+1)≤40000) (h:SxAt B bx all w nx (out.map Prod.fst) (out.map Prod.snd) false) (hk:t.kind=1) (h1:¬ (kindOfW t.text=1∨kindOfW t.text=7∨kindOfW t.text=13)) :
  Calls Tryz.prog 168 #[.pointer (some ⟨bx,0,none⟩)] w (SPost B bx all w (t :: r) out (pPart (f+1) (t :: r) out)):=by
 have hy:isSymS (t :: r) ⟨#[40]⟩=false:=by simp [isSymS,hk]
 have hy':isSym (t :: r) 40=false:=by simp [isSym,hk]
 have HE:Hid (pPart (f+1) (t :: r) out=⟨false,r,out ++ [(nodeOf t.text,t.pos)]⟩):=(show _=_ by rw [pPart.eq_def];simp [hy',hk,h1])
 have hkn:(nodeOf t.text).kind=kindOfW t.text:=rfl
 rw [← hkn] at h1
 clear hkn
 obtain ⟨nd,hnd0⟩:∃ nd,nodeOf t.text=nd:=⟨_,rfl⟩
 rw [hnd0] at h1 HE
 simp only [not_or] at h1
 have v1:(nd.kind == 1)=false:=by simpa using h1.1
 have v2:(nd.kind == 7)=false:=by simpa using h1.2.1
 have v3:(nd.kind == 13)=false:=by simpa using h1.2.2
 clear h1
 obtain ⟨hl,hget⟩:=drop_get hd
 obtain ⟨_,hd1⟩:=drop_cons hd
 obtain ⟨hb,hsz,hnx,hall,hok⟩:=h.facts
 have htok:=hok.drop nx
 rw [hd] at htok
 have HN:=Lib.hid ((resGo_node t.text (htok.head.word hk)).trans hnd0)
 clear hnd0
 have g1:(t.kind != 1)=false:=by simp [hk]
 have hne:((nx:Int) == all.length)=false:=by simp;omega
 have HG:=Lib.hid hget
 rw [← hd] at hy
 clear hget hk
 go_enter Tryz.func168,Tryz.ntmps168
 go_wp2_with (go_at_call 102;refine (sxIs_any B bx all _ _ _ _ _ _ h).mono ?_;rintro e w1 ⟨rfl,hb1⟩;rw [hy];have h1:=sxAt_below h hb1;obtain ⟨vt1,vn1,va1,hv1⟩:=id h1;obtain ⟨b1,o1,c1,rfl,hc1,t0,t1,t2⟩:=hv1.tk.get nx hl;rw [HG.out] at t0 t1 t2;have k0:=hv1.c0;have k1:=hv1.c1;have k4:=hv1.c4;have f4:=hv1.fz 4;have s4:=cell_lt k4)
 go_quiet (fail)
 go_wp2_with fail
 obtain ⟨W0,hW0⟩:∃ W0,W0=w1.drewN nq:=⟨_,rfl⟩
 rw [← hW0]
 have hb0:Below w1.heap.size w1 W0:=by rw [hW0];exact below_drewN (Below.refl _ _) _
 have hv0:=sx_below hv1 hb0
 replace t0:=cell_keep hb0 t0
 replace t1:=cell_keep hb0 t1
 replace t2:=cell_keep hb0 t2
 replace k0:=hv0.c0
 replace k1:=hv0.c1
 replace s4:bx<W0.heap.size:=cell_lt k1
 have s5:=cell_lt t0
 have hltI:(nx:Int)<all.length:=by omega
 clear k4 f4 hW0
 refine region_acts (C:=Exc (NoT) _) 9 [0,1,2,3,4,5,6,7,8,9,10,11] (by kernel_rfl) (by kernel_rfl) (Exc.grows _ _) (Exc.refl _ _) ?_
 iterate 10 (apply x_st rfl rfl rfl;(focus intro u hc' hf';go_simp <;> rfl);intro K hK;go_simp;apply hK;clear hK K)
 refine x_make rfl rfl rfl (Exc.grows _ _) (Exc.refl _ _) (fun b=>.pointer (some ⟨b,0,none⟩)) (fun K hK=>?_)
 apply Exists.intro
 refine ⟨fun w' hw'=>?_,fun bb w5 hw5 hb5 hbo hNb hnb=>?_⟩
 ·obtain ⟨hc',hf'⟩:=hw'.cell
  try simp only [World.size_drew] at hc' hf'
  go_simp
  rfl
 go_simp
 refine hK _ _ _ ?_
 clear hK K
 refine x_do rfl rfl rfl (Exc.grows _ _) hw5 (fun K hK=>?_)
 intro w6 hw6 hb6
 obtain ⟨m0,m1,m2⟩:=made_cell ((hb6.block bb (made_cell hbo).2.2).trans hbo)
 refine ⟨((w6.setCell ⟨bb,0,none⟩ (.int .i64 t.kind)).setCell ⟨bb,1,none⟩ (.string t.text)).setCell ⟨bb,2,none⟩ (.int .i64 t.pos),?_,⟨exc_set (exc_set (exc_set hw6 (.inl hNb) _) (.inl hNb) _) (.inl hNb) _,by simp,fun j _ hj _=>by rw [Below.heap_setCell _ _ _ _ (fun h=>hj (by simp [h])),Below.heap_setCell _ _ _ _ (fun h=>hj (by simp [h])),Below.heap_setCell _ _ _ _ (fun h=>hj (by simp [h]))]⟩,?_⟩
 ·go_simp
 go_simp
 refine hK _ _ _ ?_
 clear hK K
 refine x_nil ?_
 have hbb:W0.heap.size≤bb:=by simpa using hNb
 obtain ⟨W1,hW1⟩:∃ W1,W1=((w6.setCell ⟨bb,0,none⟩ (.int .i64 t.kind)).setCell ⟨bb,1,none⟩ (.string t.text)).setCell ⟨bb,2,none⟩ (.int .i64 t.pos):=⟨_,rfl⟩
 rw [← hW1]
 have hbW:Below W0.heap.size W0 W1:=by rw [hW1];exact ((((Below.refl _ W0).drew.trans (hw6.toBelow.mono (by simp))).setCell hbb _).setCell hbb _).setCell hbb _
 have e0:W1.cell? ⟨bb,0,none⟩=some (.int .i64 t.kind):=by rw [hW1];go_simp
 have e1:W1.cell? ⟨bb,1,none⟩=some (.string t.text):=by rw [hW1];go_simp
 have e2:W1.cell? ⟨bb,2,none⟩=some (.int .i64 t.pos):=by rw [hW1];go_simp
 clear hW1 hw6 hb6 m0 m1 m2 hw5 hb5 hbo hNb hnb t0 t1 t2 k0 k1
 have hvW:=sx_below hv0 hbW
 have k1:=hvW.c1
 have f1:=hvW.fz 1
 have s1:bx<W1.heap.size:=cell_lt k1
 have sb:bb<W1.heap.size:=cell_lt e0
 have nbx:¬ bb=bx:=by omega
 obtain ⟨q1,q2⟩:=sx_store (nx':=nx+1) (failed':=false) hvW 1 (.int .i64 ((nx+1:Nat):Int)) (.inl ⟨rfl,rfl,rfl,by omega⟩)
 have ecast:((nx+1:Nat):Int)=(nx:Int)+1:=by omega
 rw [ecast] at q1 q2
 clear ecast
 have hF1:Fr B bx w (W1.setCell ⟨bx,1,none⟩ (.int .i64 ((nx:Int)+1))):=(Fr.below hsz (hb1.trans ((hb0.trans (hbW.mono hb0.size)).mono hb1.size))).trans (Fr.exc hvW.sz q2 (fun k hk=>.inl hk))
 have hv2:=sx_below q1 (alloc_below _ (.cells #[.int .i64 17,.int .i64 0,.string t.text] 144))
 have hF2:=hF1.trans (Fr.below q1.sz (alloc_below _ (.cells #[.int .i64 17,.int .i64 0,.string t.text] 144)))
 have hlo:∀ j,vn1.ownBlock=some j∨va1.ownBlock=some j → j<W1.heap.size:=fun j hj=>by
  rcases hj with hj|hj
  ·have:=(World.ownsRow.lt q1.on j hj).2;simpa using this
  ·have:=(World.ownsRow.lt q1.oa j hj).2;simpa using this
 have hnx1:(nx:Int)+1≤40000:=by omega
 go_wp2_with (go_at_call 231;refine (lbReserved_any _).mono ?_;rintro e w4 ⟨n14,rfl,hn1,hn2,hst,hb4,hz4⟩)
 obtain ⟨nb,hnb⟩:∃ nb,nb=W1.heap.size:=⟨_,rfl⟩
 have n0:w4.cell? ⟨nb,0,none⟩=some (.int .i64 17):=by rw [hnb];exact cell_keep hb4 (by go_simp)
 have n1:w4.cell? ⟨nb,1,none⟩=some (.int .i64 0):=by rw [hnb];exact cell_keep hb4 (by go_simp)
 have n2:w4.cell? ⟨nb,2,none⟩=some (.string t.text):=by rw [hnb];exact cell_keep hb4 (by go_simp)
 have nf:∀ j,w4.frozen? ⟨nb,j,none⟩=false:=fun j=>by rw [hnb];exact (hb4.frozen (p:=⟨W1.heap.size,j,none⟩) (by simp)).trans (by go_simp)
 have e1':w4.cell? ⟨bb,1,none⟩=some (.string t.text):=cell_keep hb4 (by go_simp)
 have e2':w4.cell? ⟨bb,2,none⟩=some (.int .i64 t.pos):=cell_keep hb4 (by go_simp)
 have hv4:=sx_below hv2 hb4
 have hF4:=hF2.trans (Fr.below hv2.sz hb4)
 have nbB:B≤nb:=by rw [hnb];have:=hvW.sz;exact this
 have hlo4:∀ j,vn1.ownBlock=some j∨va1.ownBlock=some j → j<nb:=fun j hj=>by rw [hnb];exact hlo j hj
 have nbb:¬ bb=nb:=by omega
 have HLO:=Lib.hid hlo4
 have hres:W1.heap.size<W1.heap.size+1:=by omega
 obtain ⟨ra,rc,ha,hrc,hat⟩:=hst
 simp only [World.size_alloc,World.size_setCell,Value.slice.injEq] at ha
 obtain ⟨rfl,hn3,rfl⟩:=ha
 obtain rfl:n14=14:=by omega
 have hl14:reserved.length=14:=rfl
 try simp only [World.size_alloc,World.size_setCell]
 obtain ⟨rb,hrb⟩:∃ rb,rb=W1.heap.size+1:=⟨_,rfl⟩
 rw [← hrb,← hnb]
 rw [← hrb] at hat
 have nrb:¬ rb=nb:=by omega
 clear hn3 hrb hnb hres hv2 hF2 hF1 q1 q2 hb4 hz4 hlo hlo4 hvW hv0 hv1 hb0 hbW hn1 hn2 hrc e0 e1 e2 k1 f1 s1 sb h1
 have HD1:=Lib.hid hd1
 have HHY:=Lib.hid (And.intro hnx1 (And.intro hsum (And.intro hnx (And.intro hall hsz))))
 clear hd hy hy' hd1 hok htok hne hltI hnx1 hsum hnx hall hsz
 go_loopw [73] (fun i wr=>∃ (k:Nat) (n:Nd),k≤14∧i=.int .i64 k∧wr.cell? ⟨nb,0,none⟩=some (.int .i64 n.kind)∧wr.cell? ⟨nb,1,none⟩=some (.int .i64 n.value)∧wr.cell? ⟨nb,2,none⟩=some (.string n.name)∧(∀ j,wr.frozen? ⟨nb,j,none⟩=false)∧Hid (nd=resGo t.text (reserved.drop k) k n)∧Exc (fun j=>j=nb) w4 wr) (fun i _=>14 - (intOf i).toNat)
 case atStart=>exact ⟨0,⟨17,0,t.text⟩,by omega,rfl,n0,n1,n2,nf,HN.out.symm,Exc.refl _ _⟩
 case round =>
  obtain ⟨k,n,hk14,rfl,y0,y1,y2,yf,HC,hE⟩:=hrel
  have z4:=hE.size
  have yb1:wr.cell? ⟨bb,1,none⟩=some (.string t.text):=(hE.cell.1 bb 1 (cell_lt e1') nbb).trans e1'
  have yb2:wr.cell? ⟨bb,2,none⟩=some (.int .i64 t.pos):=(hE.cell.1 bb 2 (cell_lt e1') nbb).trans e2'
  have yf0:=yf 0
  have yf1:=yf 1
  have yf2:=yf 2
  by_cases hlt:k<14
  ·obtain ⟨b,o,hbo,_,hnd⟩:=hat k (by omega)
   simp only [Option.some.injEq,Addr.mk.injEq] at hbo
   obtain ⟨rfl,rfl,_⟩:=hbo
   have c0:=(hE.cell.1 _ _ (cell_lt hnd) nrb).trans hnd
   simp only [Nat.zero_add,Nat.mul_one] at c0
   clear hat hnd
   have hkl:k<reserved.length:=by omega
   by_cases he:reserved[k]=t.text
   ·have g2:(reserved[k].toList == t.text.toList)=true:=by rw [str_beq];simp [he]
    have HC2:Hid (nd=resGo t.text (reserved.drop (k+1)) (k+1) ⟨(k:Int)+1,0,⟨#[]⟩⟩):=(show _=_ by rw [HC.out,List.drop_eq_getElem_cons hkl,resGo,if_pos he])
    have hE2:Exc (fun j=>j=nb) w4 (((wr.setCell ⟨nb,0,none⟩ (.int .i64 ((k:Int)+1))).setCell ⟨nb,1,none⟩ (.int .i64 0)).setCell ⟨nb,2,none⟩ (.string ⟨#[]⟩)):=exc_set (exc_set (exc_set hE (.inr rfl) _) (.inr rfl) _) (.inr rfl) _
    clear he HC
    go_wp2
    go_roundw
    case rel=>exact ⟨k+1,⟨(k:Int)+1,0,⟨#[]⟩⟩,by omega,by go_num,by go_simp,by go_simp,by go_simp,fun j=>by simpa using yf j,HC2,hE2⟩
    case measure=>simp [intOf];omega
   ·have g2:(reserved[k].toList == t.text.toList)=false:=by rw [str_beq];simp [he]
    have HC2:Hid (nd=resGo t.text (reserved.drop (k+1)) (k+1) n):=(show _=_ by rw [HC.out,List.drop_eq_getElem_cons hkl,resGo,if_neg he])
    clear he HC
    go_wp2
    go_roundw
    case rel=>exact ⟨k+1,n,by omega,by go_num,y0,y1,y2,yf,HC2,hE⟩
    case measure=>simp [intOf];omega
  ·obtain rfl:k=14:=by omega
   have hn:nd=n:=by rw [HC.out];rfl
   subst hn
   have hvR:=sx_exc hv4 hE (fun j hj=>by subst hj;exact ⟨nbB,fun e=>by have:=HLO.out _ (.inl e);omega,fun e=>by have:=HLO.out _ (.inr e);omega⟩)
   have hFR:=hF4.trans (Fr.exc hv4.sz hE (fun j hj=>.inr (by subst hj;exact nbB)))
   have zR:bx<wr.heap.size:=Nat.lt_of_lt_of_le hvR.lt hvR.sz
   have znb:nb<wr.heap.size:=cell_lt y0
   clear hat HC hE hv4 hF4 e1' e2' n0 n1 n2 nf HN
   obtain ⟨hnx1,hsum,hnx,hall,hsz⟩:=HHY.out
   go_wp2_with (go_at_call 104;refine (sxPut_any B bx all (nx+1) _ _ false nd t.pos _ ⟨_,_,_,hvR⟩ (by simp;omega) (by simp;omega)).mono ?_;rintro e w9 ⟨rfl,h9,hF9⟩)
   exact bodyPost_end (v:=.tuple #[]) (by simp [results,Tryz.results168,go_sem]) rfl (by rw [HE.out];exact ⟨⟨nx+1,_,_,h9,HD1.out,(fun _=>⟨by simp,by simp⟩),by simp,by simp <;> omega⟩,hFR.trans hF9,by simp,rfl⟩)
theorem sxPart_noval (B bx:Nat) (all:List Tk) (f nx:Nat) (t:Tk) (r:List Tk) (out:Rd) (w:World) (hd:all.drop nx=t :: r) (hsum:out.length+(r.length+1)≤40000) (h:SxAt B bx all w nx (out.map Prod.fst) (out.map Prod.snd) false) (hk:t.kind=1) (h1:kindOfW t.text=1∨kindOfW t.text=7∨kindOfW t.text=13) (hn2:∀ n r2,r=n :: r2 → n.kind ≠ 2) :
  Calls Tryz.prog 168 #[.pointer (some ⟨bx,0,none⟩)] w (SPost B bx all w (t :: r) out (pPart (f+1) (t :: r) out)):=by
 have hy:isSymS (t :: r) ⟨#[40]⟩=false:=by simp [isSymS,hk]
 have hy':isSym (t :: r) 40=false:=by simp [isSym,hk]
 have HE:Hid (pPart (f+1) (t :: r) out=⟨true,r,out⟩):=(show _=_ by rw [pPart.eq_def];cases r with|nil=>simp [hy',hk,h1]|cons n r2=>simp [hy',hk,h1,hn2 n r2 rfl])
 have HN2:=Lib.hid hn2
 clear hn2
 have hkn:(nodeOf t.text).kind=kindOfW t.text:=rfl
 rw [← hkn] at h1
 clear hkn
 obtain ⟨nd,hnd0⟩:∃ nd,nodeOf t.text=nd:=⟨_,rfl⟩
 rw [hnd0] at h1
 have hgg:(nd.kind == 1)=true∨((nd.kind == 1)=false∧(nd.kind == 7)=true)∨((nd.kind == 1)=false∧(nd.kind == 7)=false∧(nd.kind == 13)=true):=by rcases h1 with h|h|h <;> simp [h]
 clear h1
 obtain ⟨hl,hget⟩:=drop_get hd
 obtain ⟨_,hd1⟩:=drop_cons hd
 obtain ⟨hb,hsz,hnx,hall,hok⟩:=h.facts
 have htok:=hok.drop nx
 rw [hd] at htok
 have HN:=Lib.hid ((resGo_node t.text (htok.head.word hk)).trans hnd0)
 clear hnd0
 have g1:(t.kind != 1)=false:=by simp [hk]
 have hne:((nx:Int) == all.length)=false:=by simp;omega
 have HG:=Lib.hid hget
 rw [← hd] at hy
 clear hget hk
 go_enter Tryz.func168,Tryz.ntmps168
 go_wp2_with (go_at_call 102;refine (sxIs_any B bx all _ _ _ _ _ _ h).mono ?_;rintro e w1 ⟨rfl,hb1⟩;rw [hy];have h1:=sxAt_below h hb1;obtain ⟨vt1,vn1,va1,hv1⟩:=id h1;obtain ⟨b1,o1,c1,rfl,hc1,t0,t1,t2⟩:=hv1.tk.get nx hl;rw [HG.out] at t0 t1 t2;have k0:=hv1.c0;have k1:=hv1.c1;have k4:=hv1.c4;have f4:=hv1.fz 4;have s4:=cell_lt k4)
 go_quiet (fail)
 go_wp2_with fail
 obtain ⟨W0,hW0⟩:∃ W0,W0=w1.drewN nq:=⟨_,rfl⟩
 rw [← hW0]
 have hb0:Below w1.heap.size w1 W0:=by rw [hW0];exact below_drewN (Below.refl _ _) _
 have hv0:=sx_below hv1 hb0
 replace t0:=cell_keep hb0 t0
 replace t1:=cell_keep hb0 t1
 replace t2:=cell_keep hb0 t2
 replace k0:=hv0.c0
 replace k1:=hv0.c1
 replace s4:bx<W0.heap.size:=cell_lt k1
 have s5:=cell_lt t0
 have hltI:(nx:Int)<all.length:=by omega
 clear k4 f4 hW0
 refine region_acts (C:=Exc (NoT) _) 9 [0,1,2,3,4,5,6,7,8,9,10,11] (by kernel_rfl) (by kernel_rfl) (Exc.grows _ _) (Exc.refl _ _) ?_
 iterate 10 (apply x_st rfl rfl rfl;(focus intro u hc' hf';go_simp <;> rfl);intro K hK;go_simp;apply hK;clear hK K)
 refine x_make rfl rfl rfl (Exc.grows _ _) (Exc.refl _ _) (fun b=>.pointer (some ⟨b,0,none⟩)) (fun K hK=>?_)
 apply Exists.intro
 refine ⟨fun w' hw'=>?_,fun bb w5 hw5 hb5 hbo hNb hnb=>?_⟩
 ·obtain ⟨hc',hf'⟩:=hw'.cell
  try simp only [World.size_drew] at hc' hf'
  go_simp
  rfl
 go_simp
 refine hK _ _ _ ?_
 clear hK K
 refine x_do rfl rfl rfl (Exc.grows _ _) hw5 (fun K hK=>?_)
 intro w6 hw6 hb6
 obtain ⟨m0,m1,m2⟩:=made_cell ((hb6.block bb (made_cell hbo).2.2).trans hbo)
 refine ⟨((w6.setCell ⟨bb,0,none⟩ (.int .i64 t.kind)).setCell ⟨bb,1,none⟩ (.string t.text)).setCell ⟨bb,2,none⟩ (.int .i64 t.pos),?_,⟨exc_set (exc_set (exc_set hw6 (.inl hNb) _) (.inl hNb) _) (.inl hNb) _,by simp,fun j _ hj _=>by rw [Below.heap_setCell _ _ _ _ (fun h=>hj (by simp [h])),Below.heap_setCell _ _ _ _ (fun h=>hj (by simp [h])),Below.heap_setCell _ _ _ _ (fun h=>hj (by simp [h]))]⟩,?_⟩
 ·go_simp
 go_simp
 refine hK _ _ _ ?_
 clear hK K
 refine x_nil ?_
 have hbb:W0.heap.size≤bb:=by simpa using hNb
 obtain ⟨W1,hW1⟩:∃ W1,W1=((w6.setCell ⟨bb,0,none⟩ (.int .i64 t.kind)).setCell ⟨bb,1,none⟩ (.string t.text)).setCell ⟨bb,2,none⟩ (.int .i64 t.pos):=⟨_,rfl⟩
 rw [← hW1]
 have hbW:Below W0.heap.size W0 W1:=by rw [hW1];exact ((((Below.refl _ W0).drew.trans (hw6.toBelow.mono (by simp))).setCell hbb _).setCell hbb _).setCell hbb _
 have e0:W1.cell? ⟨bb,0,none⟩=some (.int .i64 t.kind):=by rw [hW1];go_simp
 have e1:W1.cell? ⟨bb,1,none⟩=some (.string t.text):=by rw [hW1];go_simp
 have e2:W1.cell? ⟨bb,2,none⟩=some (.int .i64 t.pos):=by rw [hW1];go_simp
 clear hW1 hw6 hb6 m0 m1 m2 hw5 hb5 hbo hNb hnb t0 t1 t2 k0 k1
 have hvW:=sx_below hv0 hbW
 have k1:=hvW.c1
 have f1:=hvW.fz 1
 have s1:bx<W1.heap.size:=cell_lt k1
 have sb:bb<W1.heap.size:=cell_lt e0
 have nbx:¬ bb=bx:=by omega
 obtain ⟨q1,q2⟩:=sx_store (nx':=nx+1) (failed':=false) hvW 1 (.int .i64 ((nx+1:Nat):Int)) (.inl ⟨rfl,rfl,rfl,by omega⟩)
 have ecast:((nx+1:Nat):Int)=(nx:Int)+1:=by omega
 rw [ecast] at q1 q2
 clear ecast
 have hF1:Fr B bx w (W1.setCell ⟨bx,1,none⟩ (.int .i64 ((nx:Int)+1))):=(Fr.below hsz (hb1.trans ((hb0.trans (hbW.mono hb0.size)).mono hb1.size))).trans (Fr.exc hvW.sz q2 (fun k hk=>.inl hk))
 have hv2:=sx_below q1 (alloc_below _ (.cells #[.int .i64 17,.int .i64 0,.string t.text] 144))
 have hF2:=hF1.trans (Fr.below q1.sz (alloc_below _ (.cells #[.int .i64 17,.int .i64 0,.string t.text] 144)))
 have hlo:∀ j,vn1.ownBlock=some j∨va1.ownBlock=some j → j<W1.heap.size:=fun j hj=>by
  rcases hj with hj|hj
  ·have:=(World.ownsRow.lt q1.on j hj).2;simpa using this
  ·have:=(World.ownsRow.lt q1.oa j hj).2;simpa using this
 have hnx1:(nx:Int)+1≤40000:=by omega
 go_wp2_with (go_at_call 231;refine (lbReserved_any _).mono ?_;rintro e w4 ⟨n14,rfl,hn1,hn2,hst,hb4,hz4⟩)
 obtain ⟨nb,hnb⟩:∃ nb,nb=W1.heap.size:=⟨_,rfl⟩
 have n0:w4.cell? ⟨nb,0,none⟩=some (.int .i64 17):=by rw [hnb];exact cell_keep hb4 (by go_simp)
 have n1:w4.cell? ⟨nb,1,none⟩=some (.int .i64 0):=by rw [hnb];exact cell_keep hb4 (by go_simp)
 have n2:w4.cell? ⟨nb,2,none⟩=some (.string t.text):=by rw [hnb];exact cell_keep hb4 (by go_simp)
 have nf:∀ j,w4.frozen? ⟨nb,j,none⟩=false:=fun j=>by rw [hnb];exact (hb4.frozen (p:=⟨W1.heap.size,j,none⟩) (by simp)).trans (by go_simp)
 have e1':w4.cell? ⟨bb,1,none⟩=some (.string t.text):=cell_keep hb4 (by go_simp)
 have e2':w4.cell? ⟨bb,2,none⟩=some (.int .i64 t.pos):=cell_keep hb4 (by go_simp)
 have hv4:=sx_below hv2 hb4
 have hF4:=hF2.trans (Fr.below hv2.sz hb4)
 have nbB:B≤nb:=by rw [hnb];have:=hvW.sz;exact this
 have hlo4:∀ j,vn1.ownBlock=some j∨va1.ownBlock=some j → j<nb:=fun j hj=>by rw [hnb];exact hlo j hj
 have nbb:¬ bb=nb:=by omega
 have HLO:=Lib.hid hlo4
 have hres:W1.heap.size<W1.heap.size+1:=by omega
 obtain ⟨ra,rc,ha,hrc,hat⟩:=hst
 simp only [World.size_alloc,World.size_setCell,Value.slice.injEq] at ha
 obtain ⟨rfl,hn3,rfl⟩:=ha
 obtain rfl:n14=14:=by omega
 have hl14:reserved.length=14:=rfl
 try simp only [World.size_alloc,World.size_setCell]
 obtain ⟨rb,hrb⟩:∃ rb,rb=W1.heap.size+1:=⟨_,rfl⟩
 rw [← hrb,← hnb]
 rw [← hrb] at hat
 have nrb:¬ rb=nb:=by omega
 clear hn3 hrb hnb hres hv2 hF2 hF1 q1 q2 hb4 hz4 hlo hlo4 hvW hv0 hv1 hb0 hbW hn1 hn2 hrc e0 e1 e2 k1 f1 s1 sb h1
 have HD1:=Lib.hid hd1
 have HHY:=Lib.hid (And.intro hnx1 (And.intro hsum (And.intro hnx (And.intro hall hsz))))
 clear hd hy hy' hd1 hok htok hne hltI hnx1 hsum hnx hall hsz
 go_loopw [73] (fun i wr=>∃ (k:Nat) (n:Nd),k≤14∧i=.int .i64 k∧wr.cell? ⟨nb,0,none⟩=some (.int .i64 n.kind)∧wr.cell? ⟨nb,1,none⟩=some (.int .i64 n.value)∧wr.cell? ⟨nb,2,none⟩=some (.string n.name)∧(∀ j,wr.frozen? ⟨nb,j,none⟩=false)∧Hid (nd=resGo t.text (reserved.drop k) k n)∧Exc (fun j=>j=nb) w4 wr) (fun i _=>14 - (intOf i).toNat)
 case atStart=>exact ⟨0,⟨17,0,t.text⟩,by omega,rfl,n0,n1,n2,nf,HN.out.symm,Exc.refl _ _⟩
 case round =>
  obtain ⟨k,n,hk14,rfl,y0,y1,y2,yf,HC,hE⟩:=hrel
  have z4:=hE.size
  have yb1:wr.cell? ⟨bb,1,none⟩=some (.string t.text):=(hE.cell.1 bb 1 (cell_lt e1') nbb).trans e1'
  have yb2:wr.cell? ⟨bb,2,none⟩=some (.int .i64 t.pos):=(hE.cell.1 bb 2 (cell_lt e1') nbb).trans e2'
  have yf0:=yf 0
  have yf1:=yf 1
  have yf2:=yf 2
  by_cases hlt:k<14
  ·obtain ⟨b,o,hbo,_,hnd⟩:=hat k (by omega)
   simp only [Option.some.injEq,Addr.mk.injEq] at hbo
   obtain ⟨rfl,rfl,_⟩:=hbo
   have c0:=(hE.cell.1 _ _ (cell_lt hnd) nrb).trans hnd
   simp only [Nat.zero_add,Nat.mul_one] at c0
   clear hat hnd
   have hkl:k<reserved.length:=by omega
   by_cases he:reserved[k]=t.text
   ·have g2:(reserved[k].toList == t.text.toList)=true:=by rw [str_beq];simp [he]
    have HC2:Hid (nd=resGo t.text (reserved.drop (k+1)) (k+1) ⟨(k:Int)+1,0,⟨#[]⟩⟩):=(show _=_ by rw [HC.out,List.drop_eq_getElem_cons hkl,resGo,if_pos he])
    have hE2:Exc (fun j=>j=nb) w4 (((wr.setCell ⟨nb,0,none⟩ (.int .i64 ((k:Int)+1))).setCell ⟨nb,1,none⟩ (.int .i64 0)).setCell ⟨nb,2,none⟩ (.string ⟨#[]⟩)):=exc_set (exc_set (exc_set hE (.inr rfl) _) (.inr rfl) _) (.inr rfl) _
    clear he HC
    go_wp2
    go_roundw
    case rel=>exact ⟨k+1,⟨(k:Int)+1,0,⟨#[]⟩⟩,by omega,by go_num,by go_simp,by go_simp,by go_simp,fun j=>by simpa using yf j,HC2,hE2⟩
    case measure=>simp [intOf];omega
   ·have g2:(reserved[k].toList == t.text.toList)=false:=by rw [str_beq];simp [he]
    have HC2:Hid (nd=resGo t.text (reserved.drop (k+1)) (k+1) n):=(show _=_ by rw [HC.out,List.drop_eq_getElem_cons hkl,resGo,if_neg he])
    clear he HC
    go_wp2
    go_roundw
    case rel=>exact ⟨k+1,n,by omega,by go_num,y0,y1,y2,yf,HC2,hE⟩
    case measure=>simp [intOf];omega
  ·obtain rfl:k=14:=by omega
   have hn:nd=n:=by rw [HC.out];rfl
   subst hn
   have hvR:=sx_exc hv4 hE (fun j hj=>by subst hj;exact ⟨nbB,fun e=>by have:=HLO.out _ (.inl e);omega,fun e=>by have:=HLO.out _ (.inr e);omega⟩)
   have hFR:=hF4.trans (Fr.exc hv4.sz hE (fun j hj=>.inr (by subst hj;exact nbB)))
   have zR:bx<wr.heap.size:=Nat.lt_of_lt_of_le hvR.lt hvR.sz
   have znb:nb<wr.heap.size:=cell_lt y0
   clear hat HC hE hv4 hF4 e1' e2' n0 n1 n2 nf HN
   obtain ⟨hnx1,hsum,hnx,hall,hsz⟩:=HHY.out
   have hd1:=HD1.out
   clear hnx1 hnx
   obtain ⟨m,hm⟩:∃ m,nx+1=m:=⟨_,rfl⟩
   rw [hm] at hvR hd1
   have HM:=Lib.hid hm
   clear hm HHY HD1
   have k0:=hvR.c0
   have k1:=hvR.c1
   have k4:=hvR.c4
   have f4:=hvR.fz 4
   have hlen:=hvR.len
   have hFIN:∀ nq,SPost B bx all w (t :: r) out (pPart (f+1) (t :: r) out) (.returned (.tuple #[])) ((wr.drewN nq).setCell ⟨bx,4,none⟩ (.bool true)):=fun nq=>by
    have h2:=sx_below hvR (below_drewN (Below.refl wr.heap.size wr) nq)
    obtain ⟨h3,hF3⟩:=sx_fail ⟨_,_,_,h2⟩
    rw [HE.out]
    exact ⟨⟨m,_,_,h3,hd1,(fun hh=>by cases hh),by simp,by simp⟩,(hFR.trans (Fr.below hvR.sz (below_drewN (Below.refl wr.heap.size wr) nq))).trans hF3,by simp,rfl⟩
   have hrr:m=all.length∨∃ (hl1:m<all.length),(all[m].kind != 2)=true:=by
    cases hr:r with
    | nil=>rw [hr] at hd1;exact .inl (by have h7:=congrArg List.length hd1;have h8:=hvR.nx;simp at h7;omega)
    | cons n r2 =>
     rw [hr] at hd1
     obtain ⟨hl1,hg1⟩:=drop_get hd1
     exact .inr ⟨hl1,by rw [hg1];simpa using HN2.out n r2 hr⟩
   have HFIN:=Lib.hid hFIN
   rcases hrr with rfl|⟨hl1,g2⟩
   ·rcases hgg with v1|⟨v1,v2⟩|⟨v1,v2,v3⟩
    all_goals
     clear hFIN hd1 hsum
     go_wp2_with fail
     go_quiet (fail)
     go_wp2
     exact bodyPost_ret (v:=.tuple #[]) (by simp [results,Tryz.results168,go_sem]) rfl (HFIN.out _)
   ·obtain ⟨b2,o2,c2,he2,hc2,j0,j1,j2⟩:=hvR.tk.get m hl1
    simp only [Value.slice.injEq,Option.some.injEq,Addr.mk.injEq] at he2
    obtain ⟨⟨rfl,rfl,_⟩,_,rfl⟩:=he2
    have hne2:((m:Int) == all.length)=false:=by simp;omega
    have hltm:(m:Int)<all.length:=by omega
    rcases hgg with v1|⟨v1,v2⟩|⟨v1,v2,v3⟩
    all_goals
     clear hFIN hd1 hsum
     go_wp2_with fail
     go_quiet (fail)
     go_wp2
     exact bodyPost_ret (v:=.tuple #[]) (by simp [results,Tryz.results168,go_sem]) rfl (HFIN.out _)
theorem sxPart_val (B bx:Nat) (all:List Tk) (f nx:Nat) (t:Tk) (n:Tk) (r:List Tk) (out:Rd) (w:World) (hd:all.drop nx=t :: n :: r) (hsum:out.length+(r.length+1+1)≤40000) (h:SxAt B bx all w nx (out.map Prod.fst) (out.map Prod.snd) false) (hk:t.kind=1) (h1:kindOfW t.text=1∨kindOfW t.text=7∨kindOfW t.text=13) (hn2:n.kind=2) :
  Calls Tryz.prog 168 #[.pointer (some ⟨bx,0,none⟩)] w (SPost B bx all w (t :: n :: r) out (pPart (f+1) (t :: n :: r) out)):=by
 have hy:isSymS (t :: n :: r) ⟨#[40]⟩=false:=by simp [isSymS,hk]
 have hy':isSym (t :: n :: r) 40=false:=by simp [isSym,hk]
 have HE:Hid (pPart (f+1) (t :: n :: r) out=⟨false,r,out ++ [(⟨kindOfW t.text,numV n.text,⟨#[]⟩⟩,t.pos)]⟩):=(show _=_ by rw [pPart.eq_def];simp [hy',hk,h1,hn2])
 have hnd1:(⟨kindOfW t.text,numV n.text,⟨#[]⟩⟩:Nd)=⟨(nodeOf t.text).kind,numV n.text,(nodeOf t.text).name⟩:=by
  have h17:kindOfW t.text ≠ 17:=by omega
  simp [nodeOf,h17]
 rw [hnd1] at HE
 clear hnd1
 have hkn:(nodeOf t.text).kind=kindOfW t.text:=rfl
 rw [← hkn] at h1
 clear hkn
 obtain ⟨nd,hnd0⟩:∃ nd,nodeOf t.text=nd:=⟨_,rfl⟩
 rw [hnd0] at h1 HE
 have hgg:(nd.kind == 1)=true∨((nd.kind == 1)=false∧(nd.kind == 7)=true)∨((nd.kind == 1)=false∧(nd.kind == 7)=false∧(nd.kind == 13)=true):=by rcases h1 with h|h|h <;> simp [h]
 clear h1
 obtain ⟨hl,hget⟩:=drop_get hd
 obtain ⟨_,hd1⟩:=drop_cons hd
 obtain ⟨hb,hsz,hnx,hall,hok⟩:=h.facts
 have htok:=hok.drop nx
 rw [hd] at htok
 have hnum:=htok.tail.head.num hn2
 have HN:=Lib.hid ((resGo_node t.text (htok.head.word hk)).trans hnd0)
 clear hnd0
 have g1:(t.kind != 1)=false:=by simp [hk]
 have hne:((nx:Int) == all.length)=false:=by simp;omega
 have HG:=Lib.hid hget
 rw [← hd] at hy
 clear hget hk
 go_enter Tryz.func168,Tryz.ntmps168
 go_wp2_with (go_at_call 102;refine (sxIs_any B bx all _ _ _ _ _ _ h).mono ?_;rintro e w1 ⟨rfl,hb1⟩;rw [hy];have h1:=sxAt_below h hb1;obtain ⟨vt1,vn1,va1,hv1⟩:=id h1;obtain ⟨b1,o1,c1,rfl,hc1,t0,t1,t2⟩:=hv1.tk.get nx hl;rw [HG.out] at t0 t1 t2;have k0:=hv1.c0;have k1:=hv1.c1;have k4:=hv1.c4;have f4:=hv1.fz 4;have s4:=cell_lt k4)
 go_quiet (fail)
 go_wp2_with fail
 obtain ⟨W0,hW0⟩:∃ W0,W0=w1.drewN nq:=⟨_,rfl⟩
 rw [← hW0]
 have hb0:Below w1.heap.size w1 W0:=by rw [hW0];exact below_drewN (Below.refl _ _) _
 have hv0:=sx_below hv1 hb0
 replace t0:=cell_keep hb0 t0
 replace t1:=cell_keep hb0 t1
 replace t2:=cell_keep hb0 t2
 replace k0:=hv0.c0
 replace k1:=hv0.c1
 replace s4:bx<W0.heap.size:=cell_lt k1
 have s5:=cell_lt t0
 have hltI:(nx:Int)<all.length:=by omega
 clear k4 f4 hW0
 refine region_acts (C:=Exc (NoT) _) 9 [0,1,2,3,4,5,6,7,8,9,10,11] (by kernel_rfl) (by kernel_rfl) (Exc.grows _ _) (Exc.refl _ _) ?_
 iterate 10 (apply x_st rfl rfl rfl;(focus intro u hc' hf';go_simp <;> rfl);intro K hK;go_simp;apply hK;clear hK K)
 refine x_make rfl rfl rfl (Exc.grows _ _) (Exc.refl _ _) (fun b=>.pointer (some ⟨b,0,none⟩)) (fun K hK=>?_)
 apply Exists.intro
 refine ⟨fun w' hw'=>?_,fun bb w5 hw5 hb5 hbo hNb hnb=>?_⟩
 ·obtain ⟨hc',hf'⟩:=hw'.cell
  try simp only [World.size_drew] at hc' hf'
  go_simp
  rfl
 go_simp
 refine hK _ _ _ ?_
 clear hK K
 refine x_do rfl rfl rfl (Exc.grows _ _) hw5 (fun K hK=>?_)
 intro w6 hw6 hb6
 obtain ⟨m0,m1,m2⟩:=made_cell ((hb6.block bb (made_cell hbo).2.2).trans hbo)
 refine ⟨((w6.setCell ⟨bb,0,none⟩ (.int .i64 t.kind)).setCell ⟨bb,1,none⟩ (.string t.text)).setCell ⟨bb,2,none⟩ (.int .i64 t.pos),?_,⟨exc_set (exc_set (exc_set hw6 (.inl hNb) _) (.inl hNb) _) (.inl hNb) _,by simp,fun j _ hj _=>by rw [Below.heap_setCell _ _ _ _ (fun h=>hj (by simp [h])),Below.heap_setCell _ _ _ _ (fun h=>hj (by simp [h])),Below.heap_setCell _ _ _ _ (fun h=>hj (by simp [h]))]⟩,?_⟩
 ·go_simp
 go_simp
 refine hK _ _ _ ?_
 clear hK K
 refine x_nil ?_
 have hbb:W0.heap.size≤bb:=by simpa using hNb
 obtain ⟨W1,hW1⟩:∃ W1,W1=((w6.setCell ⟨bb,0,none⟩ (.int .i64 t.kind)).setCell ⟨bb,1,none⟩ (.string t.text)).setCell ⟨bb,2,none⟩ (.int .i64 t.pos):=⟨_,rfl⟩
 rw [← hW1]
 have hbW:Below W0.heap.size W0 W1:=by rw [hW1];exact ((((Below.refl _ W0).drew.trans (hw6.toBelow.mono (by simp))).setCell hbb _).setCell hbb _).setCell hbb _
 have e0:W1.cell? ⟨bb,0,none⟩=some (.int .i64 t.kind):=by rw [hW1];go_simp
 have e1:W1.cell? ⟨bb,1,none⟩=some (.string t.text):=by rw [hW1];go_simp
 have e2:W1.cell? ⟨bb,2,none⟩=some (.int .i64 t.pos):=by rw [hW1];go_simp
 clear hW1 hw6 hb6 m0 m1 m2 hw5 hb5 hbo hNb hnb t0 t1 t2 k0 k1
 have hvW:=sx_below hv0 hbW
 have k1:=hvW.c1
 have f1:=hvW.fz 1
 have s1:bx<W1.heap.size:=cell_lt k1
 have sb:bb<W1.heap.size:=cell_lt e0
 have nbx:¬ bb=bx:=by omega
 obtain ⟨q1,q2⟩:=sx_store (nx':=nx+1) (failed':=false) hvW 1 (.int .i64 ((nx+1:Nat):Int)) (.inl ⟨rfl,rfl,rfl,by omega⟩)
 have ecast:((nx+1:Nat):Int)=(nx:Int)+1:=by omega
 rw [ecast] at q1 q2
 clear ecast
 have hF1:Fr B bx w (W1.setCell ⟨bx,1,none⟩ (.int .i64 ((nx:Int)+1))):=(Fr.below hsz (hb1.trans ((hb0.trans (hbW.mono hb0.size)).mono hb1.size))).trans (Fr.exc hvW.sz q2 (fun k hk=>.inl hk))
 have hv2:=sx_below q1 (alloc_below _ (.cells #[.int .i64 17,.int .i64 0,.string t.text] 144))
 have hF2:=hF1.trans (Fr.below q1.sz (alloc_below _ (.cells #[.int .i64 17,.int .i64 0,.string t.text] 144)))
 have hlo:∀ j,vn1.ownBlock=some j∨va1.ownBlock=some j → j<W1.heap.size:=fun j hj=>by
  rcases hj with hj|hj
  ·have:=(World.ownsRow.lt q1.on j hj).2;simpa using this
  ·have:=(World.ownsRow.lt q1.oa j hj).2;simpa using this
 have hnx1:(nx:Int)+1≤40000:=by omega
 go_wp2_with (go_at_call 231;refine (lbReserved_any _).mono ?_;rintro e w4 ⟨n14,rfl,hn1,hn2,hst,hb4,hz4⟩)
 obtain ⟨nb,hnb⟩:∃ nb,nb=W1.heap.size:=⟨_,rfl⟩
 have n0:w4.cell? ⟨nb,0,none⟩=some (.int .i64 17):=by rw [hnb];exact cell_keep hb4 (by go_simp)
 have n1:w4.cell? ⟨nb,1,none⟩=some (.int .i64 0):=by rw [hnb];exact cell_keep hb4 (by go_simp)
 have n2:w4.cell? ⟨nb,2,none⟩=some (.string t.text):=by rw [hnb];exact cell_keep hb4 (by go_simp)
 have nf:∀ j,w4.frozen? ⟨nb,j,none⟩=false:=fun j=>by rw [hnb];exact (hb4.frozen (p:=⟨W1.heap.size,j,none⟩) (by simp)).trans (by go_simp)
 have e1':w4.cell? ⟨bb,1,none⟩=some (.string t.text):=cell_keep hb4 (by go_simp)
 have e2':w4.cell? ⟨bb,2,none⟩=some (.int .i64 t.pos):=cell_keep hb4 (by go_simp)
 have hv4:=sx_below hv2 hb4
 have hF4:=hF2.trans (Fr.below hv2.sz hb4)
 have nbB:B≤nb:=by rw [hnb];have:=hvW.sz;exact this
 have hlo4:∀ j,vn1.ownBlock=some j∨va1.ownBlock=some j → j<nb:=fun j hj=>by rw [hnb];exact hlo j hj
 have nbb:¬ bb=nb:=by omega
 have HLO:=Lib.hid hlo4
 have hres:W1.heap.size<W1.heap.size+1:=by omega
 obtain ⟨ra,rc,ha,hrc,hat⟩:=hst
 simp only [World.size_alloc,World.size_setCell,Value.slice.injEq] at ha
 obtain ⟨rfl,hn3,rfl⟩:=ha
 obtain rfl:n14=14:=by omega
 have hl14:reserved.length=14:=rfl
 try simp only [World.size_alloc,World.size_setCell]
 obtain ⟨rb,hrb⟩:∃ rb,rb=W1.heap.size+1:=⟨_,rfl⟩
 rw [← hrb,← hnb]
 rw [← hrb] at hat
 have nrb:¬ rb=nb:=by omega
 clear hn3 hrb hnb hres hv2 hF2 hF1 q1 q2 hb4 hz4 hlo hlo4 hvW hv0 hv1 hb0 hbW hn1 hn2 hrc e0 e1 e2 k1 f1 s1 sb h1
 have HD1:=Lib.hid hd1
 have HHY:=Lib.hid (And.intro hnx1 (And.intro hsum (And.intro hnx (And.intro hall hsz))))
 clear hd hy hy' hd1 hok htok hne hltI hnx1 hsum hnx hall hsz
 go_loopw [73] (fun i wr=>∃ (k:Nat) (n:Nd),k≤14∧i=.int .i64 k∧wr.cell? ⟨nb,0,none⟩=some (.int .i64 n.kind)∧wr.cell? ⟨nb,1,none⟩=some (.int .i64 n.value)∧wr.cell? ⟨nb,2,none⟩=some (.string n.name)∧(∀ j,wr.frozen? ⟨nb,j,none⟩=false)∧Hid (nd=resGo t.text (reserved.drop k) k n)∧Exc (fun j=>j=nb) w4 wr) (fun i _=>14 - (intOf i).toNat)
 case atStart=>exact ⟨0,⟨17,0,t.text⟩,by omega,rfl,n0,n1,n2,nf,HN.out.symm,Exc.refl _ _⟩
 case round =>
  obtain ⟨k,n,hk14,rfl,y0,y1,y2,yf,HC,hE⟩:=hrel
  have z4:=hE.size
  have yb1:wr.cell? ⟨bb,1,none⟩=some (.string t.text):=(hE.cell.1 bb 1 (cell_lt e1') nbb).trans e1'
  have yb2:wr.cell? ⟨bb,2,none⟩=some (.int .i64 t.pos):=(hE.cell.1 bb 2 (cell_lt e1') nbb).trans e2'
  have yf0:=yf 0
  have yf1:=yf 1
  have yf2:=yf 2
  by_cases hlt:k<14
  ·obtain ⟨b,o,hbo,_,hnd⟩:=hat k (by omega)
   simp only [Option.some.injEq,Addr.mk.injEq] at hbo
   obtain ⟨rfl,rfl,_⟩:=hbo
   have c0:=(hE.cell.1 _ _ (cell_lt hnd) nrb).trans hnd
   simp only [Nat.zero_add,Nat.mul_one] at c0
   clear hat hnd
   have hkl:k<reserved.length:=by omega
   by_cases he:reserved[k]=t.text
   ·have g2:(reserved[k].toList == t.text.toList)=true:=by rw [str_beq];simp [he]
    have HC2:Hid (nd=resGo t.text (reserved.drop (k+1)) (k+1) ⟨(k:Int)+1,0,⟨#[]⟩⟩):=(show _=_ by rw [HC.out,List.drop_eq_getElem_cons hkl,resGo,if_pos he])
    have hE2:Exc (fun j=>j=nb) w4 (((wr.setCell ⟨nb,0,none⟩ (.int .i64 ((k:Int)+1))).setCell ⟨nb,1,none⟩ (.int .i64 0)).setCell ⟨nb,2,none⟩ (.string ⟨#[]⟩)):=exc_set (exc_set (exc_set hE (.inr rfl) _) (.inr rfl) _) (.inr rfl) _
    clear he HC
    go_wp2
    go_roundw
    case rel=>exact ⟨k+1,⟨(k:Int)+1,0,⟨#[]⟩⟩,by omega,by go_num,by go_simp,by go_simp,by go_simp,fun j=>by simpa using yf j,HC2,hE2⟩
    case measure=>simp [intOf];omega
   ·have g2:(reserved[k].toList == t.text.toList)=false:=by rw [str_beq];simp [he]
    have HC2:Hid (nd=resGo t.text (reserved.drop (k+1)) (k+1) n):=(show _=_ by rw [HC.out,List.drop_eq_getElem_cons hkl,resGo,if_neg he])
    clear he HC
    go_wp2
    go_roundw
    case rel=>exact ⟨k+1,n,by omega,by go_num,y0,y1,y2,yf,HC2,hE⟩
    case measure=>simp [intOf];omega
  ·obtain rfl:k=14:=by omega
   have hn:nd=n:=by rw [HC.out];rfl
   subst hn
   have hvR:=sx_exc hv4 hE (fun j hj=>by subst hj;exact ⟨nbB,fun e=>by have:=HLO.out _ (.inl e);omega,fun e=>by have:=HLO.out _ (.inr e);omega⟩)
   have hFR:=hF4.trans (Fr.exc hv4.sz hE (fun j hj=>.inr (by subst hj;exact nbB)))
   have zR:bx<wr.heap.size:=Nat.lt_of_lt_of_le hvR.lt hvR.sz
   have znb:nb<wr.heap.size:=cell_lt y0
   clear hat HC hE hv4 hF4 e1' e2' n0 n1 n2 nf HN
   obtain ⟨hnx1,hsum,hnx,hall,hsz⟩:=HHY.out
   have hd1:=HD1.out
   clear hnx1 hnx
   obtain ⟨m,hm⟩:∃ m,nx+1=m:=⟨_,rfl⟩
   rw [hm] at hvR hd1
   clear hm HHY HD1
   obtain ⟨hl1,hg1⟩:=drop_get hd1
   have hd2:=(drop_cons hd1).2
   have k0:=hvR.c0
   have k1:=hvR.c1
   have hlen:=hvR.len
   obtain ⟨b2,o2,c2,he2,hc2,j0,j1,j2⟩:=hvR.tk.get m hl1
   simp only [Value.slice.injEq,Option.some.injEq,Addr.mk.injEq] at he2
   obtain ⟨⟨rfl,rfl,_⟩,_,rfl⟩:=he2
   rw [hg1] at j0 j1 j2
   have hne2:((m:Int) == all.length)=false:=by simp;omega
   have hltm:(m:Int)<all.length:=by omega
   have g2:(n.kind != 2)=false:=by simp [hn2]
   have hnbx:¬ bx=nb:=by have:=hvR.lt;omega
   have hb1nb:¬ b1=nb:=by have:=hvR.low b1 o1 _ _ rfl;omega
   have zb1:=cell_lt j0
   have HX:=Lib.hid (And.intro hd2 (And.intro hsum hg1))
   have HNU:=Lib.hid hnum
   clear hd1 hd2 hsum hg1 hn2 hnum
   rcases hgg with v1|⟨v1,v2⟩|⟨v1,v2,v3⟩
   all_goals
    go_wp2_with fail
    go_quiet (fail)
    go_wp2_with fail
    obtain ⟨W8,hW8⟩:∃ W8,W8=wr.drewN nq:=⟨_,rfl⟩
    rw [← hW8]
    have hb8:Below wr.heap.size wr W8:=by rw [hW8];exact below_drewN (Below.refl _ _) _
    have hv8:=sx_below hvR hb8
    replace j0:=cell_keep hb8 j0
    replace j1:=cell_keep hb8 j1
    replace k0:=hv8.c0
    replace k1:=hv8.c1
    replace y0:=cell_keep hb8 y0
    replace y1:=cell_keep hb8 y1
    replace y2:=cell_keep hb8 y2
    replace yb2:=cell_keep hb8 yb2
    replace yf1:=(hb8.frozen (p:=⟨nb,1,none⟩) (by simpa using znb)).trans yf1
    replace zR:bx<W8.heap.size:=cell_lt k1
    replace znb:nb<W8.heap.size:=cell_lt y0
    replace zb1:b1<W8.heap.size:=cell_lt j0
    have zbb:bb<W8.heap.size:=cell_lt yb2
    have hF8:=hFR.trans (Fr.below hvR.sz hb8)
    clear hW8 hb8 hvR hFR j2 yb1 yf0 yf2 yf
    refine region_acts (C:=Exc ((fun j=>j=nb)) _) 9 [0,1,2,3,4,5,6,7,8,9,10,11,12,13] (by kernel_rfl) (by kernel_rfl) (Exc.grows _ _) (Exc.refl _ _) ?_
    iterate 11 (apply x_sT rfl rfl rfl;(focus intro u hc' hf';(try simp only [World.size_drew] at hc' hf');go_simp <;> rfl);intro K hK;go_simp;apply hK;clear hK K)
    refine x_call rfl rfl rfl (Exc.grows _ _) (Exc.refl _ _) 101 (fun K hK=>?_);apply Exists.intro;refine ⟨fun w' hw'=>?_,fun w' hw' hbw=>?_⟩;(focus go_simp;rfl);refine (l1Read_any n.text _ HNU.out.2.1 (by have:=HNU.out.2.2.1;omega) HNU.out.1).mono ?_;rintro e w6 ⟨rfl,rfl⟩;refine ⟨_,rfl,Below.refl _ _,fun hx=>?_⟩;go_simp;apply hK;clear hK K
    rw [HNU.out.2.2.2]
    iterate 1 (apply x_sT rfl rfl rfl;(focus intro u hc' hf';(try simp only [World.size_drew] at hc' hf');go_simp <;> rfl);intro K hK;go_simp;apply hK;clear hK K)
    refine x_do rfl rfl rfl (Exc.grows _ _) hx (fun K hK=>?_)
    intro w9 hw9 hb9
    have hb89:Below W8.heap.size W8 w9:=(Below.refl _ W8).drew.trans ((hbw.trans (hb9.mono hbw.size)).mono (by simp))
    have u1:=cell_keep hb89 y1
    have uf:w9.frozen? ⟨nb,1,none⟩=false:=(hb89.frozen (p:=⟨nb,1,none⟩) (by simpa using znb)).trans yf1
    have uz:=cell_lt u1
    refine ⟨w9.setCell ⟨nb,1,none⟩ (.int .i64 (numV n.text)),?_,⟨exc_set hw9 (.inr rfl) _,by simp,fun j hj _ _=>by rw [Below.heap_setCell _ _ _ _ (by show ¬ _=_;intro hh;simp only [World.size_drew] at hj hh;omega)]⟩,?_⟩
    ·go_simp
    go_simp
    refine hK _ _ _ ?_
    clear hK K
    refine x_nil ?_
    obtain ⟨W9,hW9⟩:∃ W9,W9=w9.setCell ⟨nb,1,none⟩ (.int .i64 (numV n.text)):=⟨_,rfl⟩
    rw [← hW9]
    have hE9:Exc (fun j=>j=nb) W8 W9:=by rw [hW9];exact exc_set (T:=fun j=>j=nb) (Below.exc hb89) (.inr rfl) _
    have hv9:=sx_exc hv8 hE9 (fun j hj=>by subst hj;exact ⟨nbB,fun e=>by have:=HLO.out _ (.inl e);omega,fun e=>by have:=HLO.out _ (.inr e);omega⟩)
    have hF9:=hF8.trans (Fr.exc hv8.sz hE9 (fun j hj=>.inr (by subst hj;exact nbB)))
    have x0:W9.cell? ⟨nb,0,none⟩=some (.int .i64 nd.kind):=by rw [hW9];have:=cell_keep hb89 y0;go_simp
    have x1:W9.cell? ⟨nb,1,none⟩=some (.int .i64 (numV n.text)):=by rw [hW9];go_simp
    have x2:W9.cell? ⟨nb,2,none⟩=some (.string nd.name):=by rw [hW9];have:=cell_keep hb89 y2;go_simp
    have xb2:W9.cell? ⟨bb,2,none⟩=some (.int .i64 t.pos):=(hE9.cell.1 bb 2 zbb nbb).trans yb2
    obtain ⟨h10,hF10⟩:=sx_next ⟨_,_,_,hv9⟩ hl1
    have k9:=hv9.c1
    have f9:=hv9.fz 1
    have z9:bx<W9.heap.size:=cell_lt k9
    have hm1:(m:Int)+1≤40000:=by omega
    have hnn:¬ nb=bx:=fun e=>hnbx e.symm
    clear hW9 hE9 hw9 hb9 hb89 u1 uf uz hx hw' hbw y0 y1 y2 yb2 yf1 j0 j1 k0 k1 hv8 hF8 v1
    go_wp2_with (go_at_call 104;refine (sxPut_any B bx all (m+1) _ _ false ⟨nd.kind,numV n.text,nd.name⟩ t.pos _ h10 (by have:=HX.out.2.1;simp;omega) (by have:=HX.out.2.1;simp;omega)).mono ?_;rintro e w11 ⟨rfl,h11,hF11⟩)
    exact bodyPost_end (v:=.tuple #[]) (by simp [results,Tryz.results168,go_sem]) rfl (by rw [HE.out];exact ⟨⟨m+1,_,_,h11,HX.out.1,(fun _=>⟨by simp,by simp⟩),by simp,by simp <;> omega⟩,(hF9.trans hF10).trans hF11,by simp <;> omega,rfl⟩)
end Go.Proofs.YtbljmfcifljkaaaGreatDoor
