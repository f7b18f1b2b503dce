/-
  The walk of lbScan. Own work.
-/
import Derived.Test.YtbljmfcifljkaaaGreatDoorYF
import Derived.Test.YtbljmfcifljkaaaGreatDoorYA
import Derived.Test.YtbljmfcifljkaaaGreatDoorYB
set_option linter.all false
set_option maxRecDepth 100000
set_option maxHeartbeats 8000000
namespace Go.Proofs.YtbljmfcifljkaaaGreatDoor
open Go.RowKit
def resS (w:World) (v:Value):World:=(w.alloc (.cells #[v] 30)).alloc (.cells #[.slice none 0 0,.slice none 0 0,.slice none 0 0] 283)
def FrOk (ns:List Nd) (X:List (Nat × W2)):Prop:=∀ i x,X[i]?=some x → ∃ n:Nd,ns[i]?=some n∧((¬ (n.kind=15∨n.kind=16)∧x.1=i)∨((n.kind=15∨n.kind=16)∧∃ f g tb ta,X[i - 1]?=some (f,tb)∧1≤i∧X[f - 1]?=some (g,ta)∧x.1=g))
theorem fr_more {ns:List Nd} {X:List (Nat × W2)} (h:FrOk ns X) (y:Nat × W2) (hy:∃ n:Nd,ns[X.length]?=some n∧((¬ (n.kind=15∨n.kind=16)∧y.1=X.length)∨((n.kind=15∨n.kind=16)∧∃ f g tb ta,X[X.length - 1]?=some (f,tb)∧1≤X.length∧X[f - 1]?=some (g,ta)∧y.1=g))):FrOk ns (X ++ [y]):=by
 have up:∀ {j:Nat} {z:Nat × W2},X[j]?=some z → (X ++ [y])[j]?=some z:=fun {j z} hz=>by
  have hj:j<X.length:=(List.getElem?_eq_some_iff.1 hz).1
  rw [List.getElem?_append_left hj];exact hz
 intro i x hx
 rcases Nat.lt_or_ge i X.length with hi|hi
 ·rw [List.getElem?_append_left hi] at hx
  obtain ⟨n,h1,h2⟩:=h i x hx
  refine ⟨n,h1,h2.imp id ?_⟩
  rintro ⟨h3,f,g,tb,ta,h4,h5,h6,h7⟩
  exact ⟨h3,f,g,tb,ta,up h4,h5,up h6,h7⟩
 ·have hi2:i=X.length:=by
   have:=(List.getElem?_eq_some_iff.1 hx).1
   simp at this
   omega
  subst hi2
  rw [List.getElem?_append_right (Nat.le_refl _)] at hx
  simp at hx
  subst hx
  obtain ⟨n,h1,h2⟩:=hy
  refine ⟨n,h1,h2.imp id ?_⟩
  rintro ⟨h3,f,g,tb,ta,h4,h5,h6,h7⟩
  exact ⟨h3,f,g,tb,ta,up h4,h5,up h6,h7⟩
theorem fr_leaf {ns:List Nd} {X:List (Nat × W2)} (h:FrOk ns X) (hl:X.length<ns.length) (hk:¬ (ns[X.length].kind=15∨ns[X.length].kind=16)) (t:W2):FrOk ns (X ++ [(X.length,t)]) :=
 fr_more h _ ⟨_,List.getElem?_eq_getElem hl,.inl ⟨hk,rfl⟩⟩
theorem fr_join {ns:List Nd} {X:List (Nat × W2)} {f g:Nat} {tb ta:W2} (h:FrOk ns X) (hl:X.length<ns.length) (hk:ns[X.length].kind=15∨ns[X.length].kind=16) (h1:X[X.length - 1]?=some (f,tb)) (h2:X[f - 1]?=some (g,ta)) (t:W2):FrOk ns (X ++ [(g,t)]) :=
 fr_more h _ ⟨_,List.getElem?_eq_getElem hl,.inr ⟨hk,f,g,tb,ta,h1,by have:=(List.getElem?_eq_some_iff.1 h1).1;omega,h2,rfl⟩⟩
structure ScSt (L:List Df) (ns:List Nd) (w wr:World) (v v0 v1 v2:Value) (X:List (Nat × W2)) (st:List W2):Prop where
 bel:Below (w.heap.size+1+1) (resS w v) wr
 rows:Rows3 wr (w.heap.size+1+1+1) (w.heap.size+1+1) v0 v1 v2 (X.map fun p=>(p.1:Int)) (X.map fun p=>p.2.1) (X.map fun p=>p.2.2)
 ch:Chain X st
 go:Hid (typedGo (leafIn L) ns []=typedGo (leafIn L) (ns.drop X.length) st)
 sm:∀ x ∈ st,Sm x
 fr:FrOk ns X
theorem ScSt.facts {L:List Df} {ns:List Nd} {w wr:World} {v v0 v1 v2:Value} {X:List (Nat × W2)} {st:List W2} (h:ScSt L ns w wr v v0 v1 v2 X st) :
  Below w.heap.size w wr∧w.heap.size+1+1<wr.heap.size∧wr.cell? ⟨w.heap.size,0,none⟩=some v∧(∀ j,wr.frozen? ⟨w.heap.size+1,j,none⟩=false) ∧
   wr.cell? ⟨w.heap.size+1,0,none⟩=some (.slice none 0 0)∧wr.cell? ⟨w.heap.size+1,1,none⟩=some (.slice none 0 0)∧wr.cell? ⟨w.heap.size+1,2,none⟩=some (.slice none 0 0):=by
 have hb:=h.bel
 have h0:(resS w v).heap.size=w.heap.size+1+1:=by simp [resS]
 have bz:=h.rows.bz
 refine ⟨(((Below.refl _ _).alloc (Nat.le_refl _) _).alloc (by simp) _).trans (hb.mono (by omega)),by omega,?_,?_,?_,?_,?_⟩
 ·rw [hb.cell (p:=⟨w.heap.size,0,none⟩) (by simp;omega)];simp [resS,go_sem]
 ·intro j;rw [hb.frozen (p:=⟨w.heap.size+1,j,none⟩) (by simp)];simp [resS,go_sem]
 ·rw [hb.cell (p:=⟨w.heap.size+1,0,none⟩) (by simp)];simp [resS,go_sem]
 ·rw [hb.cell (p:=⟨w.heap.size+1,1,none⟩) (by simp)];simp [resS,go_sem]
 ·rw [hb.cell (p:=⟨w.heap.size+1,2,none⟩) (by simp)];simp [resS,go_sem]
def ScanPostF (L:List Df) (ns:List Nd) (w:World) (e:Ending) (w':World):Prop :=
 ∃ (a0:Option Addr) (n0 c0:Nat) (a1:Option Addr) (n1 c1:Nat) (a2:Option Addr) (n2 c2:Nat),e=.returned (.tuple #[.agg #[.slice a0 n0 c0,.slice a1 n1 c1,.slice a2 n2 c2],.bool (typedL (leafIn L) ns).isSome])∧Below w.heap.size w w' ∧
  ∀ t,typedL (leafIn L) ns=some t → ∃ X:List (Nat × W2),X.length=ns.length∧X[ns.length - 1]?=some (0,t) ∧
   Rw w' w.heap.size (.slice a0 n0 c0) (X.map fun p=>(p.1:Int))∧Rw w' w.heap.size (.slice a1 n1 c1) (X.map fun p=>p.2.1)∧Rw w' w.heap.size (.slice a2 n2 c2) (X.map fun p=>p.2.2)∧FrOk ns X
def ScanPost (L:List Df) (ns:List Nd) (w:World) (e:Ending) (w':World):Prop :=
 ∃ (a0:Option Addr) (n0 c0:Nat) (a1:Option Addr) (n1 c1:Nat) (a2:Option Addr) (n2 c2:Nat),e=.returned (.tuple #[.agg #[.slice a0 n0 c0,.slice a1 n1 c1,.slice a2 n2 c2],.bool (typedL (leafIn L) ns).isSome])∧Below w.heap.size w w' ∧
  ∀ t,typedL (leafIn L) ns=some t → ∃ X:List (Nat × W2),X.length=ns.length∧X[ns.length - 1]?=some (0,t) ∧
   Rw w' w.heap.size (.slice a0 n0 c0) (X.map fun p=>(p.1:Int))∧Rw w' w.heap.size (.slice a1 n1 c1) (X.map fun p=>p.2.1)∧Rw w' w.heap.size (.slice a2 n2 c2) (X.map fun p=>p.2.2)
theorem ScSt.push {L:List Df} {ns:List Nd} {w wr W:World} {v v0 v1 v2 u0 u1 u2:Value} {X:List (Nat × W2)} {st st':List W2} (h:ScSt L ns w wr v v0 v1 v2 X st) {f:Nat} {t:W2}
  (hb:Below (w.heap.size+1+1) wr W) (hr:Rows3 W (w.heap.size+1+1+1) (w.heap.size+1+1) u0 u1 u2 ((X.map fun p=>(p.1:Int)) ++ [(f:Int)]) ((X.map fun p=>p.2.1) ++ [t.1]) ((X.map fun p=>p.2.2) ++ [t.2]))
  (hc:Chain (X ++ [(f,t)]) (t :: st')) (hgo:Hid (typedGo (leafIn L) ns []=typedGo (leafIn L) (ns.drop (X.length+1)) (t :: st'))) (hs:∀ x ∈ st',Sm x) (ht:Sm t) (hfr:FrOk ns (X ++ [(f,t)])) :
  ScSt L ns w W v u0 u1 u2 (X ++ [(f,t)]) (t :: st'):=by
 refine ⟨h.bel.trans hb,?_,hc,?_,?_,hfr⟩
 ·simpa using hr
 ·simpa using hgo
 ·intro x hx;rcases List.mem_cons.1 hx with rfl|hx;exact ht;exact hs x hx
theorem app_below {w0 w W:World} {B0 B xb j:Nat} {v u:Value} {xs:List Int} {o:Obj} (h:Below B0 w0 w) (hx:B0≤xb) (hB:B0≤B) (hsz:B0≤w.heap.size) (hr:Rw w B v xs) (hg:(w.alloc o).grownBy W v.ownBlock) :
  Below B0 w0 (W.setCell ⟨xb,j,none⟩ u) :=
 (((h.alloc hsz o).grown hg (by simp;omega) (fun k hk=>by have:=(World.ownsRow.lt hr k hk).1;omega))).setCell hx _
theorem Rows3.grownCells {w w':World} {B xb:Nat} {v0 v1 v2:Value} {xs0 xs1 xs2:List Int} (h:Rows3 w B xb v0 v1 v2 xs0 xs1 xs2) {o:Obj} {row:Option Nat} (hg:(w.alloc o).grownBy w' row) (hr:row ≠ some xb) :
  w'.cell? ⟨xb,0,none⟩=some v0∧w'.cell? ⟨xb,1,none⟩=some v1∧w'.cell? ⟨xb,2,none⟩=some v2∧(∀ j,w'.frozen? ⟨xb,j,none⟩=false)∧w.heap.size+1≤w'.heap.size:=by
 have h':=h.keep (alloc_below w o)
 have c:=fun o=>grown_cell hg (o:=o) h'.bz hr
 exact ⟨(c 0).1.trans h'.x0,(c 1).1.trans h'.x1,(c 2).1.trans h'.x2,fun j=>(c j).2.trans (h'.fx j),by have:=hg.size;simpa using this⟩
theorem Rw.shape {w:World} {B:Nat} {v:Value} {xs:List Int} (h:Rw w B v xs) (n:Nat) (hn:xs.length=n):∃ ao cp,v=.slice ao n cp:=by
 subst hn;exact owns_shape h
theorem kindW_sm (k:Int):Sm (kindW k):=by
 unfold kindW
 repeat' split
 all_goals (unfold Sm;decide)
theorem arityW_sm {n:Nd} (h:leafB n=true):Sm (arityW n):=by
 unfold arityW
 split
 ·rename_i h1
  simp only [leafB,Bool.and_eq_true,decide_eq_true_eq] at h
  have h2:=h.2
  rw [if_pos h1] at h2
  simp only [Bool.and_eq_true,decide_eq_true_eq] at h2
  exact ⟨h2.1,h2.2,h2.1,h2.2⟩
 ·exact kindW_sm _
theorem Rw.some {w:World} {B n c:Nat} {a:Option Addr} {xs:List Int} (h:Rw w B (.slice a n c) xs) (hn:0<xs.length):∃ g,a=some ⟨g,0,none⟩:=by
 rcases h.2 with ⟨h',h0⟩|⟨g,cap,cur,h',_⟩
 ·omega
 ·simp only [Value.slice.injEq] at h';exact ⟨g,h'.1⟩
theorem grown_then {w w1 w2:World} {row:Option Nat} (h:w.grownBy w1 row) (hb:Below w1.heap.size w1 w2):w.grownBy w2 row :=
 ⟨hb.os.trans h.os,hb.tape.trans h.tape,hb.output.trans h.output,Nat.le_trans h.size hb.size,fun k hk hr=>(hb.block k (Nat.lt_of_lt_of_le hk h.size)).trans (h.block k hk hr)⟩
theorem app28 {w0 w1 w2 w3:World} {B xb:Nat} {v0 v1 v2 v':Value} {xs0 xs1 xs2:List Int} {f:Int} (h:Rows3 w0 B xb v0 v1 v2 xs0 xs1 xs2) (hb1:Below w0.heap.size w0 w1) (hg:w1.grownBy w2 v0.ownBlock) (hr:Rw w2 B v' (xs0 ++ [f]))
  (ho:v'.ownBlock=v0.ownBlock∨v'.ownBlock=some w1.heap.size) (hb3:Below w2.heap.size w2 w3):Rows3 (w3.setCell ⟨xb,0,none⟩ v') B xb v' v1 v2 (xs0 ++ [f]) xs1 xs2 :=
 (h.keep hb1).app0 (grown_then hg hb3) (hr.keep hb3) ho
theorem bel28 {w0 w1 w2 w3 wr:World} {B0 B xb j:Nat} {v u:Value} {xs:List Int} (h:Below B0 wr w0) (hB0:B0≤w0.heap.size) (hx:B0≤xb) (hB:B0≤B) (hb1:Below w0.heap.size w0 w1) (hr:Rw w0 B v xs) (hg:w1.grownBy w2 v.ownBlock) (hb3:Below w2.heap.size w2 w3) :
  Below B0 wr (w3.setCell ⟨xb,j,none⟩ u):=by
 have h1:=hb1.size
 have h2:=hg.size
 exact ((((h.trans (hb1.mono hB0)).grown hg (by omega) (fun k hk=>by have:=(World.ownsRow.lt hr k hk).1;omega))).trans (hb3.mono (by omega))).setCell hx _
theorem getE {α β:Type} {X:List α} {i:Nat} {x:α} (h:X[i]?=some x) (f:α → β):∃ hi:i<(X.map f).length,(X.map f)[i]=f x:=by
 obtain ⟨hi,he⟩:=List.getElem?_eq_some_iff.1 h
 exact ⟨by simpa using hi,by simp [he]⟩
theorem lbScanF_any (v:Value) (L:List Df) (v':Value) (ns:List Nd) (w:World) (hL:DfsAt w v L) (hLn:L.length≤1048576) (hLs:∀ d ∈ L,Sm (d.inn,d.out)) (hv:NdsAt w v' ns) (hok:NdsOk ns) :
  Calls Tryz.prog 278 #[v,.agg #[v']] w (ScanPostF L ns w):=by
 obtain ⟨hs,hn⟩:=hok
 obtain ⟨a,cap,rfl,hc,hat⟩:=hv
 by_cases hl:1≤ns.length∧ns.length≤400
 ·have g1:inB ns.length 1 400=true:=by simp [inB];omega
  go_enter Tryz.func278,Tryz.ntmps278
  go_wp2_with (go_at_call 80;refine (l1In_any _ _ _ _).mono ?_;rintro e w1 ⟨rfl,rfl⟩)
  obtain ⟨i0,hi,hz0,hz1,hz2⟩:=info_parts infoInt
  go_loopw [25] (fun i wr=>∃ (X:List (Nat × W2)) (st:List W2) (v0 v1 v2:Value),X.length≤ns.length∧i=.int .i64 X.length∧ScSt L ns w wr (.slice a ns.length cap) v0 v1 v2 X st) (fun i _=>ns.length - (intOf i).toNat)
  case atStart =>
   have hr:∀ (f:Nat × W2 → Int) w' B,Rw w' B (.slice none 0 0) (([]:List (Nat × W2)).map f):=fun f w' B=>⟨by simp,.inl ⟨rfl,rfl⟩⟩
   refine ⟨[],[],.slice none 0 0,.slice none 0 0,.slice none 0 0,by simp,rfl,?_⟩
   constructor
   case rows =>
    have ha:Apart (.slice none 0 0) (.slice none 0 0):=fun k hk=>by simp [Value.ownBlock] at hk
    exact ⟨by omega,by simp,by go_simp,by go_simp,by go_simp,fun j=>by go_simp,hr _ _ _,hr _ _ _,hr _ _ _,ha,ha,ha⟩
   case ch=>rfl
   case go=>exact (by simp [Hid]:Hid (typedGo (leafIn L) ns []=typedGo (leafIn L) (ns.drop ([]:List (Nat × W2)).length) ([]:List W2)))
   case sm=>simp
   case fr=>intro i x hx;simp at hx
   case bel=>exact (Below.refl _ _).alloc (by simp [resS]) _
  case round =>
   obtain ⟨X,st,v0,v1,v2,hk,rfl,hst⟩:=hrel
   obtain ⟨hbel,hsz,hbox,hfr,hq0,hq1,hq2⟩:=hst.facts
   have hrows:=hst.rows
   obtain ⟨hx0,hx1,hx2,hfx⟩:=And.intro hrows.x0 (And.intro hrows.x1 (And.intro hrows.x2 hrows.fx))
   obtain ⟨a0,b0,rfl⟩:=hrows.r0.shape X.length (by simp)
   obtain ⟨a1,b1,rfl⟩:=hrows.r1.shape X.length (by simp)
   obtain ⟨a2,b2,rfl⟩:=hrows.r2.shape X.length (by simp)
   by_cases hlt:X.length<ns.length
   ·obtain ⟨b,o,rfl,_,hnd⟩:=hat X.length hlt
    obtain ⟨c0,c1,c2⟩:=hnd.keep hbel
    have hnm:=hs ns[X.length] (List.getElem_mem _)
    have HD:=Lib.hid (List.drop_eq_getElem_cons hlt)
    clear hat hnd hs
    by_cases hlf:leafB ns[X.length]=true
    ·
     as_aux_lemma =>
      have hk17:(ns[X.length].kind == 17)=false:=by
       simp only [leafB,Bool.and_eq_true,decide_eq_true_eq] at hlf;simp;omega
      have hk15:¬ (ns[X.length].kind=15∨ns[X.length].kind=16):=by
       simp only [leafB,Bool.and_eq_true,decide_eq_true_eq] at hlf;omega
      have hlw:leafIn L ns[X.length]=some (arityW ns[X.length]):=by
       unfold leafIn;rw [if_neg (by simpa using hk17),if_pos hlf]
      have hsm:=arityW_sm hlf
      have HG:Hid (typedGo (leafIn L) ns []=typedGo (leafIn L) (ns.drop (X.length+1)) (arityW ns[X.length] :: st)):=(show typedGo (leafIn L) ns []=_ by
       rw [hst.go.out,HD.out,typedGo_push hk15 hlw])
      have HLF:=Lib.hid hlf
      have HFR:=Lib.hid (fr_leaf hst.fr hlt hk15)
      clear hlw hk15 hlf
      go_wp2_with (first|(go_at_call 106;refine (tmLeaf_any ns[X.length] _).mono ?_;rintro e w2 ⟨rfl,hb2⟩;rw [HLF.out];obtain ⟨hc2,hf2,hs2⟩:=bcell hb2;have rows2:=(hrows.keep ((Below.refl _ _).alloc (Nat.le_refl _) _)).keep hb2;simp only [World.size_alloc] at hs2;have hl2:wr.heap.size<w2.heap.size:=(by omega);have hb2':Below (w.heap.size+1+1) wr w2:=((Below.refl _ _).alloc (by omega) _).trans (hb2.mono (by simp;omega));clear hb2)|(go_at_call 107;refine (tmArity_any ns[X.length] _).mono ?_;rintro e w3 ⟨rfl,hb3⟩;obtain ⟨hc3,hf3,hs3⟩:=bcell hb3;have hl3:wr.heap.size<w3.heap.size:=(by omega);have rows3:=rows2.keep hb3;obtain ⟨y0,y1,y2,yf⟩:=And.intro rows3.x0 (And.intro rows3.x1 (And.intro rows3.x2 rows3.fx));have hb3':Below (w.heap.size+1+1) wr w3:=hb2'.trans (hb3.mono (by omega));clear hb3)|(at_builtin;refine int_append rfl (.tmp 68) (.tmp 70) rfl (w.heap.size+1+1+1) _ _ _ _ _ (by simp) rfl rfl rows3.r0 (by first|omega|(simp;omega)) (by first|omega|(simp;omega)) ?_;intro u0 W1 p1 p2 p3;obtain ⟨ao0,cp0,rfl⟩:=p1.shape (X.length+1) (by simp);have P1:=(rows3.keep (alloc_below _ _)).app0 p2 p1 p3;obtain ⟨g0,g1,g2,gf,gs⟩:=rows3.grownCells p2 (row_ne rows3.r0 rows3.lt);have B1:=app_below (j:=0) (u:=Value.slice ao0 (X.length+1) cp0) hb3' (Nat.le_refl _) (by omega) (by first|omega|(simp;omega)) rows3.r0 p2;clear p1 p2 p3)|(at_builtin;refine int_append rfl (.tmp 74) (.tmp 76) rfl (w.heap.size+1+1+1) _ _ _ _ _ (by simp) rfl rfl P1.r1 (by first|omega|(simp;omega)) (by first|omega|(simp;omega)) ?_;intro u1 W2 p1 p2 p3;obtain ⟨ao1,cp1,rfl⟩:=p1.shape (X.length+1) (by simp);have P2:=(P1.keep (alloc_below _ _)).app1 p2 p1 p3;obtain ⟨k0,k1,k2,kf,ks⟩:=P1.grownCells p2 (row_ne P1.r1 P1.lt);(try simp only [setCell_size] at ks);have B2:=app_below (j:=1) (u:=Value.slice ao1 (X.length+1) cp1) B1 (Nat.le_refl _) (by omega) (by first|omega|(simp;omega)) P1.r1 p2;clear p1 p2 p3)|(at_builtin;refine int_append rfl (.tmp 80) (.tmp 82) rfl (w.heap.size+1+1+1) _ _ _ _ _ (by simp) rfl rfl P2.r2 (by first|omega|(simp;omega)) (by first|omega|(simp;omega)) ?_;intro u2 W3 p1 p2 p3;obtain ⟨ao2,cp2,rfl⟩:=p1.shape (X.length+1) (by simp);have P3:=(P2.keep (alloc_below _ _)).app2 p2 p1 p3;obtain ⟨l0,l1,l2,lf,ls⟩:=P2.grownCells p2 (row_ne P2.r2 P2.lt);(try simp only [setCell_size] at ls);have B3:=app_below (j:=2) (u:=Value.slice ao2 (X.length+1) cp2) B2 (Nat.le_refl _) (by omega) (by first|omega|(simp;omega)) P2.r2 p2;clear p1 p2 p3))
      go_roundw
      case rel=>exact ⟨_,_,_,_,_,by simp;omega,by simp,hst.push B3 P3 (chain_push hst.ch _) HG hst.sm hsm (HFR.out _)⟩
      case measure=>simp [intOf];omega
    ·by_cases hk17:ns[X.length].kind=17
     ·
      as_aux_lemma =>
       have h17:(ns[X.length].kind == 17)=true:=by simp [hk17]
       have hk15:¬ (ns[X.length].kind=15∨ns[X.length].kind=16):=by omega
       have HLF:=Lib.hid (show leafB ns[X.length]=false by simpa using hlf)
       have hL':=hL
       have hff:=findFrom_cases ns[X.length].name L 0
       rcases hff with ⟨f1,f2⟩|⟨i,hi,f1,f2⟩
       ·
        have HT:Hid (typedL (leafIn L) ns=none):=(show _=_ by
         unfold typedL
         rw [if_pos hl,hst.go.out,HD.out,typedGo_no hk15 (by unfold leafIn;rw [if_pos hk17,f2];simp)])
        have F1:=Lib.hid f1
        clear f1 f2 hk17 hk15 hlf
        go_wp2_with (first|(go_at_call 106;refine (tmLeaf_any ns[X.length] _).mono ?_;rintro e w2 ⟨rfl,hb2⟩;rw [HLF.out];obtain ⟨hc2,hf2,hs2⟩:=bcell hb2;have rows2:=(hrows.keep ((Below.refl _ _).alloc (Nat.le_refl _) _)).keep hb2;simp only [World.size_alloc] at hs2;have hl2:wr.heap.size<w2.heap.size:=(by omega);have hb2':Below (w.heap.size+1+1) wr w2:=((Below.refl _ _).alloc (by omega) _).trans (hb2.mono (by simp;omega));clear hb2)|(go_at_call 107;refine (tmArity_any ns[X.length] _).mono ?_;rintro e w3 ⟨rfl,hb3⟩;obtain ⟨hc3,hf3,hs3⟩:=bcell hb3;have hl3:wr.heap.size<w3.heap.size:=(by omega);have rows3:=rows2.keep hb3;obtain ⟨y0,y1,y2,yf⟩:=And.intro rows3.x0 (And.intro rows3.x1 (And.intro rows3.x2 rows3.fx));have hb3':Below (w.heap.size+1+1) wr w3:=hb2'.trans (hb3.mono (by omega));clear hb3)|(go_at_call 105;refine (lbFind_any _ L _ _ (hL.keep (hbel.trans (hb3'.mono (by omega)))) hLn).mono ?_;rintro e w4 ⟨rfl,hb4⟩;rw [F1.out];obtain ⟨hc4,hf4,hs4⟩:=bcell hb4;have hl4:wr.heap.size<w4.heap.size:=(by omega);have hb4':=hb3'.trans (hb4.mono (by omega));have rows4:=rows3.keep hb4;obtain ⟨z0,z1,z2,zf⟩:=And.intro rows4.x0 (And.intro rows4.x1 (And.intro rows4.x2 rows4.fx));clear hb4;have t0:=(Below.cell hb4' (p:=⟨w.heap.size+1,0,none⟩) (by simp)).trans hq0;have t1:=(Below.cell hb4' (p:=⟨w.heap.size+1,1,none⟩) (by simp)).trans hq1;have t2:=(Below.cell hb4' (p:=⟨w.heap.size+1,2,none⟩) (by simp)).trans hq2;have tf:∀ j,w4.frozen? ⟨w.heap.size+1,j,none⟩=false:=fun j=>(Below.frozen hb4' (p:=⟨w.heap.size+1,j,none⟩) (by simp)).trans (hfr j)))
        (refine bodyPost_ret (v:=.tuple #[.agg #[.slice a0 X.length b0,.slice a1 X.length b1,.slice a2 X.length b2],.bool false]) (by simp [results,Tryz.results278,go_sem,t0,t1,t2]) rfl ⟨_,_,_,_,_,_,_,_,_,by rw [HT.out];rfl,?_,by rw [HT.out];simp⟩;exact (((hbel.trans (hb4'.mono (by omega))).setCell (by simp) _).setCell (by simp) _).setCell (by simp) _)
       ·rw [Nat.zero_add] at f1
        have F1:=Lib.hid f1
        by_cases hv0:ns[X.length].value=0
        ·have hvv:(ns[X.length].value != 0)=false:=by simp [hv0]
         have hsm:=hLs L[i] (List.getElem_mem _)
         have HG:Hid (typedGo (leafIn L) ns []=typedGo (leafIn L) (ns.drop (X.length+1)) ((L[i].inn,L[i].out) :: st)):=(show typedGo (leafIn L) ns []=_ by
          rw [hst.go.out,HD.out,typedGo_push hk15 (by unfold leafIn;rw [if_pos hk17,if_pos hv0,f2];rfl)])
         obtain ⟨aL,capL,rfl,_,hatL⟩:=hL'
         obtain ⟨bL,oL,rfl,_,d0,d1,d2,_⟩:=hatL i hi
         have HFR:=Lib.hid (fr_leaf hst.fr hlt hk15)
         clear f1 f2 hk17 hk15 hlf hv0 hatL
         go_wp2_with (first|(go_at_call 106;refine (tmLeaf_any ns[X.length] _).mono ?_;rintro e w2 ⟨rfl,hb2⟩;rw [HLF.out];obtain ⟨hc2,hf2,hs2⟩:=bcell hb2;have rows2:=(hrows.keep ((Below.refl _ _).alloc (Nat.le_refl _) _)).keep hb2;simp only [World.size_alloc] at hs2;have hl2:wr.heap.size<w2.heap.size:=(by omega);have hb2':Below (w.heap.size+1+1) wr w2:=((Below.refl _ _).alloc (by omega) _).trans (hb2.mono (by simp;omega));clear hb2)|(go_at_call 107;refine (tmArity_any ns[X.length] _).mono ?_;rintro e w3 ⟨rfl,hb3⟩;obtain ⟨hc3,hf3,hs3⟩:=bcell hb3;have hl3:wr.heap.size<w3.heap.size:=(by omega);have rows3:=rows2.keep hb3;obtain ⟨y0,y1,y2,yf⟩:=And.intro rows3.x0 (And.intro rows3.x1 (And.intro rows3.x2 rows3.fx));have hb3':Below (w.heap.size+1+1) wr w3:=hb2'.trans (hb3.mono (by omega));clear hb3)|(go_at_call 105;refine (lbFind_any _ L _ _ (hL.keep (hbel.trans (hb3'.mono (by omega)))) hLn).mono ?_;rintro e w4 ⟨rfl,hb4⟩;rw [F1.out];obtain ⟨hc4,hf4,hs4⟩:=bcell hb4;have hl4:wr.heap.size<w4.heap.size:=(by omega);have hb4':=hb3'.trans (hb4.mono (by omega));have rows4:=rows3.keep hb4;obtain ⟨z0,z1,z2,zf⟩:=And.intro rows4.x0 (And.intro rows4.x1 (And.intro rows4.x2 rows4.fx));clear hb4;have t0:=(Below.cell hb4' (p:=⟨w.heap.size+1,0,none⟩) (by simp)).trans hq0;have t1:=(Below.cell hb4' (p:=⟨w.heap.size+1,1,none⟩) (by simp)).trans hq1;have t2:=(Below.cell hb4' (p:=⟨w.heap.size+1,2,none⟩) (by simp)).trans hq2;have tf:∀ j,w4.frozen? ⟨w.heap.size+1,j,none⟩=false:=fun j=>(Below.frozen hb4' (p:=⟨w.heap.size+1,j,none⟩) (by simp)).trans (hfr j)))
         have hd:=hbel.trans (hb4'.mono (by omega))
         have e1:=cell_keep hd d1
         have e2:=cell_keep hd d2
         have hiN:(i:Int)<L.length:=by omega
         have hbL:=cell_lt e1
         refine region_acts (C:=Exc (NoT) _) 2 [0,1,2,3,4,5,6,7,8,9,10,11] (by kernel_rfl) (by kernel_rfl) (Exc.grows _ _) (Exc.refl _ _) ?_
         iterate 12 (apply x_st rfl rfl rfl;(focus intro u hc' hf';go_simp <;> rfl);intro K hK;go_simp;apply hK;clear hK K)
         refine x_nil ?_
         have rows5:=rows4.keep (Below.refl w4.heap.size w4).drew
         have hb5':=hb4'.drew
         have gs5:=rows5.bz
         obtain ⟨z0',z1',z2',zf'⟩:=And.intro rows5.x0 (And.intro rows5.x1 (And.intro rows5.x2 rows5.fx))
         generalize w4.drew=W5 at rows5 hb5' gs5 z0' z1' z2' zf' ⊢
         go_wp2_with (first|(at_builtin;refine int_append rfl (.tmp 68) (.tmp 70) rfl (w.heap.size+1+1+1) _ _ _ _ _ (by simp) rfl rfl rows5.r0 (by first|omega|(simp;omega)) (by first|omega|(simp;omega)) ?_;intro u0 W1 p1 p2 p3;obtain ⟨ao0,cp0,rfl⟩:=p1.shape (X.length+1) (by simp);have P1:=(rows5.keep (alloc_below _ _)).app0 p2 p1 p3;obtain ⟨g0,g1,g2,gf,gs⟩:=rows5.grownCells p2 (row_ne rows5.r0 rows5.lt);have B1:=app_below (j:=0) (u:=Value.slice ao0 (X.length+1) cp0) hb5' (Nat.le_refl _) (by omega) (by first|omega|(simp;omega)) rows5.r0 p2;clear p1 p2 p3)|(at_builtin;refine int_append rfl (.tmp 74) (.tmp 76) rfl (w.heap.size+1+1+1) _ _ _ _ _ (by simp) rfl rfl P1.r1 (by first|omega|(simp;omega)) (by first|omega|(simp;omega)) ?_;intro u1 W2 p1 p2 p3;obtain ⟨ao1,cp1,rfl⟩:=p1.shape (X.length+1) (by simp);have P2:=(P1.keep (alloc_below _ _)).app1 p2 p1 p3;obtain ⟨k0,k1,k2,kf,ks⟩:=P1.grownCells p2 (row_ne P1.r1 P1.lt);(try simp only [setCell_size] at ks);have B2:=app_below (j:=1) (u:=Value.slice ao1 (X.length+1) cp1) B1 (Nat.le_refl _) (by omega) (by first|omega|(simp;omega)) P1.r1 p2;clear p1 p2 p3)|(at_builtin;refine int_append rfl (.tmp 80) (.tmp 82) rfl (w.heap.size+1+1+1) _ _ _ _ _ (by simp) rfl rfl P2.r2 (by first|omega|(simp;omega)) (by first|omega|(simp;omega)) ?_;intro u2 W3 p1 p2 p3;obtain ⟨ao2,cp2,rfl⟩:=p1.shape (X.length+1) (by simp);have P3:=(P2.keep (alloc_below _ _)).app2 p2 p1 p3;obtain ⟨l0,l1,l2,lf,ls⟩:=P2.grownCells p2 (row_ne P2.r2 P2.lt);(try simp only [setCell_size] at ls);have B3:=app_below (j:=2) (u:=Value.slice ao2 (X.length+1) cp2) B2 (Nat.le_refl _) (by omega) (by first|omega|(simp;omega)) P2.r2 p2;clear p1 p2 p3))
         go_roundw
         case rel=>exact ⟨_,_,_,_,_,by simp;omega,by simp,hst.push B3 P3 (chain_push hst.ch _) HG hst.sm hsm (HFR.out _)⟩
         case measure=>simp [intOf];omega
        ·have hvv:(ns[X.length].value != 0)=true:=by simp [hv0]
         have HT:Hid (typedL (leafIn L) ns=none):=(show _=_ by
          unfold typedL
          rw [if_pos hl,hst.go.out,HD.out,typedGo_no hk15 (by unfold leafIn;rw [if_pos hk17,if_neg hv0])])
         clear f1 f2 hk17 hk15 hlf hv0
         go_wp2_with (first|(go_at_call 106;refine (tmLeaf_any ns[X.length] _).mono ?_;rintro e w2 ⟨rfl,hb2⟩;rw [HLF.out];obtain ⟨hc2,hf2,hs2⟩:=bcell hb2;have rows2:=(hrows.keep ((Below.refl _ _).alloc (Nat.le_refl _) _)).keep hb2;simp only [World.size_alloc] at hs2;have hl2:wr.heap.size<w2.heap.size:=(by omega);have hb2':Below (w.heap.size+1+1) wr w2:=((Below.refl _ _).alloc (by omega) _).trans (hb2.mono (by simp;omega));clear hb2)|(go_at_call 107;refine (tmArity_any ns[X.length] _).mono ?_;rintro e w3 ⟨rfl,hb3⟩;obtain ⟨hc3,hf3,hs3⟩:=bcell hb3;have hl3:wr.heap.size<w3.heap.size:=(by omega);have rows3:=rows2.keep hb3;obtain ⟨y0,y1,y2,yf⟩:=And.intro rows3.x0 (And.intro rows3.x1 (And.intro rows3.x2 rows3.fx));have hb3':Below (w.heap.size+1+1) wr w3:=hb2'.trans (hb3.mono (by omega));clear hb3)|(go_at_call 105;refine (lbFind_any _ L _ _ (hL.keep (hbel.trans (hb3'.mono (by omega)))) hLn).mono ?_;rintro e w4 ⟨rfl,hb4⟩;rw [F1.out];obtain ⟨hc4,hf4,hs4⟩:=bcell hb4;have hl4:wr.heap.size<w4.heap.size:=(by omega);have hb4':=hb3'.trans (hb4.mono (by omega));have rows4:=rows3.keep hb4;obtain ⟨z0,z1,z2,zf⟩:=And.intro rows4.x0 (And.intro rows4.x1 (And.intro rows4.x2 rows4.fx));clear hb4;have t0:=(Below.cell hb4' (p:=⟨w.heap.size+1,0,none⟩) (by simp)).trans hq0;have t1:=(Below.cell hb4' (p:=⟨w.heap.size+1,1,none⟩) (by simp)).trans hq1;have t2:=(Below.cell hb4' (p:=⟨w.heap.size+1,2,none⟩) (by simp)).trans hq2;have tf:∀ j,w4.frozen? ⟨w.heap.size+1,j,none⟩=false:=fun j=>(Below.frozen hb4' (p:=⟨w.heap.size+1,j,none⟩) (by simp)).trans (hfr j)))
         (refine bodyPost_ret (v:=.tuple #[.agg #[.slice a0 X.length b0,.slice a1 X.length b1,.slice a2 X.length b2],.bool false]) (by simp [results,Tryz.results278,go_sem,t0,t1,t2]) rfl ⟨_,_,_,_,_,_,_,_,_,by rw [HT.out];rfl,?_,by rw [HT.out];simp⟩;exact (((hbel.trans (hb4'.mono (by omega))).setCell (by simp) _).setCell (by simp) _).setCell (by simp) _)
     ·have h17:(ns[X.length].kind == 17)=false:=by simp [hk17]
      have HLF:=Lib.hid (show leafB ns[X.length]=false by simpa using hlf)
      by_cases hk15:ns[X.length].kind=15∨ns[X.length].kind=16
      ·have hkk:(ns[X.length].kind != 15)=false∨((ns[X.length].kind != 15)=true∧(ns[X.length].kind != 16)=false):=by
        rcases hk15 with h|h <;> simp [h]
       by_cases hvn:ns[X.length].value=0∧ns[X.length].name=ByteArray.empty
       ·obtain ⟨hv0,hm0⟩:=hvn
        have gv:(ns[X.length].value != 0)=false:=by simp [hv0]
        have gn:(!ns[X.length].name.toList.isEmpty)=false:=by have:=(toList_nil_iff_emptyBytes _).2 hm0;simp [this]
        by_cases hlen:st.length<2
        ·
         as_aux_lemma =>
          have HT:Hid (typedL (leafIn L) ns=none):=(show _=_ by
           unfold typedL
           rw [if_pos hl,hst.go.out,HD.out,typedGo_short hk15 hlen])
          by_cases hX2:X.length<2
          ·have gl:(X.length:Int)<2:=by omega
           clear hv0 hm0 hk15 hk17 hlf hlen
           rcases hkk with gk|⟨gk,gk'⟩
           all_goals
            go_wp2_with (first|(go_at_call 106;refine (tmLeaf_any ns[X.length] _).mono ?_;rintro e w2 ⟨rfl,hb2⟩;rw [HLF.out];obtain ⟨hc2,hf2,hs2⟩:=bcell hb2;have rows2:=(hrows.keep ((Below.refl _ _).alloc (Nat.le_refl _) _)).keep hb2;simp only [World.size_alloc] at hs2;have hl2:wr.heap.size<w2.heap.size:=(by omega);have hbw:Below wr.heap.size wr w2:=((Below.refl _ _).alloc (Nat.le_refl _) _).trans (hb2.mono (by simp));have hb2':Below (w.heap.size+1+1) wr w2:=((Below.refl _ _).alloc (by omega) _).trans (hb2.mono (by simp;omega));obtain ⟨y0,y1,y2,yf⟩:=And.intro rows2.x0 (And.intro rows2.x1 (And.intro rows2.x2 rows2.fx));clear hb2;have t0:=(Below.cell hb2' (p:=⟨w.heap.size+1,0,none⟩) (by simp)).trans hq0;have t1:=(Below.cell hb2' (p:=⟨w.heap.size+1,1,none⟩) (by simp)).trans hq1;have t2:=(Below.cell hb2' (p:=⟨w.heap.size+1,2,none⟩) (by simp)).trans hq2;have tf:∀ j,w2.frozen? ⟨w.heap.size+1,j,none⟩=false:=fun j=>(Below.frozen hb2' (p:=⟨w.heap.size+1,j,none⟩) (by simp)).trans (hfr j)))
            (refine bodyPost_ret (v:=.tuple #[.agg #[.slice a0 X.length b0,.slice a1 X.length b1,.slice a2 X.length b2],.bool false]) (by simp [results,Tryz.results278,go_sem,t0,t1,t2]) rfl ⟨_,_,_,_,_,_,_,_,_,by rw [HT.out];rfl,?_,by rw [HT.out];simp⟩;exact (((hbel.trans (hb2'.mono (by omega))).setCell (by simp) _).setCell (by simp) _).setCell (by simp) _)
          ·have hone:∃ tb,X[X.length - 1]?=some (0,tb):=by
            match st,hst.ch,hlen with
            | [],h,_=>have:=chain_nil h;subst this;simp at hX2
            | [tb],h,_=>exact ⟨tb,(chain_one h).2⟩
           obtain ⟨tb,hone⟩:=hone
           have gl:¬ (X.length:Int)<2:=by omega
           obtain ⟨G0,hG0⟩:=hrows.r0.some (by simp;omega)
           subst hG0
           obtain ⟨hi0,he0⟩:=getE hone (fun p:Nat × W2=>(p.1:Int))
           have hF:=hrows.r0.cell _ hi0
           rw [he0] at hF
           have hGz:=cell_lt hF
           have gi1:(1:Int)≤X.length:=by omega
           have gi2:(X.length:Int) - 1<X.length:=by omega
           clear hv0 hm0 hk15 hk17 hlf hlen he0 hone
           rcases hkk with gk|⟨gk,gk'⟩
           all_goals
            go_wp2_with (first|(go_at_call 106;refine (tmLeaf_any ns[X.length] _).mono ?_;rintro e w2 ⟨rfl,hb2⟩;rw [HLF.out];obtain ⟨hc2,hf2,hs2⟩:=bcell hb2;have rows2:=(hrows.keep ((Below.refl _ _).alloc (Nat.le_refl _) _)).keep hb2;simp only [World.size_alloc] at hs2;have hl2:wr.heap.size<w2.heap.size:=(by omega);have hbw:Below wr.heap.size wr w2:=((Below.refl _ _).alloc (Nat.le_refl _) _).trans (hb2.mono (by simp));have hb2':Below (w.heap.size+1+1) wr w2:=((Below.refl _ _).alloc (by omega) _).trans (hb2.mono (by simp;omega));obtain ⟨y0,y1,y2,yf⟩:=And.intro rows2.x0 (And.intro rows2.x1 (And.intro rows2.x2 rows2.fx));clear hb2;have t0:=(Below.cell hb2' (p:=⟨w.heap.size+1,0,none⟩) (by simp)).trans hq0;have t1:=(Below.cell hb2' (p:=⟨w.heap.size+1,1,none⟩) (by simp)).trans hq1;have t2:=(Below.cell hb2' (p:=⟨w.heap.size+1,2,none⟩) (by simp)).trans hq2;have tf:∀ j,w2.frozen? ⟨w.heap.size+1,j,none⟩=false:=fun j=>(Below.frozen hb2' (p:=⟨w.heap.size+1,j,none⟩) (by simp)).trans (hfr j)))
            (refine bodyPost_ret (v:=.tuple #[.agg #[.slice (some ⟨G0,0,none⟩) X.length b0,.slice a1 X.length b1,.slice a2 X.length b2],.bool false]) (by simp [results,Tryz.results278,go_sem,t0,t1,t2]) rfl ⟨_,_,_,_,_,_,_,_,_,by rw [HT.out];rfl,?_,by rw [HT.out];simp⟩;exact (((hbel.trans (hb2'.mono (by omega))).setCell (by simp) _).setCell (by simp) _).setCell (by simp) _)
        ·obtain ⟨tb,ta,st',rfl⟩:∃ tb ta st',st=tb :: ta :: st':=by
          match st,hlen with
          | [],h=>simp at h
          | [x],h=>simp at h
          | x :: y :: r,_=>exact ⟨x,y,r,rfl⟩
         obtain ⟨f,g,hXl,hf1,hfl,hXf,hgf,hch'⟩:=chain_two hst.ch
         obtain ⟨sb1,sb2,sb3,sb4⟩:=hst.sm tb (by simp)
         obtain ⟨sa1,sa2,sa3,sa4⟩:=hst.sm ta (by simp)
         have hsm':∀ x ∈ st',Sm x:=fun x hx=>hst.sm x (by simp [hx])
         have hx2:2≤X.length:=by omega
         obtain ⟨G0,hG0⟩:=hrows.r0.some (by simp;omega)
         obtain ⟨G1,hG1⟩:=hrows.r1.some (by simp;omega)
         obtain ⟨G2,hG2⟩:=hrows.r2.some (by simp;omega)
         subst hG0;subst hG1;subst hG2
         have f0:wr.cell? ⟨G0,X.length - 1,none⟩=some (.int .i64 (f:Int)):=by obtain ⟨hi0,he0⟩:=getE hXl (fun p:Nat × W2=>(p.1:Int));rw [hrows.r0.cell _ hi0,he0]
         have f1:wr.cell? ⟨G0,f - 1,none⟩=some (.int .i64 (g:Int)):=by obtain ⟨hi0,he0⟩:=getE hXf (fun p:Nat × W2=>(p.1:Int));rw [hrows.r0.cell _ hi0,he0]
         have i0':wr.cell? ⟨G1,X.length - 1,none⟩=some (.int .i64 tb.1):=by obtain ⟨hi0,he0⟩:=getE hXl (fun p:Nat × W2=>p.2.1);rw [hrows.r1.cell _ hi0,he0]
         have i1':wr.cell? ⟨G1,f - 1,none⟩=some (.int .i64 ta.1):=by obtain ⟨hi0,he0⟩:=getE hXf (fun p:Nat × W2=>p.2.1);rw [hrows.r1.cell _ hi0,he0]
         have o0':wr.cell? ⟨G2,X.length - 1,none⟩=some (.int .i64 tb.2):=by obtain ⟨hi0,he0⟩:=getE hXl (fun p:Nat × W2=>p.2.2);rw [hrows.r2.cell _ hi0,he0]
         have o1':wr.cell? ⟨G2,f - 1,none⟩=some (.int .i64 ta.2):=by obtain ⟨hi0,he0⟩:=getE hXf (fun p:Nat × W2=>p.2.2);rw [hrows.r2.cell _ hi0,he0]
         have hGz0:=cell_lt f0
         have hGz1:=cell_lt i0'
         have hGz2:=cell_lt o0'
         have gi1:(1:Int)≤X.length:=by omega
         have gi2:(X.length:Int) - 1<X.length:=by omega
         have gi3:(1:Int)≤f:=by omega
         have gi4:(f:Int) - 1<X.length:=by omega
         have gl:¬ (X.length:Int)<2:=by omega
         have gf:¬ (f:Int)<1:=by omega
         have hgo1:∀ x,joinW ns[X.length].kind ta tb=some x → Hid (typedGo (leafIn L) ns []=typedGo (leafIn L) (ns.drop (X.length+1)) (x :: st')):=fun x hx=>(show typedGo (leafIn L) ns []=_ by
          rw [hst.go.out,HD.out,typedGo_join hk15 hv0 hm0 hx])
         have hgo2:joinW ns[X.length].kind ta tb=none → Hid (typedL (leafIn L) ns=none):=fun hx=>(show _=_ by
          unfold typedL
          rw [if_pos hl,hst.go.out,HD.out,typedGo_clash hk15 hx])
         have HG1:=Lib.hid hgo1
         have HG2:=Lib.hid hgo2
         have HXl:=Lib.hid hXl
         have HFR:=Lib.hid (fr_join hst.fr hlt hk15 hXl hXf)
         clear hv0 hm0 hgo1 hgo2 hXl hXf hlen
         have ew1:IntKind.i64.wrap (ta.1+tb.1)=ta.1+tb.1:=IntWalk.i64_in _ (by omega)
         have ew2:IntKind.i64.wrap (ta.2+tb.2)=ta.2+tb.2:=IntWalk.i64_in _ (by omega)
         have et1:((X.length:Int) - 1).toNat=X.length - 1:=by omega
         have et2:((f:Int) - 1).toNat=f - 1:=by omega
         have ET:=Lib.hid (And.intro (And.intro ew1 ew2) (And.intro et1 et2))
         clear ew1 ew2 et1 et2
         rcases hkk with gk|⟨gk,gk'⟩
         ·have gk2:(ns[X.length].kind == 15)=true:=by simpa using gk
          have hke:ns[X.length].kind=15:=by simpa using gk
          by_cases hjo:ta.2=tb.1
          ·
           as_aux_lemma =>
            have HG:=HG1.out (ta.1,tb.2) (by unfold joinW;rw [if_pos hke,if_pos hjo])
            have gjo:(ta.2 != tb.1)=false:=by simp [hjo]
            have gb1:¬ (12:Int)<ta.1:=by omega
            have gb2:¬ (12:Int)<tb.2:=by omega
            clear hke hjo hk15
            go_wp2_with (first|(go_at_call 106;refine (tmLeaf_any ns[X.length] _).mono ?_;rintro e w2 ⟨rfl,hb2⟩;rw [HLF.out];obtain ⟨hc2,hf2,hs2⟩:=bcell hb2;have rows2:=(hrows.keep ((Below.refl _ _).alloc (Nat.le_refl _) _)).keep hb2;simp only [World.size_alloc] at hs2;have hl2:wr.heap.size<w2.heap.size:=(by omega);have hbw:Below wr.heap.size wr w2:=((Below.refl _ _).alloc (Nat.le_refl _) _).trans (hb2.mono (by simp));have hb2':Below (w.heap.size+1+1) wr w2:=((Below.refl _ _).alloc (by omega) _).trans (hb2.mono (by simp;omega));obtain ⟨y0,y1,y2,yf⟩:=And.intro rows2.x0 (And.intro rows2.x1 (And.intro rows2.x2 rows2.fx));clear hb2;have t0:=(Below.cell hb2' (p:=⟨w.heap.size+1,0,none⟩) (by simp)).trans hq0;have t1:=(Below.cell hb2' (p:=⟨w.heap.size+1,1,none⟩) (by simp)).trans hq1;have t2:=(Below.cell hb2' (p:=⟨w.heap.size+1,2,none⟩) (by simp)).trans hq2;have tf:∀ j,w2.frozen? ⟨w.heap.size+1,j,none⟩=false:=fun j=>(Below.frozen hb2' (p:=⟨w.heap.size+1,j,none⟩) (by simp)).trans (hfr j)))
            obtain ⟨⟨ew1,ew2⟩,et1,et2⟩:=ET.out
            have qxb:=rows2.bz;have q0:=cell_keep hbw f0;have q1:=cell_keep hbw f1;have q2:=cell_keep hbw i0';have q3:=cell_keep hbw i1';have q4:=cell_keep hbw o0';have q5:=cell_keep hbw o1';have qz0:=cell_lt q0;have qz1:=cell_lt q2;have qz2:=cell_lt q4
            refine region_acts (C:=Exc (NoT) _) 2 [0,1,2,3,4,5,6,7,8,9,10,11,12,13,14,15,16,17,18,19,20,21,22,23] (by kernel_rfl) (by kernel_rfl) (Exc.grows _ _) (Exc.refl _ _) ?_
            iterate 24 (apply x_st rfl rfl rfl;(focus intro u hc' hf';go_simp <;> rfl);intro K hK;go_simp;apply hK;clear hK K)
            refine x_nil ?_
            go_wp2
            refine region_acts (C:=Exc (NoT) _) 2 [0,1,2,3,4,5,6,7,8,9,10] (by kernel_rfl) (by kernel_rfl) (Exc.grows _ _) (Exc.refl _ _) ?_
            iterate 11 (apply x_st rfl rfl rfl;(focus intro u hc' hf';(try simp only [World.size_drew] at hc' hf');go_simp <;> rfl);intro K hK;go_simp;apply hK;clear hK K)
            refine x_nil ?_
            go_wp2
            refine region_acts (C:=Exc (NoT) _) 2 [0,1,2,3,4,5,6,7,8,9,10,11] (by kernel_rfl) (by kernel_rfl) (Exc.grows _ _) (Exc.refl _ _) ?_
            iterate 12 (apply x_st rfl rfl rfl;(focus intro u hc' hf';(try simp only [World.size_drew] at hc' hf');go_simp <;> rfl);intro K hK;go_simp;apply hK;clear hK K)
            refine x_nil ?_
            go_wp2
            generalize hWW:w2.drew.drew.drew=WW
            have rowsW:Rows3 WW (w.heap.size+1+1+1) (w.heap.size+1+1) (Value.slice (some ⟨G0,0,none⟩) X.length b0) (Value.slice (some ⟨G1,0,none⟩) X.length b1) (Value.slice (some ⟨G2,0,none⟩) X.length b2) (X.map fun p=>(p.1:Int)) (X.map fun p=>p.2.1) (X.map fun p=>p.2.2):=by
             rw [← hWW];exact rows2.keep (Below.refl _ _).drew.drew.drew
            have belW:Below (w.heap.size+1+1) wr WW:=by rw [← hWW];exact hb2'.drew.drew.drew
            have qW1:WW.cell? ⟨G0,f - 1,none⟩=some (.int .i64 (g:Int)):=by rw [← hWW];exact q1
            clear hWW
            have xbz:w.heap.size+1+1<WW.heap.size:=rowsW.bz
            have xG:¬ w.heap.size+1+1=G0:=fun e=>row_ne rowsW.r0 rowsW.lt (by rw [← e];rfl)
            have g0z:=cell_lt qW1
            obtain ⟨z0,z1,z2,zf⟩:=And.intro rowsW.x0 (And.intro rowsW.x1 (And.intro rowsW.x2 rowsW.fx))
            have hfl2:f - 1<X.length:=by omega
            refine region_acts2 (C:=KeepRow WW.drew G0 X.length) (N:=WW.drew.heap.size) 3 [0,1,2,3,4,5,6,7,8,9] [10] (by kernel_rfl) (by kernel_rfl) (KeepRow.grows _ _ _) (KeepRow.refl _ _ _ (by simpa using g0z)) ?_
            iterate 7
             refine x_still rfl rfl rfl (fun K hK=>?_)
             apply Exists.intro
             refine ⟨fun w' hw'=>?_,?_⟩
             ·obtain ⟨hc',hf'⟩:=hw'.1.cell
              have hk':=hw'.2.1
              try simp only [World.size_drew] at hc' hf' hk'
              go_simp
              rfl
             go_simp
             refine hK _ _ _ ?_
             clear hK K
            refine x_make rfl rfl rfl (KeepRow.grows _ _ _) (KeepRow.refl _ _ _ (by simpa using g0z)) (fun b=>.slice (some ⟨b,0,none⟩) 1 1) (fun K hK=>?_)
            apply Exists.intro
            refine ⟨fun w' hw'=>?_,fun bb w5 hw5 hb5 hbo hNb hnb=>?_⟩
            ·go_simp
             rfl
            go_simp
            refine hK _ _ _ ?_
            clear hK K
            refine x_srcC rfl rfl rfl (KeepRow.grows _ _ _) hw5 (.tmp 180) (.tmp 186) 40 rfl (w.heap.size+1+1+1) 3 i0 (.int .i64 0) 1 8 Tryz.underlying40 hi hz0 hz1 hz2 rfl (by decide) (.slice (some ⟨G0,0,none⟩) X.length b0) X.length ((X.map fun p=>(p.1:Int)).flatMap iCell) rfl (fun k hk=>.inl (by simp [Value.ownBlock] at hk;subst hk;simpa using g0z)) ⟨bb,0,none⟩ 1 1 [.int .i64 (g:Int)] rfl rfl (by intro u hu;simp at hu;subst hu;rfl) (by unfold maxLen;omega) (by omega) (by have:=hb5.size;simp at this;omega) ?_ ?_ ?_
            ·intro w6 hw6 hb6
             have hB6:Below WW.heap.size WW w6:=(Below.refl WW.heap.size WW).drew.trans ((hb5.mono (by simp)).trans (hb6.mono (by have:=hb5.size;simpa using this)))
             have r6:=rowsW.r0.keep hB6
             unfold Rw at r6
             rw [List.length_map] at r6
             obtain ⟨m0,_,_⟩:=made_cell ((hb6.block bb (made_cell hbo).2.2).trans hbo)
             refine ⟨r6,fun j u hj=>?_⟩
             match j,hj with
             | 0,hj=>simp at hj;subst hj;simp [Addr.add,m0]
            ·intro w6 w7 v' hw6 hb6 ho7 hg7 hl7
             have hB6:Below WW.heap.size WW w6:=(Below.refl WW.heap.size WW).drew.trans ((hb5.mono (by simp)).trans (hb6.mono (by have:=hb5.size;simpa using this)))
             have r6:=rowsW.r0.keep hB6
             unfold Rw at r6
             rw [List.length_map] at r6
             exact hw6.append rfl r6 (by omega) ho7 (by omega) hg7 hl7
            intro K hK w6 w7 v' hw6 hb6 ho7 hg7 hw7 hl7
            have hB6:Below WW.heap.size WW w6:=(Below.refl WW.heap.size WW).drew.trans ((hb5.mono (by simp)).trans (hb6.mono (by have:=hb5.size;simpa using this)))
            obtain ⟨ao0,cp0,rfl⟩:=owns_shape ho7
            have r7:Rw w7 (w.heap.size+1+1+1) (.slice ao0 (X.length+1) cp0) ((X.map fun p=>(p.1:Int)) ++ [(g:Int)]):=by
             unfold Rw;rw [List.length_append,List.length_map,List.flatMap_append];exact ho7
            have hl7':=hl7.imp id (fun h=>h.1)
            go_simp
            refine hK _ _ _ ?_
            clear hK K
            iterate 1
             refine x_still rfl rfl rfl (fun K hK=>?_)
             apply Exists.intro
             refine ⟨fun w' hw'=>?_,?_⟩
             ·obtain ⟨hc',hf'⟩:=hw'.1.cell
              have hk':=hw'.2.1
              try simp only [World.size_drew] at hc' hf' hk'
              go_simp
              rfl
             go_simp
             refine hK _ _ _ ?_
             clear hK K
            refine x_nil ?_
            have hx7:w.heap.size+1+1<w7.heap.size:=by have h1:=hw7.1.size;simp at h1;omega
            refine ⟨Exc (fun j=>j=w.heap.size+1+1) w7,w7.heap.size,Exc.grows _ _,Exc.refl _ _,?_⟩
            refine x_do rfl rfl rfl (Exc.grows _ _) (Exc.refl _ _) (fun K hK=>?_)
            intro w8 hw8 hb8
            have P1:=app28 rowsW hB6 hg7 r7 hl7' hb8
            have B1:=bel28 (j:=0) (u:=Value.slice ao0 (X.length+1) cp0) belW (by omega) (Nat.le_refl _) (by omega) hB6 rowsW.r0 hg7 hb8
            have c8:=(grown_cell (o:=0) (grown_then hg7 hb8) (rowsW.keep hB6).bz (row_ne rowsW.r0 rowsW.lt))
            have k8:=c8.1.trans (rowsW.keep hB6).x0
            have f8:=c8.2.trans ((rowsW.keep hB6).fx 0)
            clear c8
            refine ⟨w8.setCell ⟨w.heap.size+1+1,0,none⟩ (.slice ao0 (X.length+1) cp0),?_,⟨exc_set hw8 (.inr rfl) _,by simp,fun j hj _ _=>by rw [Below.heap_setCell _ _ _ _ (fun h=>by simp at h;omega)]⟩,?_⟩
            ·go_simp
            go_simp
            refine hK _ _ _ ?_
            clear hK K
            refine x_nil ?_
            generalize w8.setCell ⟨w.heap.size+1+1,0,none⟩ (.slice ao0 (X.length+1) cp0)=W1 at P1 B1
            clear k8 f8 hw8 hb8 hw7 hl7 hl7' hg7 ho7 r7 hB6 hw6 hb6 hx7 hbo hb5 hw5 belW qW1 rowsW z0 z1 z2 zf hnb hNb
            have gs1:=P1.bz
            obtain ⟨z0,z1,z2,zf⟩:=And.intro P1.x0 (And.intro P1.x1 (And.intro P1.x2 P1.fx))
            go_wp2_with (first|(at_builtin;refine int_append rfl (.tmp 190) (.tmp 192) rfl (w.heap.size+1+1+1) _ _ _ _ _ (by simp) rfl rfl P1.r1 (by first|omega|(simp;omega)) (by first|omega|(simp;omega)) ?_;intro u1 W2 p1 p2 p3;obtain ⟨ao1,cp1,rfl⟩:=p1.shape (X.length+1) (by simp);have P2:=(P1.keep (alloc_below _ _)).app1 p2 p1 p3;obtain ⟨k0,k1,k2,kf,ks⟩:=P1.grownCells p2 (row_ne P1.r1 P1.lt);(try simp only [setCell_size] at ks);have B2:=app_below (j:=1) (u:=Value.slice ao1 (X.length+1) cp1) B1 (Nat.le_refl _) (by omega) (by first|omega|(simp;omega)) P1.r1 p2;clear p1 p2 p3)|(at_builtin;refine int_append rfl (.tmp 196) (.tmp 198) rfl (w.heap.size+1+1+1) _ _ _ _ _ (by simp) rfl rfl P2.r2 (by first|omega|(simp;omega)) (by first|omega|(simp;omega)) ?_;intro u2 W3 p1 p2 p3;obtain ⟨ao2,cp2,rfl⟩:=p1.shape (X.length+1) (by simp);have P3:=(P2.keep (alloc_below _ _)).app2 p2 p1 p3;obtain ⟨l0,l1,l2,lf,ls⟩:=P2.grownCells p2 (row_ne P2.r2 P2.lt);(try simp only [setCell_size] at ls);have B3:=app_below (j:=2) (u:=Value.slice ao2 (X.length+1) cp2) B2 (Nat.le_refl _) (by omega) (by first|omega|(simp;omega)) P2.r2 p2;clear p1 p2 p3))
            go_roundw
            case rel=>exact ⟨_,_,_,_,_,by simp;omega,by simp,hst.push B3 P3 (hch' _) HG hsm' ⟨sa1,sa2,sb3,sb4⟩ (HFR.out _)⟩
            case measure=>simp [intOf];omega
          ·
           as_aux_lemma =>
            have HT:=HG2.out (by unfold joinW;rw [if_pos hke,if_neg hjo])
            have gjo:(ta.2 != tb.1)=true:=by simp [hjo]
            clear hke hjo hk15
            go_wp2_with (first|(go_at_call 106;refine (tmLeaf_any ns[X.length] _).mono ?_;rintro e w2 ⟨rfl,hb2⟩;rw [HLF.out];obtain ⟨hc2,hf2,hs2⟩:=bcell hb2;have rows2:=(hrows.keep ((Below.refl _ _).alloc (Nat.le_refl _) _)).keep hb2;simp only [World.size_alloc] at hs2;have hl2:wr.heap.size<w2.heap.size:=(by omega);have hbw:Below wr.heap.size wr w2:=((Below.refl _ _).alloc (Nat.le_refl _) _).trans (hb2.mono (by simp));have hb2':Below (w.heap.size+1+1) wr w2:=((Below.refl _ _).alloc (by omega) _).trans (hb2.mono (by simp;omega));obtain ⟨y0,y1,y2,yf⟩:=And.intro rows2.x0 (And.intro rows2.x1 (And.intro rows2.x2 rows2.fx));clear hb2;have t0:=(Below.cell hb2' (p:=⟨w.heap.size+1,0,none⟩) (by simp)).trans hq0;have t1:=(Below.cell hb2' (p:=⟨w.heap.size+1,1,none⟩) (by simp)).trans hq1;have t2:=(Below.cell hb2' (p:=⟨w.heap.size+1,2,none⟩) (by simp)).trans hq2;have tf:∀ j,w2.frozen? ⟨w.heap.size+1,j,none⟩=false:=fun j=>(Below.frozen hb2' (p:=⟨w.heap.size+1,j,none⟩) (by simp)).trans (hfr j)))
            obtain ⟨⟨ew1,ew2⟩,et1,et2⟩:=ET.out
            have qxb:=rows2.bz;have q0:=cell_keep hbw f0;have q1:=cell_keep hbw f1;have q2:=cell_keep hbw i0';have q3:=cell_keep hbw i1';have q4:=cell_keep hbw o0';have q5:=cell_keep hbw o1';have qz0:=cell_lt q0;have qz1:=cell_lt q2;have qz2:=cell_lt q4
            refine region_acts (C:=Exc (NoT) _) 2 [0,1,2,3,4,5,6,7,8,9,10,11,12,13,14,15,16,17,18,19,20,21,22,23] (by kernel_rfl) (by kernel_rfl) (Exc.grows _ _) (Exc.refl _ _) ?_
            iterate 24 (apply x_st rfl rfl rfl;(focus intro u hc' hf';go_simp <;> rfl);intro K hK;go_simp;apply hK;clear hK K)
            refine x_nil ?_
            go_wp2
            refine region_acts (C:=Exc (NoT) _) 2 [0,1,2,3,4,5,6,7,8,9,10] (by kernel_rfl) (by kernel_rfl) (Exc.grows _ _) (Exc.refl _ _) ?_
            iterate 11 (apply x_st rfl rfl rfl;(focus intro u hc' hf';(try simp only [World.size_drew] at hc' hf');go_simp <;> rfl);intro K hK;go_simp;apply hK;clear hK K)
            refine x_nil ?_
            go_wp2
            (refine bodyPost_ret (v:=.tuple #[.agg #[.slice (some ⟨G0,0,none⟩) X.length b0,.slice (some ⟨G1,0,none⟩) X.length b1,.slice (some ⟨G2,0,none⟩) X.length b2],.bool false]) (by simp [results,Tryz.results278,go_sem,t0,t1,t2]) rfl ⟨_,_,_,_,_,_,_,_,_,by rw [HT.out];rfl,?_,by rw [HT.out];simp⟩;exact (((hbel.trans (hb2'.drew.drew.mono (by omega))).setCell (by simp) _).setCell (by simp) _).setCell (by simp) _)
         ·have gk2:(ns[X.length].kind == 15)=false:=by simpa using gk
          have hke:¬ ns[X.length].kind=15:=by simpa using gk
          by_cases hjo:ta.1+tb.1≤12∧ta.2+tb.2≤12
          ·
           as_aux_lemma =>
            have HG:=HG1.out (ta.1+tb.1,ta.2+tb.2) (by unfold joinW;rw [if_neg hke,if_pos hjo])
            have gb1:¬ (12:Int)<ta.1+tb.1:=by omega
            have gb2:¬ (12:Int)<ta.2+tb.2:=by omega
            have hj1:=hjo.1
            have hj2:=hjo.2
            clear hke hjo hk15
            go_wp2_with (first|(go_at_call 106;refine (tmLeaf_any ns[X.length] _).mono ?_;rintro e w2 ⟨rfl,hb2⟩;rw [HLF.out];obtain ⟨hc2,hf2,hs2⟩:=bcell hb2;have rows2:=(hrows.keep ((Below.refl _ _).alloc (Nat.le_refl _) _)).keep hb2;simp only [World.size_alloc] at hs2;have hl2:wr.heap.size<w2.heap.size:=(by omega);have hbw:Below wr.heap.size wr w2:=((Below.refl _ _).alloc (Nat.le_refl _) _).trans (hb2.mono (by simp));have hb2':Below (w.heap.size+1+1) wr w2:=((Below.refl _ _).alloc (by omega) _).trans (hb2.mono (by simp;omega));obtain ⟨y0,y1,y2,yf⟩:=And.intro rows2.x0 (And.intro rows2.x1 (And.intro rows2.x2 rows2.fx));clear hb2;have t0:=(Below.cell hb2' (p:=⟨w.heap.size+1,0,none⟩) (by simp)).trans hq0;have t1:=(Below.cell hb2' (p:=⟨w.heap.size+1,1,none⟩) (by simp)).trans hq1;have t2:=(Below.cell hb2' (p:=⟨w.heap.size+1,2,none⟩) (by simp)).trans hq2;have tf:∀ j,w2.frozen? ⟨w.heap.size+1,j,none⟩=false:=fun j=>(Below.frozen hb2' (p:=⟨w.heap.size+1,j,none⟩) (by simp)).trans (hfr j)))
            obtain ⟨⟨ew1,ew2⟩,et1,et2⟩:=ET.out
            have qxb:=rows2.bz;have q0:=cell_keep hbw f0;have q1:=cell_keep hbw f1;have q2:=cell_keep hbw i0';have q3:=cell_keep hbw i1';have q4:=cell_keep hbw o0';have q5:=cell_keep hbw o1';have qz0:=cell_lt q0;have qz1:=cell_lt q2;have qz2:=cell_lt q4
            refine region_acts (C:=Exc (NoT) _) 2 [0,1,2,3,4,5,6,7,8,9,10,11,12,13,14,15,16,17,18,19,20,21,22,23] (by kernel_rfl) (by kernel_rfl) (Exc.grows _ _) (Exc.refl _ _) ?_
            iterate 24 (apply x_st rfl rfl rfl;(focus intro u hc' hf';go_simp <;> rfl);intro K hK;go_simp;apply hK;clear hK K)
            refine x_nil ?_
            go_wp2
            generalize hWW:w2.drew=WW
            have rowsW:Rows3 WW (w.heap.size+1+1+1) (w.heap.size+1+1) (Value.slice (some ⟨G0,0,none⟩) X.length b0) (Value.slice (some ⟨G1,0,none⟩) X.length b1) (Value.slice (some ⟨G2,0,none⟩) X.length b2) (X.map fun p=>(p.1:Int)) (X.map fun p=>p.2.1) (X.map fun p=>p.2.2):=by
             rw [← hWW];exact rows2.keep (Below.refl _ _).drew
            have belW:Below (w.heap.size+1+1) wr WW:=by rw [← hWW];exact hb2'.drew
            have qW1:WW.cell? ⟨G0,f - 1,none⟩=some (.int .i64 (g:Int)):=by rw [← hWW];exact q1
            clear hWW
            have xbz:w.heap.size+1+1<WW.heap.size:=rowsW.bz
            have xG:¬ w.heap.size+1+1=G0:=fun e=>row_ne rowsW.r0 rowsW.lt (by rw [← e];rfl)
            have g0z:=cell_lt qW1
            obtain ⟨z0,z1,z2,zf⟩:=And.intro rowsW.x0 (And.intro rowsW.x1 (And.intro rowsW.x2 rowsW.fx))
            have hfl2:f - 1<X.length:=by omega
            refine region_acts2 (C:=KeepRow WW.drew G0 X.length) (N:=WW.drew.heap.size) 3 [0,1,2,3,4,5,6,7,8,9] [10] (by kernel_rfl) (by kernel_rfl) (KeepRow.grows _ _ _) (KeepRow.refl _ _ _ (by simpa using g0z)) ?_
            iterate 7
             refine x_still rfl rfl rfl (fun K hK=>?_)
             apply Exists.intro
             refine ⟨fun w' hw'=>?_,?_⟩
             ·obtain ⟨hc',hf'⟩:=hw'.1.cell
              have hk':=hw'.2.1
              try simp only [World.size_drew] at hc' hf' hk'
              go_simp
              rfl
             go_simp
             refine hK _ _ _ ?_
             clear hK K
            refine x_make rfl rfl rfl (KeepRow.grows _ _ _) (KeepRow.refl _ _ _ (by simpa using g0z)) (fun b=>.slice (some ⟨b,0,none⟩) 1 1) (fun K hK=>?_)
            apply Exists.intro
            refine ⟨fun w' hw'=>?_,fun bb w5 hw5 hb5 hbo hNb hnb=>?_⟩
            ·go_simp
             rfl
            go_simp
            refine hK _ _ _ ?_
            clear hK K
            refine x_srcC rfl rfl rfl (KeepRow.grows _ _ _) hw5 (.tmp 180) (.tmp 186) 40 rfl (w.heap.size+1+1+1) 3 i0 (.int .i64 0) 1 8 Tryz.underlying40 hi hz0 hz1 hz2 rfl (by decide) (.slice (some ⟨G0,0,none⟩) X.length b0) X.length ((X.map fun p=>(p.1:Int)).flatMap iCell) rfl (fun k hk=>.inl (by simp [Value.ownBlock] at hk;subst hk;simpa using g0z)) ⟨bb,0,none⟩ 1 1 [.int .i64 (g:Int)] rfl rfl (by intro u hu;simp at hu;subst hu;rfl) (by unfold maxLen;omega) (by omega) (by have:=hb5.size;simp at this;omega) ?_ ?_ ?_
            ·intro w6 hw6 hb6
             have hB6:Below WW.heap.size WW w6:=(Below.refl WW.heap.size WW).drew.trans ((hb5.mono (by simp)).trans (hb6.mono (by have:=hb5.size;simpa using this)))
             have r6:=rowsW.r0.keep hB6
             unfold Rw at r6
             rw [List.length_map] at r6
             obtain ⟨m0,_,_⟩:=made_cell ((hb6.block bb (made_cell hbo).2.2).trans hbo)
             refine ⟨r6,fun j u hj=>?_⟩
             match j,hj with
             | 0,hj=>simp at hj;subst hj;simp [Addr.add,m0]
            ·intro w6 w7 v' hw6 hb6 ho7 hg7 hl7
             have hB6:Below WW.heap.size WW w6:=(Below.refl WW.heap.size WW).drew.trans ((hb5.mono (by simp)).trans (hb6.mono (by have:=hb5.size;simpa using this)))
             have r6:=rowsW.r0.keep hB6
             unfold Rw at r6
             rw [List.length_map] at r6
             exact hw6.append rfl r6 (by omega) ho7 (by omega) hg7 hl7
            intro K hK w6 w7 v' hw6 hb6 ho7 hg7 hw7 hl7
            have hB6:Below WW.heap.size WW w6:=(Below.refl WW.heap.size WW).drew.trans ((hb5.mono (by simp)).trans (hb6.mono (by have:=hb5.size;simpa using this)))
            obtain ⟨ao0,cp0,rfl⟩:=owns_shape ho7
            have r7:Rw w7 (w.heap.size+1+1+1) (.slice ao0 (X.length+1) cp0) ((X.map fun p=>(p.1:Int)) ++ [(g:Int)]):=by
             unfold Rw;rw [List.length_append,List.length_map,List.flatMap_append];exact ho7
            have hl7':=hl7.imp id (fun h=>h.1)
            go_simp
            refine hK _ _ _ ?_
            clear hK K
            iterate 1
             refine x_still rfl rfl rfl (fun K hK=>?_)
             apply Exists.intro
             refine ⟨fun w' hw'=>?_,?_⟩
             ·obtain ⟨hc',hf'⟩:=hw'.1.cell
              have hk':=hw'.2.1
              try simp only [World.size_drew] at hc' hf' hk'
              go_simp
              rfl
             go_simp
             refine hK _ _ _ ?_
             clear hK K
            refine x_nil ?_
            have hx7:w.heap.size+1+1<w7.heap.size:=by have h1:=hw7.1.size;simp at h1;omega
            refine ⟨Exc (fun j=>j=w.heap.size+1+1) w7,w7.heap.size,Exc.grows _ _,Exc.refl _ _,?_⟩
            refine x_do rfl rfl rfl (Exc.grows _ _) (Exc.refl _ _) (fun K hK=>?_)
            intro w8 hw8 hb8
            have P1:=app28 rowsW hB6 hg7 r7 hl7' hb8
            have B1:=bel28 (j:=0) (u:=Value.slice ao0 (X.length+1) cp0) belW (by omega) (Nat.le_refl _) (by omega) hB6 rowsW.r0 hg7 hb8
            have c8:=(grown_cell (o:=0) (grown_then hg7 hb8) (rowsW.keep hB6).bz (row_ne rowsW.r0 rowsW.lt))
            have k8:=c8.1.trans (rowsW.keep hB6).x0
            have f8:=c8.2.trans ((rowsW.keep hB6).fx 0)
            clear c8
            refine ⟨w8.setCell ⟨w.heap.size+1+1,0,none⟩ (.slice ao0 (X.length+1) cp0),?_,⟨exc_set hw8 (.inr rfl) _,by simp,fun j hj _ _=>by rw [Below.heap_setCell _ _ _ _ (fun h=>by simp at h;omega)]⟩,?_⟩
            ·go_simp
            go_simp
            refine hK _ _ _ ?_
            clear hK K
            refine x_nil ?_
            generalize w8.setCell ⟨w.heap.size+1+1,0,none⟩ (.slice ao0 (X.length+1) cp0)=W1 at P1 B1
            clear k8 f8 hw8 hb8 hw7 hl7 hl7' hg7 ho7 r7 hB6 hw6 hb6 hx7 hbo hb5 hw5 belW qW1 rowsW z0 z1 z2 zf hnb hNb
            have gs1:=P1.bz
            obtain ⟨z0,z1,z2,zf⟩:=And.intro P1.x0 (And.intro P1.x1 (And.intro P1.x2 P1.fx))
            go_wp2_with (first|(at_builtin;refine int_append rfl (.tmp 190) (.tmp 192) rfl (w.heap.size+1+1+1) _ _ _ _ _ (by simp) rfl rfl P1.r1 (by first|omega|(simp;omega)) (by first|omega|(simp;omega)) ?_;intro u1 W2 p1 p2 p3;obtain ⟨ao1,cp1,rfl⟩:=p1.shape (X.length+1) (by simp);have P2:=(P1.keep (alloc_below _ _)).app1 p2 p1 p3;obtain ⟨k0,k1,k2,kf,ks⟩:=P1.grownCells p2 (row_ne P1.r1 P1.lt);(try simp only [setCell_size] at ks);have B2:=app_below (j:=1) (u:=Value.slice ao1 (X.length+1) cp1) B1 (Nat.le_refl _) (by omega) (by first|omega|(simp;omega)) P1.r1 p2;clear p1 p2 p3)|(at_builtin;refine int_append rfl (.tmp 196) (.tmp 198) rfl (w.heap.size+1+1+1) _ _ _ _ _ (by simp) rfl rfl P2.r2 (by first|omega|(simp;omega)) (by first|omega|(simp;omega)) ?_;intro u2 W3 p1 p2 p3;obtain ⟨ao2,cp2,rfl⟩:=p1.shape (X.length+1) (by simp);have P3:=(P2.keep (alloc_below _ _)).app2 p2 p1 p3;obtain ⟨l0,l1,l2,lf,ls⟩:=P2.grownCells p2 (row_ne P2.r2 P2.lt);(try simp only [setCell_size] at ls);have B3:=app_below (j:=2) (u:=Value.slice ao2 (X.length+1) cp2) B2 (Nat.le_refl _) (by omega) (by first|omega|(simp;omega)) P2.r2 p2;clear p1 p2 p3))
            go_roundw
            case rel=>exact ⟨_,_,_,_,_,by simp;omega,by simp,hst.push B3 P3 (hch' _) HG hsm' ⟨by omega,by omega,by omega,by omega⟩ (HFR.out _)⟩
            case measure=>simp [intOf];omega
          ·
           as_aux_lemma =>
            have HT:=HG2.out (by unfold joinW;rw [if_neg hke,if_neg hjo])
            have hjj:(12:Int)<ta.1+tb.1∨(ta.1+tb.1≤12∧(12:Int)<ta.2+tb.2):=by omega
            clear hke hjo hk15
            rcases hjj with gb1|⟨gb1,gb2⟩
            all_goals
             go_wp2_with (first|(go_at_call 106;refine (tmLeaf_any ns[X.length] _).mono ?_;rintro e w2 ⟨rfl,hb2⟩;rw [HLF.out];obtain ⟨hc2,hf2,hs2⟩:=bcell hb2;have rows2:=(hrows.keep ((Below.refl _ _).alloc (Nat.le_refl _) _)).keep hb2;simp only [World.size_alloc] at hs2;have hl2:wr.heap.size<w2.heap.size:=(by omega);have hbw:Below wr.heap.size wr w2:=((Below.refl _ _).alloc (Nat.le_refl _) _).trans (hb2.mono (by simp));have hb2':Below (w.heap.size+1+1) wr w2:=((Below.refl _ _).alloc (by omega) _).trans (hb2.mono (by simp;omega));obtain ⟨y0,y1,y2,yf⟩:=And.intro rows2.x0 (And.intro rows2.x1 (And.intro rows2.x2 rows2.fx));clear hb2;have t0:=(Below.cell hb2' (p:=⟨w.heap.size+1,0,none⟩) (by simp)).trans hq0;have t1:=(Below.cell hb2' (p:=⟨w.heap.size+1,1,none⟩) (by simp)).trans hq1;have t2:=(Below.cell hb2' (p:=⟨w.heap.size+1,2,none⟩) (by simp)).trans hq2;have tf:∀ j,w2.frozen? ⟨w.heap.size+1,j,none⟩=false:=fun j=>(Below.frozen hb2' (p:=⟨w.heap.size+1,j,none⟩) (by simp)).trans (hfr j)))
             obtain ⟨⟨ew1,ew2⟩,et1,et2⟩:=ET.out
             have qxb:=rows2.bz;have q0:=cell_keep hbw f0;have q1:=cell_keep hbw f1;have q2:=cell_keep hbw i0';have q3:=cell_keep hbw i1';have q4:=cell_keep hbw o0';have q5:=cell_keep hbw o1';have qz0:=cell_lt q0;have qz1:=cell_lt q2;have qz2:=cell_lt q4
             refine region_acts (C:=Exc (NoT) _) 2 [0,1,2,3,4,5,6,7,8,9,10,11,12,13,14,15,16,17,18,19,20,21,22,23] (by kernel_rfl) (by kernel_rfl) (Exc.grows _ _) (Exc.refl _ _) ?_
             iterate 24 (apply x_st rfl rfl rfl;(focus intro u hc' hf';go_simp <;> rfl);intro K hK;go_simp;apply hK;clear hK K)
             refine x_nil ?_
             go_wp2
             (refine bodyPost_ret (v:=.tuple #[.agg #[.slice (some ⟨G0,0,none⟩) X.length b0,.slice (some ⟨G1,0,none⟩) X.length b1,.slice (some ⟨G2,0,none⟩) X.length b2],.bool false]) (by simp [results,Tryz.results278,go_sem,t0,t1,t2]) rfl ⟨_,_,_,_,_,_,_,_,_,by rw [HT.out];rfl,?_,by rw [HT.out];simp⟩;exact (((hbel.trans (hb2'.drew.mono (by omega))).setCell (by simp) _).setCell (by simp) _).setCell (by simp) _)
       ·
        as_aux_lemma =>
         have HT:Hid (typedL (leafIn L) ns=none):=(show _=_ by
          unfold typedL
          rw [if_pos hl,hst.go.out,HD.out,typedGo_bad hk15 hvn])
         have hvn':(!ns[X.length].name.toList.isEmpty)=true∨((!ns[X.length].name.toList.isEmpty)=false∧(ns[X.length].value != 0)=true):=by
          by_cases hm0:ns[X.length].name=ByteArray.empty
          ·refine .inr ⟨by have:=(toList_nil_iff_emptyBytes _).2 hm0;simp [this],?_⟩
           simpa using fun h=>hvn ⟨h,hm0⟩
          ·refine .inl ?_
           have:¬ ns[X.length].name.toList=[]:=fun h=>hm0 ((toList_nil_iff_emptyBytes _).1 h)
           simpa using this
         clear hvn hk15 hk17 hlf
         rcases hkk with gk|⟨gk,gk'⟩ <;> rcases hvn' with gn|⟨gn,gv⟩
         all_goals
          go_wp2_with (first|(go_at_call 106;refine (tmLeaf_any ns[X.length] _).mono ?_;rintro e w2 ⟨rfl,hb2⟩;rw [HLF.out];obtain ⟨hc2,hf2,hs2⟩:=bcell hb2;have rows2:=(hrows.keep ((Below.refl _ _).alloc (Nat.le_refl _) _)).keep hb2;simp only [World.size_alloc] at hs2;have hl2:wr.heap.size<w2.heap.size:=(by omega);have hbw:Below wr.heap.size wr w2:=((Below.refl _ _).alloc (Nat.le_refl _) _).trans (hb2.mono (by simp));have hb2':Below (w.heap.size+1+1) wr w2:=((Below.refl _ _).alloc (by omega) _).trans (hb2.mono (by simp;omega));obtain ⟨y0,y1,y2,yf⟩:=And.intro rows2.x0 (And.intro rows2.x1 (And.intro rows2.x2 rows2.fx));clear hb2;have t0:=(Below.cell hb2' (p:=⟨w.heap.size+1,0,none⟩) (by simp)).trans hq0;have t1:=(Below.cell hb2' (p:=⟨w.heap.size+1,1,none⟩) (by simp)).trans hq1;have t2:=(Below.cell hb2' (p:=⟨w.heap.size+1,2,none⟩) (by simp)).trans hq2;have tf:∀ j,w2.frozen? ⟨w.heap.size+1,j,none⟩=false:=fun j=>(Below.frozen hb2' (p:=⟨w.heap.size+1,j,none⟩) (by simp)).trans (hfr j)))
          (refine bodyPost_ret (v:=.tuple #[.agg #[.slice a0 X.length b0,.slice a1 X.length b1,.slice a2 X.length b2],.bool false]) (by simp [results,Tryz.results278,go_sem,t0,t1,t2]) rfl ⟨_,_,_,_,_,_,_,_,_,by rw [HT.out];rfl,?_,by rw [HT.out];simp⟩;exact (((hbel.trans (hb2'.mono (by omega))).setCell (by simp) _).setCell (by simp) _).setCell (by simp) _)
      ·have HT:Hid (typedL (leafIn L) ns=none):=(show _=_ by
        unfold typedL
        rw [if_pos hl,hst.go.out,HD.out,typedGo_no hk15 (by unfold leafIn;rw [if_neg hk17,if_neg hlf])])
       have gk:(ns[X.length].kind != 15)=true:=by simp;omega
       have gk':(ns[X.length].kind != 16)=true:=by simp;omega
       clear hk15 hk17 hlf
       go_wp2_with (first|(go_at_call 106;refine (tmLeaf_any ns[X.length] _).mono ?_;rintro e w2 ⟨rfl,hb2⟩;rw [HLF.out];obtain ⟨hc2,hf2,hs2⟩:=bcell hb2;have rows2:=(hrows.keep ((Below.refl _ _).alloc (Nat.le_refl _) _)).keep hb2;simp only [World.size_alloc] at hs2;have hl2:wr.heap.size<w2.heap.size:=(by omega);have hbw:Below wr.heap.size wr w2:=((Below.refl _ _).alloc (Nat.le_refl _) _).trans (hb2.mono (by simp));have hb2':Below (w.heap.size+1+1) wr w2:=((Below.refl _ _).alloc (by omega) _).trans (hb2.mono (by simp;omega));obtain ⟨y0,y1,y2,yf⟩:=And.intro rows2.x0 (And.intro rows2.x1 (And.intro rows2.x2 rows2.fx));clear hb2;have t0:=(Below.cell hb2' (p:=⟨w.heap.size+1,0,none⟩) (by simp)).trans hq0;have t1:=(Below.cell hb2' (p:=⟨w.heap.size+1,1,none⟩) (by simp)).trans hq1;have t2:=(Below.cell hb2' (p:=⟨w.heap.size+1,2,none⟩) (by simp)).trans hq2;have tf:∀ j,w2.frozen? ⟨w.heap.size+1,j,none⟩=false:=fun j=>(Below.frozen hb2' (p:=⟨w.heap.size+1,j,none⟩) (by simp)).trans (hfr j)))
       (refine bodyPost_ret (v:=.tuple #[.agg #[.slice a0 X.length b0,.slice a1 X.length b1,.slice a2 X.length b2],.bool false]) (by simp [results,Tryz.results278,go_sem,t0,t1,t2]) rfl ⟨_,_,_,_,_,_,_,_,_,by rw [HT.out];rfl,?_,by rw [HT.out];simp⟩;exact (((hbel.trans (hb2'.mono (by omega))).setCell (by simp) _).setCell (by simp) _).setCell (by simp) _)
   ·
    as_aux_lemma =>
     have hkl:X.length=ns.length:=by omega
     have hgo:=hst.go.out
     rw [hkl,List.drop_length] at hgo
     have hgo':typedGo (leafIn L) ns []=some st:=hgo
     obtain ⟨G0,hG0⟩:=hrows.r0.some (by simp;omega)
     subst hG0
     obtain ⟨fl,hfl,hcase⟩:∃ fl:Nat,(∃ t,X[X.length - 1]?=some (fl,t))∧((((fl:Int) == 0)=true∧∃ t,typedL (leafIn L) ns=some t∧Hid (X[X.length - 1]?=some (0,t)))∨(((fl:Int) == 0)=false∧typedL (leafIn L) ns=none)):=by
      match st,hst.ch,hgo' with
      | [],h,_=>have:=chain_nil h;subst this;simp at hkl;omega
      | [tb],h,e=>exact ⟨0,⟨tb,(chain_one h).2⟩,.inl ⟨rfl,tb,by unfold typedL;rw [if_pos hl,e],show Hid _ from (chain_one h).2⟩⟩
      | tb :: ta :: r,h,e =>
       obtain ⟨f,g,hXl,hf1,_⟩:=chain_two h
       exact ⟨f,⟨tb,hXl⟩,.inr ⟨by simp;omega,by unfold typedL;rw [if_pos hl,e]⟩⟩
     obtain ⟨tl,hXl⟩:=hfl
     have f0:wr.cell? ⟨G0,ns.length - 1,none⟩=some (.int .i64 (fl:Int)):=by obtain ⟨hi0,he0⟩:=getE hXl (fun p:Nat × W2=>(p.1:Int));rw [← hkl,hrows.r0.cell _ hi0,he0]
     have hGz:=cell_lt f0
     have hGB:w.heap.size+1+1+1≤G0:=(World.ownsRow.lt hrows.r0 G0 rfl).1
     have gi1:(1:Int)≤ns.length:=by omega
     have gi2:(ns.length:Int) - 1<X.length:=by omega
     have et1:((ns.length:Int) - 1).toNat=ns.length - 1:=by omega
     have et0:IntKind.i64.wrap ((ns.length:Int) - 1)=(ns.length:Int) - 1:=IntWalk.i64_in _ (by omega)
     have gl:¬ (X.length:Int)<ns.length:=by omega
     have ETT:=Lib.hid (And.intro et0 et1)
     clear et0 et1
     have nT1:¬ w.heap.size=w.heap.size+1:=by omega
     have nT2:¬ w.heap.size+1+1=w.heap.size+1:=by omega
     have nT3:¬ G0=w.heap.size+1:=by omega
     have sz1:w.heap.size<wr.heap.size:=by omega
     have HFRX:=Lib.hid hst.fr
     have HK:=Lib.hid hkl
     have HX:=Lib.hid hXl
     clear hkl hgo hgo' hXl
     have fin:∀ (W:World),Below (w.heap.size+1+1) wr W → Below wr.heap.size wr W → Rows3 W (w.heap.size+1+1+1) (w.heap.size+1+1) (Value.slice (some ⟨G0,0,none⟩) X.length b0) (Value.slice a1 X.length b1) (Value.slice a2 X.length b2) (X.map fun p=>(p.1:Int)) (X.map fun p=>p.2.1) (X.map fun p=>p.2.2):=fun W _ h=>hrows.keep h
     rcases hcase with ⟨gq,t,HT,hXt⟩|⟨gq,HT⟩
     all_goals
      have HTT:=Lib.hid HT
      clear HT
      go_wp2
      obtain ⟨et0,et1⟩:=ETT.out
      refine region_acts (C:=Exc ((fun j=>j=w.heap.size+1)) _) 2 [0,1,2,3,4,5,6,7,8,9,10,11] (by kernel_rfl) (by kernel_rfl) (Exc.grows _ _) (Exc.refl _ _) ?_
      iterate 10 (apply x_sT rfl rfl rfl;(focus intro u hc' hf';(try simp only [World.size_drew] at hc' hf');go_simp <;> rfl);intro K hK;go_simp;apply hK;clear hK K)
      refine x_do rfl rfl rfl (Exc.grows _ _) (Exc.refl _ _) (fun K hK=>?_)
      intro w8 hw8 hb8
      have hb8':Below wr.heap.size wr w8:=(Below.refl wr.heap.size wr).drew.trans (hb8.mono (by simp))
      have k0:=cell_keep hb8' hq0
      have k1:=cell_keep hb8' hq1
      have k2:=cell_keep hb8' hq2
      have kf:∀ j,w8.frozen? ⟨w.heap.size+1,j,none⟩=false:=fun j=>(hb8'.frozen (p:=⟨w.heap.size+1,j,none⟩) (by simp;omega)).trans (hfr j)
      have R8:=hrows.keep hb8'
      refine ⟨((w8.setCell ⟨w.heap.size+1,0,none⟩ (.slice (some ⟨G0,0,none⟩) X.length b0)).setCell ⟨w.heap.size+1,1,none⟩ (.slice a1 X.length b1)).setCell ⟨w.heap.size+1,2,none⟩ (.slice a2 X.length b2),?_,⟨exc_set (exc_set (exc_set hw8 (.inr rfl) _) (.inr rfl) _) (.inr rfl) _,by simp,fun j hj _ _=>by rw [Below.heap_setCell _ _ _ _ (fun h=>by simp at h hj;omega),Below.heap_setCell _ _ _ _ (fun h=>by simp at h hj;omega),Below.heap_setCell _ _ _ _ (fun h=>by simp at h hj;omega)]⟩,?_⟩
      ·go_simp
      go_simp
      refine hK _ _ _ ?_
      clear hK K
      refine x_still rfl rfl rfl (fun K hK=>?_)
      apply Exists.intro
      refine ⟨fun w' hw'=>?_,?_⟩
      ·go_simp
       rfl
      go_simp
      refine hK _ _ _ ?_
      clear hK K
      refine x_nil ?_
      go_wp2
      have hB9:Below w.heap.size w (((w8.setCell ⟨w.heap.size+1,0,none⟩ (.slice (some ⟨G0,0,none⟩) X.length b0)).setCell ⟨w.heap.size+1,1,none⟩ (.slice a1 X.length b1)).setCell ⟨w.heap.size+1,2,none⟩ (.slice a2 X.length b2)):=(((hbel.trans (hb8'.mono hbel.size)).setCell (by simp) _).setCell (by simp) _).setCell (by simp) _
      have q0:=(((R8.r0.other ⟨w.heap.size+1,0,none⟩ (.slice (some ⟨G0,0,none⟩) X.length b0) (by simp)).other ⟨w.heap.size+1,1,none⟩ (.slice a1 X.length b1) (by simp)).other ⟨w.heap.size+1,2,none⟩ (.slice a2 X.length b2) (by simp))
      have q1:=(((R8.r1.other ⟨w.heap.size+1,0,none⟩ (.slice (some ⟨G0,0,none⟩) X.length b0) (by simp)).other ⟨w.heap.size+1,1,none⟩ (.slice a1 X.length b1) (by simp)).other ⟨w.heap.size+1,2,none⟩ (.slice a2 X.length b2) (by simp))
      have q2:=(((R8.r2.other ⟨w.heap.size+1,0,none⟩ (.slice (some ⟨G0,0,none⟩) X.length b0) (by simp)).other ⟨w.heap.size+1,1,none⟩ (.slice a1 X.length b1) (by simp)).other ⟨w.heap.size+1,2,none⟩ (.slice a2 X.length b2) (by simp))
     ·refine bodyPost_ret (v:=.tuple #[.agg #[.slice (some ⟨G0,0,none⟩) X.length b0,.slice a1 X.length b1,.slice a2 X.length b2],.bool true]) (by simp [results,Tryz.results278,go_sem,k0,k1,k2]) rfl ⟨_,_,_,_,_,_,_,_,_,by rw [HTT.out];rfl,hB9,fun t' ht'=>⟨X,HK.out,?_,owns_mono (by omega) q0,owns_mono (by omega) q1,owns_mono (by omega) q2,HFRX.out⟩⟩
      rw [HTT.out] at ht'
      obtain rfl:=Option.some.inj ht'
      rw [← HK.out]
      exact hXt.out
     ·refine bodyPost_ret (v:=.tuple #[.agg #[.slice (some ⟨G0,0,none⟩) X.length b0,.slice a1 X.length b1,.slice a2 X.length b2],.bool false]) (by simp [results,Tryz.results278,go_sem,k0,k1,k2]) rfl ⟨_,_,_,_,_,_,_,_,_,by rw [HTT.out];rfl,hB9,by rw [HTT.out];simp⟩
 ·have g1:inB ns.length 1 400=false:=by simp [inB];omega
  have HT:=Lib.hid (show typedL (leafIn L) ns=none by unfold typedL;rw [if_neg hl])
  go_enter Tryz.func278,Tryz.ntmps278
  go_wp2_with (go_at_call 80;refine (l1In_any _ _ _ _).mono ?_;rintro e w1 ⟨rfl,rfl⟩)
  refine bodyPost_ret (v:=.tuple #[.agg #[.slice none 0 0,.slice none 0 0,.slice none 0 0],.bool false]) (by simp [results,Tryz.results278,go_sem]) rfl ⟨_,_,_,_,_,_,_,_,_,by rw [HT.out];rfl,?_,by rw [HT.out];simp⟩
  exact (((Below.refl _ _).alloc (Nat.le_refl _) _).alloc (by simp) _).alloc (by simp;omega) _
theorem lbScan_any (v:Value) (L:List Df) (v':Value) (ns:List Nd) (w:World) (hL:DfsAt w v L) (hLn:L.length≤1048576) (hLs:∀ d ∈ L,Sm (d.inn,d.out)) (hv:NdsAt w v' ns) (hok:NdsOk ns) :
  Calls Tryz.prog 278 #[v,.agg #[v']] w (ScanPost L ns w):=by
 refine (lbScanF_any v L v' ns w hL hLn hLs hv hok).mono ?_
 rintro e w' ⟨a0,n0,c0,a1,n1,c1,a2,n2,c2,h1,h2,h3⟩
 refine ⟨a0,n0,c0,a1,n1,c1,a2,n2,c2,h1,h2,fun t ht=>?_⟩
 obtain ⟨X,q1,q2,q3,q4,q5,_⟩:=h3 t ht
 exact ⟨X,q1,q2,q3,q4,q5⟩
end Go.Proofs.YtbljmfcifljkaaaGreatDoor
