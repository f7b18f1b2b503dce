/-
  The walk of lbScan. Own work.
-/
import Derived.Test.YtikgblkfmpecfaaGreatDoorWF
import Derived.Test.YtikgblkfmpecfaaGreatDoorWA
import Derived.Test.YtikgblkfmpecfaaGreatDoorWB
set_option linter.all false
set_option maxRecDepth 100000
set_option maxHeartbeats 8000000
namespace Go.Proofs.YtikgblkfmpecfaaGreatDoor
open Go.RowKit
def yc (w:World) (v:Value):World:=(w.alloc (.cells #[v] 27)).alloc (.cells #[.slice none 0 0,.slice none 0 0,.slice none 0 0] 148)
structure EL (L:List Df) (ns:List Nd) (w wr:World) (v v0 v1 v2:Value) (X:List (Nat×W2)) (st:List W2):Prop where
 bel:Below (w.heap.size+1+1) (yc w v) wr
 rows:kF wr (w.heap.size+1+1+1) (w.heap.size+1+1) v0 v1 v2 (X.map λp=>(p.1:Int)) (X.map λp=>p.2.1) (X.map λp=>p.2.2)
 ch:Chain X st
 go:Hid (bU (aO L) ns []=bU (aO L) (ns.drop X.length) st)
 sm:∀x∈st,Sm x
theorem EL.facts {L:List Df} {ns:List Nd} {w wr:World} {v v0 v1 v2:Value} {X:List (Nat×W2)} {st:List W2} (h:EL L ns w wr v v0 v1 v2 X st) :
  Below w.heap.size w wr/\w.heap.size+1+1<wr.heap.size/\wr.cell? ⟨w.heap.size,0,none⟩=some v/\(∀j,wr.frozen? ⟨w.heap.size+1,j,none⟩=false) /\
   wr.cell? ⟨w.heap.size+1,0,none⟩=some (.slice none 0 0)/\wr.cell? ⟨w.heap.size+1,1,none⟩=some (.slice none 0 0)/\wr.cell? ⟨w.heap.size+1,2,none⟩=some (.slice none 0 0):=by
 have hb:=h.bel;have h0:(yc w v).heap.size=w.heap.size+1+1:=by simp[yc]
 have bz:=h.rows.bz;refine⟨(((Below.refl _ _).alloc (Nat.le_refl _) _).alloc (by simp) _).trans (hb.mono (by omega)),by omega,?_,?_,?_,?_,?_⟩
 ·rw[hb.cell (p:=⟨w.heap.size,0,none⟩) (by simp;omega)];simp[yc,go_sem]
 ·intro j;rw[hb.frozen (p:=⟨w.heap.size+1,j,none⟩) (by simp)];simp[yc,go_sem]
 ·rw[hb.cell (p:=⟨w.heap.size+1,0,none⟩) (by simp)];simp[yc,go_sem]
 ·rw[hb.cell (p:=⟨w.heap.size+1,1,none⟩) (by simp)];simp[yc,go_sem]
 ·rw[hb.cell (p:=⟨w.heap.size+1,2,none⟩) (by simp)];simp[yc,go_sem]
def agc (L:List Df) (ns:List Nd) (w:World) (e:Ending) (w':World):Prop :=
 ∃(a0:Option Addr) (n0 c0:Nat) (a1:Option Addr) (n1 c1:Nat) (a2:Option Addr) (n2 c2:Nat),e=.returned (.tuple #[.agg #[.slice a0 n0 c0,.slice a1 n1 c1,.slice a2 n2 c2],.bool (aS (aO L) ns).isSome])/\Below w.heap.size w w' /\
  ∀t,aS (aO L) ns=some t->∃X:List (Nat×W2),X.length=ns.length/\X[ns.length-1]?=some (0,t) /\
   Rw w' w.heap.size (.slice a0 n0 c0) (X.map λp=>(p.1:Int))/\Rw w' w.heap.size (.slice a1 n1 c1) (X.map λp=>p.2.1)/\Rw w' w.heap.size (.slice a2 n2 c2) (X.map λp=>p.2.2)
theorem EL.push {L:List Df} {ns:List Nd} {w wr W:World} {v v0 v1 v2 u0 u1 u2:Value} {X:List (Nat×W2)} {st st':List W2} (h:EL L ns w wr v v0 v1 v2 X st) {f:Nat} {t:W2}
  (hb:Below (w.heap.size+1+1) wr W) (hr:kF W (w.heap.size+1+1+1) (w.heap.size+1+1) u0 u1 u2 ((X.map λp=>(p.1:Int))++[(f:Int)]) ((X.map λp=>p.2.1)++[t.1]) ((X.map λp=>p.2.2)++[t.2]))
  (hc:Chain (X++[(f,t)]) (t::st')) (hgo:Hid (bU (aO L) ns []=bU (aO L) (ns.drop (X.length+1)) (t::st'))) (hs:∀x∈st',Sm x) (ht:Sm t) :
  EL L ns w W v u0 u1 u2 (X++[(f,t)]) (t::st'):=by
 refine⟨h.bel.trans hb,?_,hc,?_,?_⟩
 ·simpa using hr
 ·simpa using hgo
 ·intro x hx;rcases List.mem_cons.1 hx with rfl|hx;exact ht;exact hs x hx
theorem wK {w0 w W:World} {B0 B xb j:Nat} {v u:Value} {xs:List Int} {o:Obj} (h:Below B0 w0 w) (hx:B0<=xb) (hB:B0<=B) (hsz:B0<=w.heap.size) (hr:Rw w B v xs) (hg:(w.alloc o).grownBy W v.ownBlock) :
  Below B0 w0 (W.setCell ⟨xb,j,none⟩ u) :=
 (((h.alloc hsz o).grown hg (by simp;omega) (λk hk=>by have:=(World.ownsRow.lt hr k hk).1;omega))).setCell hx _
theorem kF.wL {w w':World} {B xb:Nat} {v0 v1 v2:Value} {lU xs1 xs2:List Int} (h:kF w B xb v0 v1 v2 lU xs1 xs2) {o:Obj} {row:Option Nat} (hg:(w.alloc o).grownBy w' row) (hr:row≠some xb) :
  w'.cell? ⟨xb,0,none⟩=some v0/\w'.cell? ⟨xb,1,none⟩=some v1/\w'.cell? ⟨xb,2,none⟩=some v2/\(∀j,w'.frozen? ⟨xb,j,none⟩=false)/\w.heap.size+1<=w'.heap.size:=by
 have h':=h.keep (aj w o);have c:=λo=>DV hg (o:=o) h'.bz hr;exact⟨(c 0).1.trans h'.x0,(c 1).1.trans h'.x1,(c 2).1.trans h'.x2,λj=>(c j).2.trans (h'.fx j),by have:=hg.size;simpa using this⟩
theorem Rw.shape {w:World} {B:Nat} {v:Value} {xs:List Int} (h:Rw w B v xs) (n:Nat) (hn:xs.length=n):∃ao cp,v=.slice ao n cp:=by
 subst hn;exact jc h
theorem agd (k:Int):Sm (gZ k):=by
 unfold gZ;repeat' split
 all_goals (unfold Sm;decide)
theorem Xd {n:Nd} (h:gB n=true):Sm (fH n):=by
 unfold fH;split
 ·rename_i h1
  simp only[gB,Bool.and_eq_true,decide_eq_true_eq]at h;have h2:=h.2;rw[if_pos h1]at h2;simp only[Bool.and_eq_true,decide_eq_true_eq]at h2;exact⟨h2.1,h2.2,h2.1,h2.2⟩
 ·exact agd _
theorem Rw.some {w:World} {B n c:Nat} {a:Option Addr} {xs:List Int} (h:Rw w B (.slice a n c) xs) (hn:0<xs.length):∃g,a=some ⟨g,0,none⟩:=by
 rcases h.2 with⟨h',h0⟩|⟨g,cap,cur,h',_⟩
 ·omega
 ·simp only[Value.slice.injEq]at h';exact⟨g,h'.1⟩
theorem Tj {w w1 w2:World} {row:Option Nat} (h:w.grownBy w1 row) (hb:Below w1.heap.size w1 w2):w.grownBy w2 row :=
 ⟨hb.os.trans h.os,hb.tape.trans h.tape,hb.output.trans h.output,Nat.le_trans h.size hb.size,λk hk hr=>(hb.block k (Nat.lt_of_lt_of_le hk h.size)).trans (h.block k hk hr)⟩
theorem aag {w0 w1 w2 w3:World} {B xb:Nat} {v0 v1 v2 v':Value} {lU xs1 xs2:List Int} {f:Int} (h:kF w0 B xb v0 v1 v2 lU xs1 xs2) (hb1:Below w0.heap.size w0 w1) (hg:w1.grownBy w2 v0.ownBlock) (hr:Rw w2 B v' (lU++[f]))
  (ho:v'.ownBlock=v0.ownBlock\/v'.ownBlock=some w1.heap.size) (hb3:Below w2.heap.size w2 w3):kF (w3.setCell ⟨xb,0,none⟩ v') B xb v' v1 v2 (lU++[f]) xs1 xs2 :=
 (h.keep hb1).app0 (Tj hg hb3) (hr.keep hb3) ho
theorem aah {w0 w1 w2 w3 wr:World} {B0 B xb j:Nat} {v u:Value} {xs:List Int} (h:Below B0 wr w0) (hB0:B0<=w0.heap.size) (hx:B0<=xb) (hB:B0<=B) (hb1:Below w0.heap.size w0 w1) (hr:Rw w0 B v xs) (hg:w1.grownBy w2 v.ownBlock) (hb3:Below w2.heap.size w2 w3) :
  Below B0 wr (w3.setCell ⟨xb,j,none⟩ u):=by
 have h1:=hb1.size;have h2:=hg.size;exact((((h.trans (hb1.mono hB0)).grown hg (by omega) (λk hk=>by have:=(World.ownsRow.lt hr k hk).1;omega))).trans (hb3.mono (by omega))).setCell hx _
theorem wz {α β:Type} {X:List α} {i:Nat} {x:α} (h:X[i]?=some x) (f:α->β):∃hi:i<(X.map f).length,(X.map f)[i]=f x:=by
 obtain⟨hi,he⟩:=List.getElem?_eq_some_iff.1 h;exact⟨by simpa using hi,by simp[he]⟩
theorem XI (v:Value) (L:List Df) (v':Value) (ns:List Nd) (w:World) (hL:aG w v L) (hLn:L.length<=1048576) (pW:∀d∈L,Sm (d.inn,d.out)) (hv:aZ w v' ns) (hok:kL ns) :
  Calls Tryz.prog 87 #[v,.agg #[v']] w (agc L ns w):=by
 obtain⟨hs,hn⟩:=hok;obtain⟨a,cap,rfl,hc,hat⟩:=hv;by_cases hl:1<=ns.length/\ns.length<=400
 ·have g1:inB ns.length 1 400=true:=by simp[inB];omega
  go_enter Tryz.func87,Tryz.ntmps87;go_wp2_with (go_at_call 143;refine(qI _ _ _ _).mono ?_;rintro e w1⟨rfl,rfl⟩)
  obtain⟨i0,hi,hz0,hz1,hz2⟩:=info_parts WV;go_loopw [25] (λi wr=>∃(X:List (Nat×W2)) (st:List W2) (v0 v1 v2:Value),X.length<=ns.length/\i=.int .i64 X.length/\EL L ns w wr (.slice a ns.length cap) v0 v1 v2 X st) (λi _=>ns.length-(intOf i).toNat)
  case atStart =>
   have hr:∀(f:Nat×W2->Int) w' B,Rw w' B (.slice none 0 0) (([]:List (Nat×W2)).map f):=λf w' B=>⟨by simp,.inl ⟨rfl,rfl⟩⟩
   refine⟨[],[],.slice none 0 0,.slice none 0 0,.slice none 0 0,by simp,rfl,?_⟩
   constructor
   case rows =>
    have ha:Apart (.slice none 0 0) (.slice none 0 0):=λk hk=>by simp[Value.ownBlock]at hk
    exact⟨by omega,by simp,by go_simp,by go_simp,by go_simp,λj=>by go_simp,hr _ _ _,hr _ _ _,hr _ _ _,ha,ha,ha⟩
   case ch=>rfl
   case go=>exact(by simp[Hid]:Hid (bU (aO L) ns []=bU (aO L) (ns.drop ([]:List (Nat×W2)).length) ([]:List W2)))
   case sm=>simp
   case bel=>exact(Below.refl _ _).alloc (by simp[yc]) _
  case round =>
   obtain⟨X,st,v0,v1,v2,hk,rfl,hst⟩:=hrel
   obtain⟨hbel,hsz,hbox,hfr,hq0,hq1,hq2⟩:=hst.facts
   have hrows:=hst.rows
   obtain⟨hx0,hx1,hx2,hfx⟩:=And.intro hrows.x0 (And.intro hrows.x1 (And.intro hrows.x2 hrows.fx))
   obtain⟨a0,b0,rfl⟩:=hrows.r0.shape X.length (by simp)
   obtain⟨a1,b1,rfl⟩:=hrows.r1.shape X.length (by simp)
   obtain⟨a2,b2,rfl⟩:=hrows.r2.shape X.length (by simp)
   by_cases hlt:X.length<ns.length
   ·obtain⟨b,o,rfl,_,hnd⟩:=hat X.length hlt
    obtain⟨c0,c1,c2⟩:=hnd.keep hbel
    have hnm:=hs ns[X.length] (List.getElem_mem _)
    have HD:=Lib.hid (List.drop_eq_getElem_cons hlt)
    clear hat hnd hs
    by_cases hlf:gB ns[X.length]=true
    ·
     as_aux_lemma =>
      have pG:(ns[X.length].kind==17)=false:=by
       simp only[gB,Bool.and_eq_true,decide_eq_true_eq]at hlf;simp;omega
      have jH:¬(ns[X.length].kind=15\/ns[X.length].kind=16):=by
       simp only[gB,Bool.and_eq_true,decide_eq_true_eq]at hlf;omega
      have hlw:aO L ns[X.length]=some (fH ns[X.length]):=by
       unfold aO;rw[if_neg (by simpa using pG),if_pos hlf]
      have hsm:=Xd hlf
      have HG:Hid (bU (aO L) ns []=bU (aO L) (ns.drop (X.length+1)) (fH ns[X.length]::st)):=(show bU (aO L) ns []=_ by
       rw[hst.go.out,HD.out,IQ jH hlw])
      have qF:=Lib.hid hlf
      clear hlw jH hlf
      go_wp2_with (first|(go_at_call 144;refine(qh ns[X.length] _).mono ?_;rintro e w2⟨rfl,hb2⟩;rw[qF.out];obtain⟨hc2,hf2,hs2⟩:=bH hb2;have dB:=(hrows.keep ((Below.refl _ _).alloc (Nat.le_refl _) _)).keep hb2;simp only[World.size_alloc]at hs2;have hl2:wr.heap.size<w2.heap.size:=(by omega);have hb2':Below (w.heap.size+1+1) wr w2:=((Below.refl _ _).alloc (by omega) _).trans (hb2.mono (by simp;omega));clear hb2)|(go_at_call 134;refine(DR ns[X.length] _).mono ?_;rintro e w3⟨rfl,hb3⟩;obtain⟨hc3,hf3,hs3⟩:=bH hb3;have hl3:wr.heap.size<w3.heap.size:=(by omega);have iR:=dB.keep hb3;obtain⟨y0,y1,y2,yf⟩:=And.intro iR.x0 (And.intro iR.x1 (And.intro iR.x2 iR.fx));have bK:Below (w.heap.size+1+1) wr w3:=hb2'.trans (hb3.mono (by omega));clear hb3)|(at_builtin;refine vV rfl (.tmp 68) (.tmp 70) rfl (w.heap.size+1+1+1) _ _ _ _ _ (by simp) rfl rfl iR.r0 (by first|omega|(simp;omega)) (by first|omega|(simp;omega)) ?_;intro u0 W1 p1 p2 p3;obtain⟨rJ,cp0,rfl⟩:=p1.shape (X.length+1) (by simp);have P1:=(iR.keep (aj _ _)).app0 p2 p1 p3;obtain⟨g0,g1,g2,gf,gs⟩:=iR.wL p2 (row_ne iR.r0 iR.lt);have B1:=wK (j:=0) (u:=Value.slice rJ (X.length+1) cp0) bK (Nat.le_refl _) (by omega) (by first|omega|(simp;omega)) iR.r0 p2;clear p1 p2 p3)|(at_builtin;refine vV rfl (.tmp 74) (.tmp 76) rfl (w.heap.size+1+1+1) _ _ _ _ _ (by simp) rfl rfl P1.r1 (by first|omega|(simp;omega)) (by first|omega|(simp;omega)) ?_;intro u1 W2 p1 p2 p3;obtain⟨CG,CJ,rfl⟩:=p1.shape (X.length+1) (by simp);have P2:=(P1.keep (aj _ _)).app1 p2 p1 p3;obtain⟨k0,k1,k2,kf,ks⟩:=P1.wL p2 (row_ne P1.r1 P1.lt);(try simp only[yA]at ks);have B2:=wK (j:=1) (u:=Value.slice CG (X.length+1) CJ) B1 (Nat.le_refl _) (by omega) (by first|omega|(simp;omega)) P1.r1 p2;clear p1 p2 p3)|(at_builtin;refine vV rfl (.tmp 80) (.tmp 82) rfl (w.heap.size+1+1+1) _ _ _ _ _ (by simp) rfl rfl P2.r2 (by first|omega|(simp;omega)) (by first|omega|(simp;omega)) ?_;intro u2 W3 p1 p2 p3;obtain⟨CO,cp2,rfl⟩:=p1.shape (X.length+1) (by simp);have P3:=(P2.keep (aj _ _)).JK p2 p1 p3;obtain⟨l0,l1,l2,lf,ls⟩:=P2.wL p2 (row_ne P2.r2 P2.lt);(try simp only[yA]at ls);have B3:=wK (j:=2) (u:=Value.slice CO (X.length+1) cp2) B2 (Nat.le_refl _) (by omega) (by first|omega|(simp;omega)) P2.r2 p2;clear p1 p2 p3))
      go_roundw
      case rel=>exact⟨_,_,_,_,_,by simp;omega,by simp,hst.push B3 P3 (WT hst.ch _) HG hst.sm hsm⟩
      case measure=>simp[intOf];omega
    ·by_cases pG:ns[X.length].kind=17
     ·
      as_aux_lemma =>
       have h17:(ns[X.length].kind==17)=true:=by simp[pG]
       have jH:¬(ns[X.length].kind=15\/ns[X.length].kind=16):=by omega
       have qF:=Lib.hid (show gB ns[X.length]=false by simpa using hlf)
       have hL':=hL
       have mM:=oO ns[X.length].name L 0
       rcases mM with⟨f1,f2⟩|⟨i,hi,f1,f2⟩
       ·
        have HT:Hid (aS (aO L) ns=none):=(show _=_ by
         unfold aS;rw[if_pos hl,hst.go.out,HD.out,IZ jH (by unfold aO;rw[if_pos pG,f2];simp)])
        have F1:=Lib.hid f1
        clear f1 f2 pG jH hlf
        go_wp2_with (first|(go_at_call 144;refine(qh ns[X.length] _).mono ?_;rintro e w2⟨rfl,hb2⟩;rw[qF.out];obtain⟨hc2,hf2,hs2⟩:=bH hb2;have dB:=(hrows.keep ((Below.refl _ _).alloc (Nat.le_refl _) _)).keep hb2;simp only[World.size_alloc]at hs2;have hl2:wr.heap.size<w2.heap.size:=(by omega);have hb2':Below (w.heap.size+1+1) wr w2:=((Below.refl _ _).alloc (by omega) _).trans (hb2.mono (by simp;omega));clear hb2)|(go_at_call 134;refine(DR ns[X.length] _).mono ?_;rintro e w3⟨rfl,hb3⟩;obtain⟨hc3,hf3,hs3⟩:=bH hb3;have hl3:wr.heap.size<w3.heap.size:=(by omega);have iR:=dB.keep hb3;obtain⟨y0,y1,y2,yf⟩:=And.intro iR.x0 (And.intro iR.x1 (And.intro iR.x2 iR.fx));have bK:Below (w.heap.size+1+1) wr w3:=hb2'.trans (hb3.mono (by omega));clear hb3)|(go_at_call 96;refine(nN _ L _ _ (hL.keep (hbel.trans (bK.mono (by omega)))) hLn).mono ?_;rintro e w4⟨rfl,hb4⟩;rw[F1.out];obtain⟨hc4,hf4,hs4⟩:=bH hb4;have hl4:wr.heap.size<w4.heap.size:=(by omega);have gK:=bK.trans (hb4.mono (by omega));have pI:=iR.keep hb4;obtain⟨z0,z1,z2,zf⟩:=And.intro pI.x0 (And.intro pI.x1 (And.intro pI.x2 pI.fx));clear hb4;have t0:=(Below.cell gK (p:=⟨w.heap.size+1,0,none⟩) (by simp)).trans hq0;have t1:=(Below.cell gK (p:=⟨w.heap.size+1,1,none⟩) (by simp)).trans hq1;have t2:=(Below.cell gK (p:=⟨w.heap.size+1,2,none⟩) (by simp)).trans hq2;have tf:∀j,w4.frozen? ⟨w.heap.size+1,j,none⟩=false:=λj=>(Below.frozen gK (p:=⟨w.heap.size+1,j,none⟩) (by simp)).trans (hfr j)))
        (refine bodyPost_ret (v:=.tuple #[.agg #[.slice a0 X.length b0,.slice a1 X.length b1,.slice a2 X.length b2],.bool false]) (by simp[results,Tryz.results87,go_sem,t0,t1,t2]) rfl ⟨_,_,_,_,_,_,_,_,_,by rw[HT.out];rfl,?_,by rw[HT.out];simp⟩;exact(((hbel.trans (gK.mono (by omega))).setCell (by simp) _).setCell (by simp) _).setCell (by simp) _)
       ·rw[Nat.zero_add]at f1
        have F1:=Lib.hid f1
        by_cases hv0:ns[X.length].value=0
        ·have hvv:(ns[X.length].value != 0)=false:=by simp[hv0]
         have hsm:=pW L[i] (List.getElem_mem _)
         have HG:Hid (bU (aO L) ns []=bU (aO L) (ns.drop (X.length+1)) ((L[i].inn,L[i].out)::st)):=(show bU (aO L) ns []=_ by
          rw[hst.go.out,HD.out,IQ jH (by unfold aO;rw[if_pos pG,if_pos hv0,f2];rfl)])
         obtain⟨aL,adb,rfl,_,Bf⟩:=hL'
         obtain⟨bL,oL,rfl,_,d0,d1,d2,_⟩:=Bf i hi
         clear f1 f2 pG jH hlf hv0 Bf
         go_wp2_with (first|(go_at_call 144;refine(qh ns[X.length] _).mono ?_;rintro e w2⟨rfl,hb2⟩;rw[qF.out];obtain⟨hc2,hf2,hs2⟩:=bH hb2;have dB:=(hrows.keep ((Below.refl _ _).alloc (Nat.le_refl _) _)).keep hb2;simp only[World.size_alloc]at hs2;have hl2:wr.heap.size<w2.heap.size:=(by omega);have hb2':Below (w.heap.size+1+1) wr w2:=((Below.refl _ _).alloc (by omega) _).trans (hb2.mono (by simp;omega));clear hb2)|(go_at_call 134;refine(DR ns[X.length] _).mono ?_;rintro e w3⟨rfl,hb3⟩;obtain⟨hc3,hf3,hs3⟩:=bH hb3;have hl3:wr.heap.size<w3.heap.size:=(by omega);have iR:=dB.keep hb3;obtain⟨y0,y1,y2,yf⟩:=And.intro iR.x0 (And.intro iR.x1 (And.intro iR.x2 iR.fx));have bK:Below (w.heap.size+1+1) wr w3:=hb2'.trans (hb3.mono (by omega));clear hb3)|(go_at_call 96;refine(nN _ L _ _ (hL.keep (hbel.trans (bK.mono (by omega)))) hLn).mono ?_;rintro e w4⟨rfl,hb4⟩;rw[F1.out];obtain⟨hc4,hf4,hs4⟩:=bH hb4;have hl4:wr.heap.size<w4.heap.size:=(by omega);have gK:=bK.trans (hb4.mono (by omega));have pI:=iR.keep hb4;obtain⟨z0,z1,z2,zf⟩:=And.intro pI.x0 (And.intro pI.x1 (And.intro pI.x2 pI.fx));clear hb4;have t0:=(Below.cell gK (p:=⟨w.heap.size+1,0,none⟩) (by simp)).trans hq0;have t1:=(Below.cell gK (p:=⟨w.heap.size+1,1,none⟩) (by simp)).trans hq1;have t2:=(Below.cell gK (p:=⟨w.heap.size+1,2,none⟩) (by simp)).trans hq2;have tf:∀j,w4.frozen? ⟨w.heap.size+1,j,none⟩=false:=λj=>(Below.frozen gK (p:=⟨w.heap.size+1,j,none⟩) (by simp)).trans (hfr j)))
         have hd:=hbel.trans (gK.mono (by omega))
         have e1:=ak hd d1
         have e2:=ak hd d2
         have hiN:(i:Int)<L.length:=by omega
         have hbL:=cell_lt e1
         refine bC (C:=ah (aQ) _) 2 [0,1,2,3,4,5,6,7,8,9,10,11] (by kernel_rfl) (by kernel_rfl) (ah.grows _ _) (ah.refl _ _) ?_
         iterate 12 (apply ay rfl rfl rfl;(focus intro u hc' hf';go_simp<;>rfl);intro K hK;go_simp;apply hK;clear hK K)
         refine aK ?_
         have sV:=pI.keep (Below.refl w4.heap.size w4).drew
         have D6:=gK.drew
         have gs5:=sV.bz
         obtain⟨z0',z1',z2',zf'⟩:=And.intro sV.x0 (And.intro sV.x1 (And.intro sV.x2 sV.fx))
         generalize w4.drew=W5 at sV D6 gs5 z0' z1' z2' zf' ⊢
         go_wp2_with (first|(at_builtin;refine vV rfl (.tmp 68) (.tmp 70) rfl (w.heap.size+1+1+1) _ _ _ _ _ (by simp) rfl rfl sV.r0 (by first|omega|(simp;omega)) (by first|omega|(simp;omega)) ?_;intro u0 W1 p1 p2 p3;obtain⟨rJ,cp0,rfl⟩:=p1.shape (X.length+1) (by simp);have P1:=(sV.keep (aj _ _)).app0 p2 p1 p3;obtain⟨g0,g1,g2,gf,gs⟩:=sV.wL p2 (row_ne sV.r0 sV.lt);have B1:=wK (j:=0) (u:=Value.slice rJ (X.length+1) cp0) D6 (Nat.le_refl _) (by omega) (by first|omega|(simp;omega)) sV.r0 p2;clear p1 p2 p3)|(at_builtin;refine vV rfl (.tmp 74) (.tmp 76) rfl (w.heap.size+1+1+1) _ _ _ _ _ (by simp) rfl rfl P1.r1 (by first|omega|(simp;omega)) (by first|omega|(simp;omega)) ?_;intro u1 W2 p1 p2 p3;obtain⟨CG,CJ,rfl⟩:=p1.shape (X.length+1) (by simp);have P2:=(P1.keep (aj _ _)).app1 p2 p1 p3;obtain⟨k0,k1,k2,kf,ks⟩:=P1.wL p2 (row_ne P1.r1 P1.lt);(try simp only[yA]at ks);have B2:=wK (j:=1) (u:=Value.slice CG (X.length+1) CJ) B1 (Nat.le_refl _) (by omega) (by first|omega|(simp;omega)) P1.r1 p2;clear p1 p2 p3)|(at_builtin;refine vV rfl (.tmp 80) (.tmp 82) rfl (w.heap.size+1+1+1) _ _ _ _ _ (by simp) rfl rfl P2.r2 (by first|omega|(simp;omega)) (by first|omega|(simp;omega)) ?_;intro u2 W3 p1 p2 p3;obtain⟨CO,cp2,rfl⟩:=p1.shape (X.length+1) (by simp);have P3:=(P2.keep (aj _ _)).JK p2 p1 p3;obtain⟨l0,l1,l2,lf,ls⟩:=P2.wL p2 (row_ne P2.r2 P2.lt);(try simp only[yA]at ls);have B3:=wK (j:=2) (u:=Value.slice CO (X.length+1) cp2) B2 (Nat.le_refl _) (by omega) (by first|omega|(simp;omega)) P2.r2 p2;clear p1 p2 p3))
         go_roundw
         case rel=>exact⟨_,_,_,_,_,by simp;omega,by simp,hst.push B3 P3 (WT hst.ch _) HG hst.sm hsm⟩
         case measure=>simp[intOf];omega
        ·have hvv:(ns[X.length].value != 0)=true:=by simp[hv0]
         have HT:Hid (aS (aO L) ns=none):=(show _=_ by
          unfold aS;rw[if_pos hl,hst.go.out,HD.out,IZ jH (by unfold aO;rw[if_pos pG,if_neg hv0])])
         clear f1 f2 pG jH hlf hv0
         go_wp2_with (first|(go_at_call 144;refine(qh ns[X.length] _).mono ?_;rintro e w2⟨rfl,hb2⟩;rw[qF.out];obtain⟨hc2,hf2,hs2⟩:=bH hb2;have dB:=(hrows.keep ((Below.refl _ _).alloc (Nat.le_refl _) _)).keep hb2;simp only[World.size_alloc]at hs2;have hl2:wr.heap.size<w2.heap.size:=(by omega);have hb2':Below (w.heap.size+1+1) wr w2:=((Below.refl _ _).alloc (by omega) _).trans (hb2.mono (by simp;omega));clear hb2)|(go_at_call 134;refine(DR ns[X.length] _).mono ?_;rintro e w3⟨rfl,hb3⟩;obtain⟨hc3,hf3,hs3⟩:=bH hb3;have hl3:wr.heap.size<w3.heap.size:=(by omega);have iR:=dB.keep hb3;obtain⟨y0,y1,y2,yf⟩:=And.intro iR.x0 (And.intro iR.x1 (And.intro iR.x2 iR.fx));have bK:Below (w.heap.size+1+1) wr w3:=hb2'.trans (hb3.mono (by omega));clear hb3)|(go_at_call 96;refine(nN _ L _ _ (hL.keep (hbel.trans (bK.mono (by omega)))) hLn).mono ?_;rintro e w4⟨rfl,hb4⟩;rw[F1.out];obtain⟨hc4,hf4,hs4⟩:=bH hb4;have hl4:wr.heap.size<w4.heap.size:=(by omega);have gK:=bK.trans (hb4.mono (by omega));have pI:=iR.keep hb4;obtain⟨z0,z1,z2,zf⟩:=And.intro pI.x0 (And.intro pI.x1 (And.intro pI.x2 pI.fx));clear hb4;have t0:=(Below.cell gK (p:=⟨w.heap.size+1,0,none⟩) (by simp)).trans hq0;have t1:=(Below.cell gK (p:=⟨w.heap.size+1,1,none⟩) (by simp)).trans hq1;have t2:=(Below.cell gK (p:=⟨w.heap.size+1,2,none⟩) (by simp)).trans hq2;have tf:∀j,w4.frozen? ⟨w.heap.size+1,j,none⟩=false:=λj=>(Below.frozen gK (p:=⟨w.heap.size+1,j,none⟩) (by simp)).trans (hfr j)))
         (refine bodyPost_ret (v:=.tuple #[.agg #[.slice a0 X.length b0,.slice a1 X.length b1,.slice a2 X.length b2],.bool false]) (by simp[results,Tryz.results87,go_sem,t0,t1,t2]) rfl ⟨_,_,_,_,_,_,_,_,_,by rw[HT.out];rfl,?_,by rw[HT.out];simp⟩;exact(((hbel.trans (gK.mono (by omega))).setCell (by simp) _).setCell (by simp) _).setCell (by simp) _)
     ·have h17:(ns[X.length].kind==17)=false:=by simp[pG]
      have qF:=Lib.hid (show gB ns[X.length]=false by simpa using hlf)
      by_cases jH:ns[X.length].kind=15\/ns[X.length].kind=16
      ·have hkk:(ns[X.length].kind != 15)=false\/((ns[X.length].kind != 15)=true/\(ns[X.length].kind != 16)=false):=by
        rcases jH with h|h<;>simp[h]
       by_cases hvn:ns[X.length].value=0/\ns[X.length].name=ByteArray.empty
       ·obtain⟨hv0,hm0⟩:=hvn
        have gv:(ns[X.length].value != 0)=false:=by simp[hv0]
        have gn:(!ns[X.length].name.toList.isEmpty)=false:=by have:=(toList_nil_iff_emptyBytes _).2 hm0;simp[this]
        by_cases hlen:st.length<2
        ·
         as_aux_lemma =>
          have HT:Hid (aS (aO L) ns=none):=(show _=_ by
           unfold aS;rw[if_pos hl,hst.go.out,HD.out,UG jH hlen])
          by_cases hX2:X.length<2
          ·have gl:(X.length:Int)<2:=by omega
           clear hv0 hm0 jH pG hlf hlen
           rcases hkk with gk|⟨gk,yS⟩
           all_goals
            go_wp2_with (first|(go_at_call 144;refine(qh ns[X.length] _).mono ?_;rintro e w2⟨rfl,hb2⟩;rw[qF.out];obtain⟨hc2,hf2,hs2⟩:=bH hb2;have dB:=(hrows.keep ((Below.refl _ _).alloc (Nat.le_refl _) _)).keep hb2;simp only[World.size_alloc]at hs2;have hl2:wr.heap.size<w2.heap.size:=(by omega);have hbw:Below wr.heap.size wr w2:=((Below.refl _ _).alloc (Nat.le_refl _) _).trans (hb2.mono (by simp));have hb2':Below (w.heap.size+1+1) wr w2:=((Below.refl _ _).alloc (by omega) _).trans (hb2.mono (by simp;omega));obtain⟨y0,y1,y2,yf⟩:=And.intro dB.x0 (And.intro dB.x1 (And.intro dB.x2 dB.fx));clear hb2;have t0:=(Below.cell hb2' (p:=⟨w.heap.size+1,0,none⟩) (by simp)).trans hq0;have t1:=(Below.cell hb2' (p:=⟨w.heap.size+1,1,none⟩) (by simp)).trans hq1;have t2:=(Below.cell hb2' (p:=⟨w.heap.size+1,2,none⟩) (by simp)).trans hq2;have tf:∀j,w2.frozen? ⟨w.heap.size+1,j,none⟩=false:=λj=>(Below.frozen hb2' (p:=⟨w.heap.size+1,j,none⟩) (by simp)).trans (hfr j)))
            (refine bodyPost_ret (v:=.tuple #[.agg #[.slice a0 X.length b0,.slice a1 X.length b1,.slice a2 X.length b2],.bool false]) (by simp[results,Tryz.results87,go_sem,t0,t1,t2]) rfl ⟨_,_,_,_,_,_,_,_,_,by rw[HT.out];rfl,?_,by rw[HT.out];simp⟩;exact(((hbel.trans (hb2'.mono (by omega))).setCell (by simp) _).setCell (by simp) _).setCell (by simp) _)
          ·have hone:∃tb,X[X.length-1]?=some (0,tb):=by
            match st,hst.ch,hlen with
            | [],h,_=>have:=chain_nil h;subst this;simp at hX2
            | [tb],h,_=>exact⟨tb,(Pj h).2⟩
           obtain⟨tb,hone⟩:=hone
           have gl:¬(X.length:Int)<2:=by omega
           obtain⟨G0,hG0⟩:=hrows.r0.some (by simp;omega)
           subst hG0
           obtain⟨hi0,he0⟩:=wz hone (λp:Nat×W2=>(p.1:Int))
           have hF:=hrows.r0.cell _ hi0
           rw[he0]at hF
           have hGz:=cell_lt hF
           have JZ:(1:Int)<=X.length:=by omega
           have J4:(X.length:Int)-1<X.length:=by omega
           clear hv0 hm0 jH pG hlf hlen he0 hone
           rcases hkk with gk|⟨gk,yS⟩
           all_goals
            go_wp2_with (first|(go_at_call 144;refine(qh ns[X.length] _).mono ?_;rintro e w2⟨rfl,hb2⟩;rw[qF.out];obtain⟨hc2,hf2,hs2⟩:=bH hb2;have dB:=(hrows.keep ((Below.refl _ _).alloc (Nat.le_refl _) _)).keep hb2;simp only[World.size_alloc]at hs2;have hl2:wr.heap.size<w2.heap.size:=(by omega);have hbw:Below wr.heap.size wr w2:=((Below.refl _ _).alloc (Nat.le_refl _) _).trans (hb2.mono (by simp));have hb2':Below (w.heap.size+1+1) wr w2:=((Below.refl _ _).alloc (by omega) _).trans (hb2.mono (by simp;omega));obtain⟨y0,y1,y2,yf⟩:=And.intro dB.x0 (And.intro dB.x1 (And.intro dB.x2 dB.fx));clear hb2;have t0:=(Below.cell hb2' (p:=⟨w.heap.size+1,0,none⟩) (by simp)).trans hq0;have t1:=(Below.cell hb2' (p:=⟨w.heap.size+1,1,none⟩) (by simp)).trans hq1;have t2:=(Below.cell hb2' (p:=⟨w.heap.size+1,2,none⟩) (by simp)).trans hq2;have tf:∀j,w2.frozen? ⟨w.heap.size+1,j,none⟩=false:=λj=>(Below.frozen hb2' (p:=⟨w.heap.size+1,j,none⟩) (by simp)).trans (hfr j)))
            (refine bodyPost_ret (v:=.tuple #[.agg #[.slice (some ⟨G0,0,none⟩) X.length b0,.slice a1 X.length b1,.slice a2 X.length b2],.bool false]) (by simp[results,Tryz.results87,go_sem,t0,t1,t2]) rfl ⟨_,_,_,_,_,_,_,_,_,by rw[HT.out];rfl,?_,by rw[HT.out];simp⟩;exact(((hbel.trans (hb2'.mono (by omega))).setCell (by simp) _).setCell (by simp) _).setCell (by simp) _)
        ·obtain⟨tb,ta,st',rfl⟩:∃tb ta st',st=tb::ta::st':=by
          match st,hlen with
          | [],h=>simp at h
          | [x],h=>simp at h
          | x::y::r,_=>exact⟨x,y,r,rfl⟩
         obtain⟨f,g,lX,hf1,hfl,MB,hgf,hch'⟩:=WU hst.ch
         obtain⟨sb1,sb2,sb3,sb4⟩:=hst.sm tb (by simp)
         obtain⟨sa1,sa2,sa3,sa4⟩:=hst.sm ta (by simp)
         have yQ:∀x∈st',Sm x:=λx hx=>hst.sm x (by simp[hx])
         have hx2:2<=X.length:=by omega
         obtain⟨G0,hG0⟩:=hrows.r0.some (by simp;omega)
         obtain⟨G1,hG1⟩:=hrows.r1.some (by simp;omega)
         obtain⟨G2,hG2⟩:=hrows.r2.some (by simp;omega)
         subst hG0;subst hG1;subst hG2
         have f0:wr.cell? ⟨G0,X.length-1,none⟩=some (.int .i64 (f:Int)):=by obtain⟨hi0,he0⟩:=wz lX (λp:Nat×W2=>(p.1:Int));rw[hrows.r0.cell _ hi0,he0]
         have f1:wr.cell? ⟨G0,f-1,none⟩=some (.int .i64 (g:Int)):=by obtain⟨hi0,he0⟩:=wz MB (λp:Nat×W2=>(p.1:Int));rw[hrows.r0.cell _ hi0,he0]
         have Ig:wr.cell? ⟨G1,X.length-1,none⟩=some (.int .i64 tb.1):=by obtain⟨hi0,he0⟩:=wz lX (λp:Nat×W2=>p.2.1);rw[hrows.r1.cell _ hi0,he0]
         have MC:wr.cell? ⟨G1,f-1,none⟩=some (.int .i64 ta.1):=by obtain⟨hi0,he0⟩:=wz MB (λp:Nat×W2=>p.2.1);rw[hrows.r1.cell _ hi0,he0]
         have Ih:wr.cell? ⟨G2,X.length-1,none⟩=some (.int .i64 tb.2):=by obtain⟨hi0,he0⟩:=wz lX (λp:Nat×W2=>p.2.2);rw[hrows.r2.cell _ hi0,he0]
         have MF:wr.cell? ⟨G2,f-1,none⟩=some (.int .i64 ta.2):=by obtain⟨hi0,he0⟩:=wz MB (λp:Nat×W2=>p.2.2);rw[hrows.r2.cell _ hi0,he0]
         have aij:=cell_lt f0
         have aik:=cell_lt Ig
         have ail:=cell_lt Ih
         have JZ:(1:Int)<=X.length:=by omega
         have J4:(X.length:Int)-1<X.length:=by omega
         have gi3:(1:Int)<=f:=by omega
         have gi4:(f:Int)-1<X.length:=by omega
         have gl:¬(X.length:Int)<2:=by omega
         have gf:¬(f:Int)<1:=by omega
         have jO:∀x,gJ ns[X.length].kind ta tb=some x->Hid (bU (aO L) ns []=bU (aO L) (ns.drop (X.length+1)) (x::st')):=λx hx=>(show bU (aO L) ns []=_ by
          rw[hst.go.out,HD.out,UJ jH hv0 hm0 hx])
         have mX:gJ ns[X.length].kind ta tb=none->Hid (aS (aO L) ns=none):=λhx=>(show _=_ by
          unfold aS;rw[if_pos hl,hst.go.out,HD.out,UH jH hx])
         have HG1:=Lib.hid jO
         have HG2:=Lib.hid mX
         have HXl:=Lib.hid lX
         clear hv0 hm0 jO mX lX MB hlen
         have EM:IntKind.i64.wrap (ta.1+tb.1)=ta.1+tb.1:=IntWalk.i64_in _ (by omega)
         have EN:IntKind.i64.wrap (ta.2+tb.2)=ta.2+tb.2:=IntWalk.i64_in _ (by omega)
         have uP:((X.length:Int)-1).toNat=X.length-1:=by omega
         have EO:((f:Int)-1).toNat=f-1:=by omega
         have ET:=Lib.hid (And.intro (And.intro EM EN) (And.intro uP EO))
         clear EM EN uP EO
         rcases hkk with gk|⟨gk,yS⟩
         ·have gk2:(ns[X.length].kind==15)=true:=by simpa using gk
          have hke:ns[X.length].kind=15:=by simpa using gk
          by_cases hjo:ta.2=tb.1
          ·
           as_aux_lemma =>
            have HG:=HG1.out (ta.1,tb.2) (by unfold gJ;rw[if_pos hke,if_pos hjo])
            have gjo:(ta.2 != tb.1)=false:=by simp[hjo]
            have Tm:¬(12:Int)<ta.1:=by omega
            have gb2:¬(12:Int)<tb.2:=by omega
            clear hke hjo jH
            go_wp2_with (first|(go_at_call 144;refine(qh ns[X.length] _).mono ?_;rintro e w2⟨rfl,hb2⟩;rw[qF.out];obtain⟨hc2,hf2,hs2⟩:=bH hb2;have dB:=(hrows.keep ((Below.refl _ _).alloc (Nat.le_refl _) _)).keep hb2;simp only[World.size_alloc]at hs2;have hl2:wr.heap.size<w2.heap.size:=(by omega);have hbw:Below wr.heap.size wr w2:=((Below.refl _ _).alloc (Nat.le_refl _) _).trans (hb2.mono (by simp));have hb2':Below (w.heap.size+1+1) wr w2:=((Below.refl _ _).alloc (by omega) _).trans (hb2.mono (by simp;omega));obtain⟨y0,y1,y2,yf⟩:=And.intro dB.x0 (And.intro dB.x1 (And.intro dB.x2 dB.fx));clear hb2;have t0:=(Below.cell hb2' (p:=⟨w.heap.size+1,0,none⟩) (by simp)).trans hq0;have t1:=(Below.cell hb2' (p:=⟨w.heap.size+1,1,none⟩) (by simp)).trans hq1;have t2:=(Below.cell hb2' (p:=⟨w.heap.size+1,2,none⟩) (by simp)).trans hq2;have tf:∀j,w2.frozen? ⟨w.heap.size+1,j,none⟩=false:=λj=>(Below.frozen hb2' (p:=⟨w.heap.size+1,j,none⟩) (by simp)).trans (hfr j)))
            obtain⟨⟨EM,EN⟩,uP,EO⟩:=ET.out
            have Tn:=dB.bz;have q0:=ak hbw f0;have q1:=ak hbw f1;have q2:=ak hbw Ig;have q3:=ak hbw MC;have q4:=ak hbw Ih;have q5:=ak hbw MF;have Tt:=cell_lt q0;have Tv:=cell_lt q2;have Tz:=cell_lt q4
            refine bC (C:=ah (aQ) _) 2 [0,1,2,3,4,5,6,7,8,9,10,11,12,13,14,15,16,17,18,19,20,21,22,23] (by kernel_rfl) (by kernel_rfl) (ah.grows _ _) (ah.refl _ _) ?_
            iterate 24 (apply ay rfl rfl rfl;(focus intro u hc' hf';go_simp<;>rfl);intro K hK;go_simp;apply hK;clear hK K)
            refine aK ?_
            go_wp2
            refine bC (C:=ah (aQ) _) 2 [0,1,2,3,4,5,6,7,8,9,10] (by kernel_rfl) (by kernel_rfl) (ah.grows _ _) (ah.refl _ _) ?_
            iterate 11 (apply ay rfl rfl rfl;(focus intro u hc' hf';(try simp only[World.size_drew]at hc' hf');go_simp<;>rfl);intro K hK;go_simp;apply hK;clear hK K)
            refine aK ?_
            go_wp2
            refine bC (C:=ah (aQ) _) 2 [0,1,2,3,4,5,6,7,8,9,10,11] (by kernel_rfl) (by kernel_rfl) (ah.grows _ _) (ah.refl _ _) ?_
            iterate 12 (apply ay rfl rfl rfl;(focus intro u hc' hf';(try simp only[World.size_drew]at hc' hf');go_simp<;>rfl);intro K hK;go_simp;apply hK;clear hK K)
            refine aK ?_
            go_wp2
            generalize yh:w2.drew.drew.drew=WW
            have fP:kF WW (w.heap.size+1+1+1) (w.heap.size+1+1) (Value.slice (some ⟨G0,0,none⟩) X.length b0) (Value.slice (some ⟨G1,0,none⟩) X.length b1) (Value.slice (some ⟨G2,0,none⟩) X.length b2) (X.map λp=>(p.1:Int)) (X.map λp=>p.2.1) (X.map λp=>p.2.2):=by
             rw[<-yh];exact dB.keep (Below.refl _ _).drew.drew.drew
            have Ii:Below (w.heap.size+1+1) wr WW:=by rw[<-yh];exact hb2'.drew.drew.drew
            have Ij:WW.cell? ⟨G0,f-1,none⟩=some (.int .i64 (g:Int)):=by rw[<-yh];exact q1
            clear yh
            have xbz:w.heap.size+1+1<WW.heap.size:=fP.bz
            have xG:¬w.heap.size+1+1=G0:=λe=>row_ne fP.r0 fP.lt (by rw[<-e];rfl)
            have CP:=cell_lt Ij
            obtain⟨z0,z1,z2,zf⟩:=And.intro fP.x0 (And.intro fP.x1 (And.intro fP.x2 fP.fx))
            have agf:f-1<X.length:=by omega
            refine rV (C:=kY WW.drew G0 X.length) (N:=WW.drew.heap.size) 3 [0,1,2,3,4,5,6,7,8,9] [10] (by kernel_rfl) (by kernel_rfl) (kY.grows _ _ _) (kY.refl _ _ _ (by simpa using CP)) ?_
            iterate 7
             refine qK rfl rfl rfl (λK hK=>?_)
             apply Exists.intro
             refine⟨λw' hw'=>?_,?_⟩
             ·obtain⟨hc',hf'⟩:=hw'.1.cell
              have hk':=hw'.2.1
              try simp only[World.size_drew]at hc' hf' hk'
              go_simp
              rfl
             go_simp
             refine hK _ _ _ ?_
             clear hK K
            refine fG rfl rfl rfl (kY.grows _ _ _) (kY.refl _ _ _ (by simpa using CP)) (λb=>.slice (some ⟨b,0,none⟩) 1 1) (λK hK=>?_)
            apply Exists.intro
            refine⟨λw' hw'=>?_,λbb w5 hw5 hb5 aI hNb hnb=>?_⟩
            ·go_simp
             rfl
            go_simp
            refine hK _ _ _ ?_
            clear hK K
            refine UE rfl rfl rfl (kY.grows _ _ _) hw5 (.tmp 180) (.tmp 186) 130 rfl (w.heap.size+1+1+1) 3 i0 (.int .i64 0) 1 8 Tryz.underlying130 hi hz0 hz1 hz2 rfl (by decide) (.slice (some ⟨G0,0,none⟩) X.length b0) X.length ((X.map λp=>(p.1:Int)).flatMap dw) rfl (λk hk=>.inl (by simp[Value.ownBlock]at hk;subst hk;simpa using CP)) ⟨bb,0,none⟩ 1 1 [.int .i64 (g:Int)] rfl rfl (by intro u hu;simp at hu;subst hu;rfl) (by unfold maxLen;omega) (by omega) (by have:=hb5.size;simp at this;omega) ?_ ?_ ?_
            ·intro w6 hw6 hb6
             have dH:Below WW.heap.size WW w6:=(Below.refl WW.heap.size WW).drew.trans ((hb5.mono (by simp)).trans (hb6.mono (by have:=hb5.size;simpa using this)))
             have r6:=fP.r0.keep dH
             unfold Rw at r6
             rw[List.length_map]at r6
             obtain⟨m0,_,_⟩:=made_cell ((hb6.block bb (made_cell aI).2.2).trans aI)
             refine⟨r6,λj u hj=>?_⟩
             match j,hj with
             | 0,hj=>simp at hj;subst hj;simp[Addr.add,m0]
            ·intro w6 w7 v' hw6 hb6 kS lY uY
             have dH:Below WW.heap.size WW w6:=(Below.refl WW.heap.size WW).drew.trans ((hb5.mono (by simp)).trans (hb6.mono (by have:=hb5.size;simpa using this)))
             have r6:=fP.r0.keep dH
             unfold Rw at r6
             rw[List.length_map]at r6
             exact hw6.append rfl r6 (by omega) kS (by omega) lY uY
            intro K hK w6 w7 v' hw6 hb6 kS lY hw7 uY
            have dH:Below WW.heap.size WW w6:=(Below.refl WW.heap.size WW).drew.trans ((hb5.mono (by simp)).trans (hb6.mono (by have:=hb5.size;simpa using this)))
            obtain⟨rJ,cp0,rfl⟩:=jc kS
            have r7:Rw w7 (w.heap.size+1+1+1) (.slice rJ (X.length+1) cp0) ((X.map λp=>(p.1:Int))++[(g:Int)]):=by
             unfold Rw;rw[List.length_append,List.length_map,List.flatMap_append];exact kS
            have Ik:=uY.imp id (λh=>h.1)
            go_simp
            refine hK _ _ _ ?_
            clear hK K
            iterate 1
             refine qK rfl rfl rfl (λK hK=>?_)
             apply Exists.intro
             refine⟨λw' hw'=>?_,?_⟩
             ·obtain⟨hc',hf'⟩:=hw'.1.cell
              have hk':=hw'.2.1
              try simp only[World.size_drew]at hc' hf' hk'
              go_simp
              rfl
             go_simp
             refine hK _ _ _ ?_
             clear hK K
            refine aK ?_
            have hx7:w.heap.size+1+1<w7.heap.size:=by have h1:=hw7.1.size;simp at h1;omega
            refine⟨ah (λj=>j=w.heap.size+1+1) w7,w7.heap.size,ah.grows _ _,ah.refl _ _,?_⟩
            refine eH rfl rfl rfl (ah.grows _ _) (ah.refl _ _) (λK hK=>?_)
            intro w8 hw8 hb8
            have P1:=aag fP dH lY r7 Ik hb8
            have B1:=aah (j:=0) (u:=Value.slice rJ (X.length+1) cp0) Ii (by omega) (Nat.le_refl _) (by omega) dH fP.r0 lY hb8
            have c8:=(DV (o:=0) (Tj lY hb8) (fP.keep dH).bz (row_ne fP.r0 fP.lt))
            have k8:=c8.1.trans (fP.keep dH).x0
            have f8:=c8.2.trans ((fP.keep dH).fx 0)
            clear c8
            refine⟨w8.setCell ⟨w.heap.size+1+1,0,none⟩ (.slice rJ (X.length+1) cp0),?_,⟨aB hw8 (.inr rfl) _,by simp,λj hj _ _=>by rw[Below.heap_setCell _ _ _ _ (λh=>by simp at h;omega)]⟩,?_⟩
            ·go_simp
            go_simp
            refine hK _ _ _ ?_
            clear hK K
            refine aK ?_
            generalize w8.setCell ⟨w.heap.size+1+1,0,none⟩ (.slice rJ (X.length+1) cp0)=W1 at P1 B1
            clear k8 f8 hw8 hb8 hw7 uY Ik lY kS r7 dH hw6 hb6 hx7 aI hb5 hw5 Ii Ij fP z0 z1 z2 zf hnb hNb
            have gs1:=P1.bz
            obtain⟨z0,z1,z2,zf⟩:=And.intro P1.x0 (And.intro P1.x1 (And.intro P1.x2 P1.fx))
            go_wp2_with (first|(at_builtin;refine vV rfl (.tmp 190) (.tmp 192) rfl (w.heap.size+1+1+1) _ _ _ _ _ (by simp) rfl rfl P1.r1 (by first|omega|(simp;omega)) (by first|omega|(simp;omega)) ?_;intro u1 W2 p1 p2 p3;obtain⟨CG,CJ,rfl⟩:=p1.shape (X.length+1) (by simp);have P2:=(P1.keep (aj _ _)).app1 p2 p1 p3;obtain⟨k0,k1,k2,kf,ks⟩:=P1.wL p2 (row_ne P1.r1 P1.lt);(try simp only[yA]at ks);have B2:=wK (j:=1) (u:=Value.slice CG (X.length+1) CJ) B1 (Nat.le_refl _) (by omega) (by first|omega|(simp;omega)) P1.r1 p2;clear p1 p2 p3)|(at_builtin;refine vV rfl (.tmp 196) (.tmp 198) rfl (w.heap.size+1+1+1) _ _ _ _ _ (by simp) rfl rfl P2.r2 (by first|omega|(simp;omega)) (by first|omega|(simp;omega)) ?_;intro u2 W3 p1 p2 p3;obtain⟨CO,cp2,rfl⟩:=p1.shape (X.length+1) (by simp);have P3:=(P2.keep (aj _ _)).JK p2 p1 p3;obtain⟨l0,l1,l2,lf,ls⟩:=P2.wL p2 (row_ne P2.r2 P2.lt);(try simp only[yA]at ls);have B3:=wK (j:=2) (u:=Value.slice CO (X.length+1) cp2) B2 (Nat.le_refl _) (by omega) (by first|omega|(simp;omega)) P2.r2 p2;clear p1 p2 p3))
            go_roundw
            case rel=>exact⟨_,_,_,_,_,by simp;omega,by simp,hst.push B3 P3 (hch' _) HG yQ ⟨sa1,sa2,sb3,sb4⟩⟩
            case measure=>simp[intOf];omega
          ·
           as_aux_lemma =>
            have HT:=HG2.out (by unfold gJ;rw[if_pos hke,if_neg hjo])
            have gjo:(ta.2 != tb.1)=true:=by simp[hjo]
            clear hke hjo jH
            go_wp2_with (first|(go_at_call 144;refine(qh ns[X.length] _).mono ?_;rintro e w2⟨rfl,hb2⟩;rw[qF.out];obtain⟨hc2,hf2,hs2⟩:=bH hb2;have dB:=(hrows.keep ((Below.refl _ _).alloc (Nat.le_refl _) _)).keep hb2;simp only[World.size_alloc]at hs2;have hl2:wr.heap.size<w2.heap.size:=(by omega);have hbw:Below wr.heap.size wr w2:=((Below.refl _ _).alloc (Nat.le_refl _) _).trans (hb2.mono (by simp));have hb2':Below (w.heap.size+1+1) wr w2:=((Below.refl _ _).alloc (by omega) _).trans (hb2.mono (by simp;omega));obtain⟨y0,y1,y2,yf⟩:=And.intro dB.x0 (And.intro dB.x1 (And.intro dB.x2 dB.fx));clear hb2;have t0:=(Below.cell hb2' (p:=⟨w.heap.size+1,0,none⟩) (by simp)).trans hq0;have t1:=(Below.cell hb2' (p:=⟨w.heap.size+1,1,none⟩) (by simp)).trans hq1;have t2:=(Below.cell hb2' (p:=⟨w.heap.size+1,2,none⟩) (by simp)).trans hq2;have tf:∀j,w2.frozen? ⟨w.heap.size+1,j,none⟩=false:=λj=>(Below.frozen hb2' (p:=⟨w.heap.size+1,j,none⟩) (by simp)).trans (hfr j)))
            obtain⟨⟨EM,EN⟩,uP,EO⟩:=ET.out
            have Tn:=dB.bz;have q0:=ak hbw f0;have q1:=ak hbw f1;have q2:=ak hbw Ig;have q3:=ak hbw MC;have q4:=ak hbw Ih;have q5:=ak hbw MF;have Tt:=cell_lt q0;have Tv:=cell_lt q2;have Tz:=cell_lt q4
            refine bC (C:=ah (aQ) _) 2 [0,1,2,3,4,5,6,7,8,9,10,11,12,13,14,15,16,17,18,19,20,21,22,23] (by kernel_rfl) (by kernel_rfl) (ah.grows _ _) (ah.refl _ _) ?_
            iterate 24 (apply ay rfl rfl rfl;(focus intro u hc' hf';go_simp<;>rfl);intro K hK;go_simp;apply hK;clear hK K)
            refine aK ?_
            go_wp2
            refine bC (C:=ah (aQ) _) 2 [0,1,2,3,4,5,6,7,8,9,10] (by kernel_rfl) (by kernel_rfl) (ah.grows _ _) (ah.refl _ _) ?_
            iterate 11 (apply ay rfl rfl rfl;(focus intro u hc' hf';(try simp only[World.size_drew]at hc' hf');go_simp<;>rfl);intro K hK;go_simp;apply hK;clear hK K)
            refine aK ?_
            go_wp2
            (refine bodyPost_ret (v:=.tuple #[.agg #[.slice (some ⟨G0,0,none⟩) X.length b0,.slice (some ⟨G1,0,none⟩) X.length b1,.slice (some ⟨G2,0,none⟩) X.length b2],.bool false]) (by simp[results,Tryz.results87,go_sem,t0,t1,t2]) rfl ⟨_,_,_,_,_,_,_,_,_,by rw[HT.out];rfl,?_,by rw[HT.out];simp⟩;exact(((hbel.trans (hb2'.drew.drew.mono (by omega))).setCell (by simp) _).setCell (by simp) _).setCell (by simp) _)
         ·have gk2:(ns[X.length].kind==15)=false:=by simpa using gk
          have hke:¬ns[X.length].kind=15:=by simpa using gk
          by_cases hjo:ta.1+tb.1<=12/\ta.2+tb.2<=12
          ·
           as_aux_lemma =>
            have HG:=HG1.out (ta.1+tb.1,ta.2+tb.2) (by unfold gJ;rw[if_neg hke,if_pos hjo])
            have Tm:¬(12:Int)<ta.1+tb.1:=by omega
            have gb2:¬(12:Int)<ta.2+tb.2:=by omega
            have hj1:=hjo.1
            have hj2:=hjo.2
            clear hke hjo jH
            go_wp2_with (first|(go_at_call 144;refine(qh ns[X.length] _).mono ?_;rintro e w2⟨rfl,hb2⟩;rw[qF.out];obtain⟨hc2,hf2,hs2⟩:=bH hb2;have dB:=(hrows.keep ((Below.refl _ _).alloc (Nat.le_refl _) _)).keep hb2;simp only[World.size_alloc]at hs2;have hl2:wr.heap.size<w2.heap.size:=(by omega);have hbw:Below wr.heap.size wr w2:=((Below.refl _ _).alloc (Nat.le_refl _) _).trans (hb2.mono (by simp));have hb2':Below (w.heap.size+1+1) wr w2:=((Below.refl _ _).alloc (by omega) _).trans (hb2.mono (by simp;omega));obtain⟨y0,y1,y2,yf⟩:=And.intro dB.x0 (And.intro dB.x1 (And.intro dB.x2 dB.fx));clear hb2;have t0:=(Below.cell hb2' (p:=⟨w.heap.size+1,0,none⟩) (by simp)).trans hq0;have t1:=(Below.cell hb2' (p:=⟨w.heap.size+1,1,none⟩) (by simp)).trans hq1;have t2:=(Below.cell hb2' (p:=⟨w.heap.size+1,2,none⟩) (by simp)).trans hq2;have tf:∀j,w2.frozen? ⟨w.heap.size+1,j,none⟩=false:=λj=>(Below.frozen hb2' (p:=⟨w.heap.size+1,j,none⟩) (by simp)).trans (hfr j)))
            obtain⟨⟨EM,EN⟩,uP,EO⟩:=ET.out
            have Tn:=dB.bz;have q0:=ak hbw f0;have q1:=ak hbw f1;have q2:=ak hbw Ig;have q3:=ak hbw MC;have q4:=ak hbw Ih;have q5:=ak hbw MF;have Tt:=cell_lt q0;have Tv:=cell_lt q2;have Tz:=cell_lt q4
            refine bC (C:=ah (aQ) _) 2 [0,1,2,3,4,5,6,7,8,9,10,11,12,13,14,15,16,17,18,19,20,21,22,23] (by kernel_rfl) (by kernel_rfl) (ah.grows _ _) (ah.refl _ _) ?_
            iterate 24 (apply ay rfl rfl rfl;(focus intro u hc' hf';go_simp<;>rfl);intro K hK;go_simp;apply hK;clear hK K)
            refine aK ?_
            go_wp2
            generalize yh:w2.drew=WW
            have fP:kF WW (w.heap.size+1+1+1) (w.heap.size+1+1) (Value.slice (some ⟨G0,0,none⟩) X.length b0) (Value.slice (some ⟨G1,0,none⟩) X.length b1) (Value.slice (some ⟨G2,0,none⟩) X.length b2) (X.map λp=>(p.1:Int)) (X.map λp=>p.2.1) (X.map λp=>p.2.2):=by
             rw[<-yh];exact dB.keep (Below.refl _ _).drew
            have Ii:Below (w.heap.size+1+1) wr WW:=by rw[<-yh];exact hb2'.drew
            have Ij:WW.cell? ⟨G0,f-1,none⟩=some (.int .i64 (g:Int)):=by rw[<-yh];exact q1
            clear yh
            have xbz:w.heap.size+1+1<WW.heap.size:=fP.bz
            have xG:¬w.heap.size+1+1=G0:=λe=>row_ne fP.r0 fP.lt (by rw[<-e];rfl)
            have CP:=cell_lt Ij
            obtain⟨z0,z1,z2,zf⟩:=And.intro fP.x0 (And.intro fP.x1 (And.intro fP.x2 fP.fx))
            have agf:f-1<X.length:=by omega
            refine rV (C:=kY WW.drew G0 X.length) (N:=WW.drew.heap.size) 3 [0,1,2,3,4,5,6,7,8,9] [10] (by kernel_rfl) (by kernel_rfl) (kY.grows _ _ _) (kY.refl _ _ _ (by simpa using CP)) ?_
            iterate 7
             refine qK rfl rfl rfl (λK hK=>?_)
             apply Exists.intro
             refine⟨λw' hw'=>?_,?_⟩
             ·obtain⟨hc',hf'⟩:=hw'.1.cell
              have hk':=hw'.2.1
              try simp only[World.size_drew]at hc' hf' hk'
              go_simp
              rfl
             go_simp
             refine hK _ _ _ ?_
             clear hK K
            refine fG rfl rfl rfl (kY.grows _ _ _) (kY.refl _ _ _ (by simpa using CP)) (λb=>.slice (some ⟨b,0,none⟩) 1 1) (λK hK=>?_)
            apply Exists.intro
            refine⟨λw' hw'=>?_,λbb w5 hw5 hb5 aI hNb hnb=>?_⟩
            ·go_simp
             rfl
            go_simp
            refine hK _ _ _ ?_
            clear hK K
            refine UE rfl rfl rfl (kY.grows _ _ _) hw5 (.tmp 180) (.tmp 186) 130 rfl (w.heap.size+1+1+1) 3 i0 (.int .i64 0) 1 8 Tryz.underlying130 hi hz0 hz1 hz2 rfl (by decide) (.slice (some ⟨G0,0,none⟩) X.length b0) X.length ((X.map λp=>(p.1:Int)).flatMap dw) rfl (λk hk=>.inl (by simp[Value.ownBlock]at hk;subst hk;simpa using CP)) ⟨bb,0,none⟩ 1 1 [.int .i64 (g:Int)] rfl rfl (by intro u hu;simp at hu;subst hu;rfl) (by unfold maxLen;omega) (by omega) (by have:=hb5.size;simp at this;omega) ?_ ?_ ?_
            ·intro w6 hw6 hb6
             have dH:Below WW.heap.size WW w6:=(Below.refl WW.heap.size WW).drew.trans ((hb5.mono (by simp)).trans (hb6.mono (by have:=hb5.size;simpa using this)))
             have r6:=fP.r0.keep dH
             unfold Rw at r6
             rw[List.length_map]at r6
             obtain⟨m0,_,_⟩:=made_cell ((hb6.block bb (made_cell aI).2.2).trans aI)
             refine⟨r6,λj u hj=>?_⟩
             match j,hj with
             | 0,hj=>simp at hj;subst hj;simp[Addr.add,m0]
            ·intro w6 w7 v' hw6 hb6 kS lY uY
             have dH:Below WW.heap.size WW w6:=(Below.refl WW.heap.size WW).drew.trans ((hb5.mono (by simp)).trans (hb6.mono (by have:=hb5.size;simpa using this)))
             have r6:=fP.r0.keep dH
             unfold Rw at r6
             rw[List.length_map]at r6
             exact hw6.append rfl r6 (by omega) kS (by omega) lY uY
            intro K hK w6 w7 v' hw6 hb6 kS lY hw7 uY
            have dH:Below WW.heap.size WW w6:=(Below.refl WW.heap.size WW).drew.trans ((hb5.mono (by simp)).trans (hb6.mono (by have:=hb5.size;simpa using this)))
            obtain⟨rJ,cp0,rfl⟩:=jc kS
            have r7:Rw w7 (w.heap.size+1+1+1) (.slice rJ (X.length+1) cp0) ((X.map λp=>(p.1:Int))++[(g:Int)]):=by
             unfold Rw;rw[List.length_append,List.length_map,List.flatMap_append];exact kS
            have Ik:=uY.imp id (λh=>h.1)
            go_simp
            refine hK _ _ _ ?_
            clear hK K
            iterate 1
             refine qK rfl rfl rfl (λK hK=>?_)
             apply Exists.intro
             refine⟨λw' hw'=>?_,?_⟩
             ·obtain⟨hc',hf'⟩:=hw'.1.cell
              have hk':=hw'.2.1
              try simp only[World.size_drew]at hc' hf' hk'
              go_simp
              rfl
             go_simp
             refine hK _ _ _ ?_
             clear hK K
            refine aK ?_
            have hx7:w.heap.size+1+1<w7.heap.size:=by have h1:=hw7.1.size;simp at h1;omega
            refine⟨ah (λj=>j=w.heap.size+1+1) w7,w7.heap.size,ah.grows _ _,ah.refl _ _,?_⟩
            refine eH rfl rfl rfl (ah.grows _ _) (ah.refl _ _) (λK hK=>?_)
            intro w8 hw8 hb8
            have P1:=aag fP dH lY r7 Ik hb8
            have B1:=aah (j:=0) (u:=Value.slice rJ (X.length+1) cp0) Ii (by omega) (Nat.le_refl _) (by omega) dH fP.r0 lY hb8
            have c8:=(DV (o:=0) (Tj lY hb8) (fP.keep dH).bz (row_ne fP.r0 fP.lt))
            have k8:=c8.1.trans (fP.keep dH).x0
            have f8:=c8.2.trans ((fP.keep dH).fx 0)
            clear c8
            refine⟨w8.setCell ⟨w.heap.size+1+1,0,none⟩ (.slice rJ (X.length+1) cp0),?_,⟨aB hw8 (.inr rfl) _,by simp,λj hj _ _=>by rw[Below.heap_setCell _ _ _ _ (λh=>by simp at h;omega)]⟩,?_⟩
            ·go_simp
            go_simp
            refine hK _ _ _ ?_
            clear hK K
            refine aK ?_
            generalize w8.setCell ⟨w.heap.size+1+1,0,none⟩ (.slice rJ (X.length+1) cp0)=W1 at P1 B1
            clear k8 f8 hw8 hb8 hw7 uY Ik lY kS r7 dH hw6 hb6 hx7 aI hb5 hw5 Ii Ij fP z0 z1 z2 zf hnb hNb
            have gs1:=P1.bz
            obtain⟨z0,z1,z2,zf⟩:=And.intro P1.x0 (And.intro P1.x1 (And.intro P1.x2 P1.fx))
            go_wp2_with (first|(at_builtin;refine vV rfl (.tmp 190) (.tmp 192) rfl (w.heap.size+1+1+1) _ _ _ _ _ (by simp) rfl rfl P1.r1 (by first|omega|(simp;omega)) (by first|omega|(simp;omega)) ?_;intro u1 W2 p1 p2 p3;obtain⟨CG,CJ,rfl⟩:=p1.shape (X.length+1) (by simp);have P2:=(P1.keep (aj _ _)).app1 p2 p1 p3;obtain⟨k0,k1,k2,kf,ks⟩:=P1.wL p2 (row_ne P1.r1 P1.lt);(try simp only[yA]at ks);have B2:=wK (j:=1) (u:=Value.slice CG (X.length+1) CJ) B1 (Nat.le_refl _) (by omega) (by first|omega|(simp;omega)) P1.r1 p2;clear p1 p2 p3)|(at_builtin;refine vV rfl (.tmp 196) (.tmp 198) rfl (w.heap.size+1+1+1) _ _ _ _ _ (by simp) rfl rfl P2.r2 (by first|omega|(simp;omega)) (by first|omega|(simp;omega)) ?_;intro u2 W3 p1 p2 p3;obtain⟨CO,cp2,rfl⟩:=p1.shape (X.length+1) (by simp);have P3:=(P2.keep (aj _ _)).JK p2 p1 p3;obtain⟨l0,l1,l2,lf,ls⟩:=P2.wL p2 (row_ne P2.r2 P2.lt);(try simp only[yA]at ls);have B3:=wK (j:=2) (u:=Value.slice CO (X.length+1) cp2) B2 (Nat.le_refl _) (by omega) (by first|omega|(simp;omega)) P2.r2 p2;clear p1 p2 p3))
            go_roundw
            case rel=>exact⟨_,_,_,_,_,by simp;omega,by simp,hst.push B3 P3 (hch' _) HG yQ ⟨by omega,by omega,by omega,by omega⟩⟩
            case measure=>simp[intOf];omega
          ·
           as_aux_lemma =>
            have HT:=HG2.out (by unfold gJ;rw[if_neg hke,if_neg hjo])
            have hjj:(12:Int)<ta.1+tb.1\/(ta.1+tb.1<=12/\(12:Int)<ta.2+tb.2):=by omega
            clear hke hjo jH
            rcases hjj with Tm|⟨Tm,gb2⟩
            all_goals
             go_wp2_with (first|(go_at_call 144;refine(qh ns[X.length] _).mono ?_;rintro e w2⟨rfl,hb2⟩;rw[qF.out];obtain⟨hc2,hf2,hs2⟩:=bH hb2;have dB:=(hrows.keep ((Below.refl _ _).alloc (Nat.le_refl _) _)).keep hb2;simp only[World.size_alloc]at hs2;have hl2:wr.heap.size<w2.heap.size:=(by omega);have hbw:Below wr.heap.size wr w2:=((Below.refl _ _).alloc (Nat.le_refl _) _).trans (hb2.mono (by simp));have hb2':Below (w.heap.size+1+1) wr w2:=((Below.refl _ _).alloc (by omega) _).trans (hb2.mono (by simp;omega));obtain⟨y0,y1,y2,yf⟩:=And.intro dB.x0 (And.intro dB.x1 (And.intro dB.x2 dB.fx));clear hb2;have t0:=(Below.cell hb2' (p:=⟨w.heap.size+1,0,none⟩) (by simp)).trans hq0;have t1:=(Below.cell hb2' (p:=⟨w.heap.size+1,1,none⟩) (by simp)).trans hq1;have t2:=(Below.cell hb2' (p:=⟨w.heap.size+1,2,none⟩) (by simp)).trans hq2;have tf:∀j,w2.frozen? ⟨w.heap.size+1,j,none⟩=false:=λj=>(Below.frozen hb2' (p:=⟨w.heap.size+1,j,none⟩) (by simp)).trans (hfr j)))
             obtain⟨⟨EM,EN⟩,uP,EO⟩:=ET.out
             have Tn:=dB.bz;have q0:=ak hbw f0;have q1:=ak hbw f1;have q2:=ak hbw Ig;have q3:=ak hbw MC;have q4:=ak hbw Ih;have q5:=ak hbw MF;have Tt:=cell_lt q0;have Tv:=cell_lt q2;have Tz:=cell_lt q4
             refine bC (C:=ah (aQ) _) 2 [0,1,2,3,4,5,6,7,8,9,10,11,12,13,14,15,16,17,18,19,20,21,22,23] (by kernel_rfl) (by kernel_rfl) (ah.grows _ _) (ah.refl _ _) ?_
             iterate 24 (apply ay rfl rfl rfl;(focus intro u hc' hf';go_simp<;>rfl);intro K hK;go_simp;apply hK;clear hK K)
             refine aK ?_
             go_wp2
             (refine bodyPost_ret (v:=.tuple #[.agg #[.slice (some ⟨G0,0,none⟩) X.length b0,.slice (some ⟨G1,0,none⟩) X.length b1,.slice (some ⟨G2,0,none⟩) X.length b2],.bool false]) (by simp[results,Tryz.results87,go_sem,t0,t1,t2]) rfl ⟨_,_,_,_,_,_,_,_,_,by rw[HT.out];rfl,?_,by rw[HT.out];simp⟩;exact(((hbel.trans (hb2'.drew.mono (by omega))).setCell (by simp) _).setCell (by simp) _).setCell (by simp) _)
       ·
        as_aux_lemma =>
         have HT:Hid (aS (aO L) ns=none):=(show _=_ by
          unfold aS;rw[if_pos hl,hst.go.out,HD.out,UF jH hvn])
         have agh:(!ns[X.length].name.toList.isEmpty)=true\/((!ns[X.length].name.toList.isEmpty)=false/\(ns[X.length].value != 0)=true):=by
          by_cases hm0:ns[X.length].name=ByteArray.empty
          ·refine .inr ⟨by have:=(toList_nil_iff_emptyBytes _).2 hm0;simp[this],?_⟩;simpa using λh=>hvn ⟨h,hm0⟩
          ·refine .inl ?_;have:¬ns[X.length].name.toList=[]:=λh=>hm0 ((toList_nil_iff_emptyBytes _).1 h);simpa using this
         clear hvn jH pG hlf
         rcases hkk with gk|⟨gk,yS⟩<;>rcases agh with gn|⟨gn,gv⟩
         all_goals
          go_wp2_with (first|(go_at_call 144;refine(qh ns[X.length] _).mono ?_;rintro e w2⟨rfl,hb2⟩;rw[qF.out];obtain⟨hc2,hf2,hs2⟩:=bH hb2;have dB:=(hrows.keep ((Below.refl _ _).alloc (Nat.le_refl _) _)).keep hb2;simp only[World.size_alloc]at hs2;have hl2:wr.heap.size<w2.heap.size:=(by omega);have hbw:Below wr.heap.size wr w2:=((Below.refl _ _).alloc (Nat.le_refl _) _).trans (hb2.mono (by simp));have hb2':Below (w.heap.size+1+1) wr w2:=((Below.refl _ _).alloc (by omega) _).trans (hb2.mono (by simp;omega));obtain⟨y0,y1,y2,yf⟩:=And.intro dB.x0 (And.intro dB.x1 (And.intro dB.x2 dB.fx));clear hb2;have t0:=(Below.cell hb2' (p:=⟨w.heap.size+1,0,none⟩) (by simp)).trans hq0;have t1:=(Below.cell hb2' (p:=⟨w.heap.size+1,1,none⟩) (by simp)).trans hq1;have t2:=(Below.cell hb2' (p:=⟨w.heap.size+1,2,none⟩) (by simp)).trans hq2;have tf:∀j,w2.frozen? ⟨w.heap.size+1,j,none⟩=false:=λj=>(Below.frozen hb2' (p:=⟨w.heap.size+1,j,none⟩) (by simp)).trans (hfr j)))
          (refine bodyPost_ret (v:=.tuple #[.agg #[.slice a0 X.length b0,.slice a1 X.length b1,.slice a2 X.length b2],.bool false]) (by simp[results,Tryz.results87,go_sem,t0,t1,t2]) rfl ⟨_,_,_,_,_,_,_,_,_,by rw[HT.out];rfl,?_,by rw[HT.out];simp⟩;exact(((hbel.trans (hb2'.mono (by omega))).setCell (by simp) _).setCell (by simp) _).setCell (by simp) _)
      ·have HT:Hid (aS (aO L) ns=none):=(show _=_ by
        unfold aS;rw[if_pos hl,hst.go.out,HD.out,IZ jH (by unfold aO;rw[if_neg pG,if_neg hlf])])
       have gk:(ns[X.length].kind != 15)=true:=by simp;omega
       have yS:(ns[X.length].kind != 16)=true:=by simp;omega
       clear jH pG hlf
       go_wp2_with (first|(go_at_call 144;refine(qh ns[X.length] _).mono ?_;rintro e w2⟨rfl,hb2⟩;rw[qF.out];obtain⟨hc2,hf2,hs2⟩:=bH hb2;have dB:=(hrows.keep ((Below.refl _ _).alloc (Nat.le_refl _) _)).keep hb2;simp only[World.size_alloc]at hs2;have hl2:wr.heap.size<w2.heap.size:=(by omega);have hbw:Below wr.heap.size wr w2:=((Below.refl _ _).alloc (Nat.le_refl _) _).trans (hb2.mono (by simp));have hb2':Below (w.heap.size+1+1) wr w2:=((Below.refl _ _).alloc (by omega) _).trans (hb2.mono (by simp;omega));obtain⟨y0,y1,y2,yf⟩:=And.intro dB.x0 (And.intro dB.x1 (And.intro dB.x2 dB.fx));clear hb2;have t0:=(Below.cell hb2' (p:=⟨w.heap.size+1,0,none⟩) (by simp)).trans hq0;have t1:=(Below.cell hb2' (p:=⟨w.heap.size+1,1,none⟩) (by simp)).trans hq1;have t2:=(Below.cell hb2' (p:=⟨w.heap.size+1,2,none⟩) (by simp)).trans hq2;have tf:∀j,w2.frozen? ⟨w.heap.size+1,j,none⟩=false:=λj=>(Below.frozen hb2' (p:=⟨w.heap.size+1,j,none⟩) (by simp)).trans (hfr j)))
       (refine bodyPost_ret (v:=.tuple #[.agg #[.slice a0 X.length b0,.slice a1 X.length b1,.slice a2 X.length b2],.bool false]) (by simp[results,Tryz.results87,go_sem,t0,t1,t2]) rfl ⟨_,_,_,_,_,_,_,_,_,by rw[HT.out];rfl,?_,by rw[HT.out];simp⟩;exact(((hbel.trans (hb2'.mono (by omega))).setCell (by simp) _).setCell (by simp) _).setCell (by simp) _)
   ·
    as_aux_lemma =>
     have hkl:X.length=ns.length:=by omega
     have hgo:=hst.go.out
     rw[hkl,List.drop_length]at hgo
     have hgo':bU (aO L) ns []=some st:=hgo
     obtain⟨G0,hG0⟩:=hrows.r0.some (by simp;omega)
     subst hG0
     obtain⟨fl,hfl,hcase⟩:∃fl:Nat,(∃t,X[X.length-1]?=some (fl,t))/\((((fl:Int)==0)=true/\∃t,aS (aO L) ns=some t/\Hid (X[X.length-1]?=some (0,t)))\/(((fl:Int)==0)=false/\aS (aO L) ns=none)):=by
      match st,hst.ch,hgo' with
      | [],h,_=>have:=chain_nil h;subst this;simp at hkl;omega
      | [tb],h,e=>exact⟨0,⟨tb,(Pj h).2⟩,.inl ⟨rfl,tb,by unfold aS;rw[if_pos hl,e],show Hid _ from(Pj h).2⟩⟩
      | tb::ta::r,h,e =>
       obtain⟨f,g,lX,hf1,_⟩:=WU h
       exact⟨f,⟨tb,lX⟩,.inr ⟨by simp;omega,by unfold aS;rw[if_pos hl,e]⟩⟩
     obtain⟨tl,lX⟩:=hfl
     have f0:wr.cell? ⟨G0,ns.length-1,none⟩=some (.int .i64 (fl:Int)):=by obtain⟨hi0,he0⟩:=wz lX (λp:Nat×W2=>(p.1:Int));rw[<-hkl,hrows.r0.cell _ hi0,he0]
     have hGz:=cell_lt f0
     have hGB:w.heap.size+1+1+1<=G0:=(World.ownsRow.lt hrows.r0 G0 rfl).1
     have JZ:(1:Int)<=ns.length:=by omega
     have J4:(ns.length:Int)-1<X.length:=by omega
     have uP:((ns.length:Int)-1).toNat=ns.length-1:=by omega
     have TA:IntKind.i64.wrap ((ns.length:Int)-1)=(ns.length:Int)-1:=IntWalk.i64_in _ (by omega)
     have gl:¬(X.length:Int)<ns.length:=by omega
     have ETT:=Lib.hid (And.intro TA uP)
     clear TA uP
     have P9:¬w.heap.size=w.heap.size+1:=by omega
     have P_:¬w.heap.size+1+1=w.heap.size+1:=by omega
     have nT3:¬G0=w.heap.size+1:=by omega
     have sz1:w.heap.size<wr.heap.size:=by omega
     have HK:=Lib.hid hkl
     have HX:=Lib.hid lX
     clear hkl hgo hgo' lX
     have fin:∀(W:World),Below (w.heap.size+1+1) wr W->Below wr.heap.size wr W->kF W (w.heap.size+1+1+1) (w.heap.size+1+1) (Value.slice (some ⟨G0,0,none⟩) X.length b0) (Value.slice a1 X.length b1) (Value.slice a2 X.length b2) (X.map λp=>(p.1:Int)) (X.map λp=>p.2.1) (X.map λp=>p.2.2):=λW _ h=>hrows.keep h
     rcases hcase with⟨gq,t,HT,Gt⟩|⟨gq,HT⟩
     all_goals
      have MG:=Lib.hid HT
      clear HT
      go_wp2
      obtain⟨TA,uP⟩:=ETT.out
      refine bC (C:=ah ((λj=>j=w.heap.size+1)) _) 2 [0,1,2,3,4,5,6,7,8,9,10,11] (by kernel_rfl) (by kernel_rfl) (ah.grows _ _) (ah.refl _ _) ?_
      iterate 10 (apply fF rfl rfl rfl;(focus intro u hc' hf';(try simp only[World.size_drew]at hc' hf');go_simp<;>rfl);intro K hK;go_simp;apply hK;clear hK K)
      refine eH rfl rfl rfl (ah.grows _ _) (ah.refl _ _) (λK hK=>?_)
      intro w8 hw8 hb8
      have iq:Below wr.heap.size wr w8:=(Below.refl wr.heap.size wr).drew.trans (hb8.mono (by simp))
      have k0:=ak iq hq0
      have k1:=ak iq hq1
      have k2:=ak iq hq2
      have kf:∀j,w8.frozen? ⟨w.heap.size+1,j,none⟩=false:=λj=>(iq.frozen (p:=⟨w.heap.size+1,j,none⟩) (by simp;omega)).trans (hfr j)
      have R8:=hrows.keep iq
      refine⟨((w8.setCell ⟨w.heap.size+1,0,none⟩ (.slice (some ⟨G0,0,none⟩) X.length b0)).setCell ⟨w.heap.size+1,1,none⟩ (.slice a1 X.length b1)).setCell ⟨w.heap.size+1,2,none⟩ (.slice a2 X.length b2),?_,⟨aB (aB (aB hw8 (.inr rfl) _) (.inr rfl) _) (.inr rfl) _,by simp,λj hj _ _=>by rw[Below.heap_setCell _ _ _ _ (λh=>by simp at h hj;omega),Below.heap_setCell _ _ _ _ (λh=>by simp at h hj;omega),Below.heap_setCell _ _ _ _ (λh=>by simp at h hj;omega)]⟩,?_⟩
      ·go_simp
      go_simp
      refine hK _ _ _ ?_
      clear hK K
      refine qK rfl rfl rfl (λK hK=>?_)
      apply Exists.intro
      refine⟨λw' hw'=>?_,?_⟩
      ·go_simp
       rfl
      go_simp
      refine hK _ _ _ ?_
      clear hK K
      refine aK ?_
      go_wp2
      have J7:Below w.heap.size w (((w8.setCell ⟨w.heap.size+1,0,none⟩ (.slice (some ⟨G0,0,none⟩) X.length b0)).setCell ⟨w.heap.size+1,1,none⟩ (.slice a1 X.length b1)).setCell ⟨w.heap.size+1,2,none⟩ (.slice a2 X.length b2)):=(((hbel.trans (iq.mono hbel.size)).setCell (by simp) _).setCell (by simp) _).setCell (by simp) _
      have q0:=(((R8.r0.other ⟨w.heap.size+1,0,none⟩ (.slice (some ⟨G0,0,none⟩) X.length b0) (by simp)).other ⟨w.heap.size+1,1,none⟩ (.slice a1 X.length b1) (by simp)).other ⟨w.heap.size+1,2,none⟩ (.slice a2 X.length b2) (by simp))
      have q1:=(((R8.r1.other ⟨w.heap.size+1,0,none⟩ (.slice (some ⟨G0,0,none⟩) X.length b0) (by simp)).other ⟨w.heap.size+1,1,none⟩ (.slice a1 X.length b1) (by simp)).other ⟨w.heap.size+1,2,none⟩ (.slice a2 X.length b2) (by simp))
      have q2:=(((R8.r2.other ⟨w.heap.size+1,0,none⟩ (.slice (some ⟨G0,0,none⟩) X.length b0) (by simp)).other ⟨w.heap.size+1,1,none⟩ (.slice a1 X.length b1) (by simp)).other ⟨w.heap.size+1,2,none⟩ (.slice a2 X.length b2) (by simp))
     ·refine bodyPost_ret (v:=.tuple #[.agg #[.slice (some ⟨G0,0,none⟩) X.length b0,.slice a1 X.length b1,.slice a2 X.length b2],.bool true]) (by simp[results,Tryz.results87,go_sem,k0,k1,k2]) rfl ⟨_,_,_,_,_,_,_,_,_,by rw[MG.out];rfl,J7,λt' ht'=>⟨X,HK.out,?_,yx (by omega) q0,yx (by omega) q1,yx (by omega) q2⟩⟩
      rw[MG.out]at ht'
      obtain rfl:=Option.some.inj ht'
      rw[<-HK.out]
      exact Gt.out
     ·refine bodyPost_ret (v:=.tuple #[.agg #[.slice (some ⟨G0,0,none⟩) X.length b0,.slice a1 X.length b1,.slice a2 X.length b2],.bool false]) (by simp[results,Tryz.results87,go_sem,k0,k1,k2]) rfl ⟨_,_,_,_,_,_,_,_,_,by rw[MG.out];rfl,J7,by rw[MG.out];simp⟩
 ·have g1:inB ns.length 1 400=false:=by simp[inB];omega
  have HT:=Lib.hid (show aS (aO L) ns=none by unfold aS;rw[if_neg hl]);go_enter Tryz.func87,Tryz.ntmps87;go_wp2_with (go_at_call 143;refine(qI _ _ _ _).mono ?_;rintro e w1⟨rfl,rfl⟩)
  refine bodyPost_ret (v:=.tuple #[.agg #[.slice none 0 0,.slice none 0 0,.slice none 0 0],.bool false]) (by simp[results,Tryz.results87,go_sem]) rfl ⟨_,_,_,_,_,_,_,_,_,by rw[HT.out];rfl,?_,by rw[HT.out];simp⟩;exact(((Below.refl _ _).alloc (Nat.le_refl _) _).alloc (by simp) _).alloc (by simp;omega) _
end Go.Proofs.YtikgblkfmpecfaaGreatDoor
