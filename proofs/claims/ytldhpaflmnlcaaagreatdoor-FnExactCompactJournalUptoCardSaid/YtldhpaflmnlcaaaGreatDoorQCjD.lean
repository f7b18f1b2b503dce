/-
  The entries that define a library's definitions. Own work.
-/
import Derived.Test.YtldhpaflmnlcaaaGreatDoorQC
import Derived.Test.YtldhpaflmnlcaaaGreatDoorQLW
import Derived.Test.YtldhpaflmnlcaaaGreatDoorQF
set_option linter.all false
set_option maxRecDepth 100000
set_option maxHeartbeats 8000000
namespace Go.Proofs.YtldhpaflmnlcaaaGreatDoor
open Go.RowKit
def enP (x:Df × Value):En × Value:=(enD x.1,x.2)
theorem ens_at {w:World} {B:Nat} {v:Value} {xs:List (En × Value)} (ho:w.ownsRow B 54 4 v xs.length (xs.flatMap enCells)) (hb:∀ x ∈ xs,NdsAt w x.2 x.1.body):EnsAt w v (xs.map Prod.fst):=by
 have ho':w.ownsRow B 54 4 v (xs.map Prod.fst).length (xs.flatMap enCells):=by rw [List.length_map];exact ho
 refine owns_slat ho' _ fun i b o hi' hc=>⟨hi',?_⟩
 have hi:i<xs.length:=by simpa using hi' 
 have g:∀ j,j<4 → w.cell? ⟨b,o+j,none⟩=(enCells xs[i])[j]?:=fun j hj=>(hc j hj).trans (flat_get enCells_len xs i j hi hj)
 rw [List.getElem_map]
 exact ⟨g 0 (by omega),g 1 (by omega),g 2 (by omega),xs[i].2,g 3 (by omega),hb _ (List.getElem_mem _)⟩
theorem en_append {w:World} {ops:Array Oper} {rest:List Oper} {o:Oper} {a:Act} {Q:Exit → Act → World → Prop} (hgd:o.guard=none) (s x:Operand)
  (ho:o.op=.call { callee:=.builtin .append,args:=#[s,x],argTypes:=#[63,63] })
  (B:Nat) (v:Value) (n:Nat) (xs:List Value) (e:En) (ab:Option Addr) (nb cb:Nat) (g:Nat) (hg:g=w.heap.size) (hs:a.eval s=v) (hx:a.eval x=.slice (some ⟨g,0,none⟩) 1 1) (hrow:w.ownsRow B 54 4 v n xs)
  (hB:B≤w.heap.size) (hl:n≤1048576)
  (H:∀ v' w',w'.ownsRow B 54 4 v' (n+1) (xs ++ enCells (e,.slice ab nb cb)) → (w.alloc (.cells #[.int .i64 e.kind,.string e.name,.string e.to,.slice ab nb cb] 54)).grownBy w' v.ownBlock → wpList Tryz.prog ops Q rest (a.put o.dst v') w') :
  wpList Tryz.prog ops Q (o :: rest) a (w.alloc (.cells #[.int .i64 e.kind,.string e.name,.string e.to,.slice ab nb cb] 54)):=by
 subst hg
 obtain ⟨i0,hi,hz0,hz1,hz2⟩:=info_parts info54
 have hk:=alloc_below w (.cells #[.int .i64 e.kind,.string e.name,.string e.to,.slice ab nb cb] 54)
 refine wpList_append_src hgd s x 63 ho B 54 i0 _ 4 64 Tryz.underlying63 hi hz0 hz1 hz2 rfl (by decide) v n xs hs (owns_keep hk hrow) _ 1 (enCells (e,.slice ab nb cb)) hx ⟨rfl,.inr ⟨_,1,rfl,?_⟩⟩ ?_ (by unfold maxLen;omega) (by omega) (by simp;omega) ?_
 ·intro j u hj
  match j,hj with
  | 0,hj=>simp [enCells] at hj;subst hj;simp [Addr.add]
  | 1,hj=>simp [enCells] at hj;subst hj;simp [Addr.add]
  | 2,hj=>simp [enCells] at hj;subst hj;simp [Addr.add]
  | 3,hj=>simp [enCells] at hj;subst hj;simp [Addr.add]
 ·intro u hu
  simp [enCells] at hu
  rcases hu with rfl|rfl|rfl|rfl <;> rfl
 ·intro v' w' h1 h2 h3
  exact H v' w' h1 h2
def DnSt (w wr:World) (B:Nat) (v:Value) (xs:List (Df × Value)) (k:Nat):Prop :=
 wr.ownsRow B 54 4 v k (((xs.take k).map enP).flatMap enCells)∧Below w.heap.size w wr∧w.heap.size≤B∧B≤wr.heap.size
theorem DnSt.step {w wr w':World} {B k:Nat} {v v':Value} {xs:List (Df × Value)} {o o2:Obj} (h:DnSt w wr B v xs k) (hk:k<xs.length)
  (hr:w'.ownsRow B 54 4 v' (k+1) (((xs.take k).map enP).flatMap enCells ++ enCells (enP xs[k]))) (hg:((wr.alloc o2).alloc o).grownBy w' v.ownBlock):DnSt w w' B v' xs (k+1):=by
 obtain ⟨h1,hbel,hwB,hB⟩:=h
 have h3:=hg.size
 have h4:=hbel.size
 simp only [World.size_alloc] at h3
 refine ⟨?_,((hbel.alloc (by omega) o2).alloc (by simp;omega) o).grown hg (by simp;omega) (fun j hj=>Nat.le_trans hwB (World.ownsRow.lt h1 j hj).1),hwB,by omega⟩
 rw [List.take_succ_eq_append_getElem hk,List.map_append,List.flatMap_append]
 simpa using hr
theorem DnSt.fin {w wr:World} {B:Nat} {v v0:Value} {xs:List (Df × Value)} (h:DnSt w wr B v xs xs.length) (hv:DfsVals w v0 xs):EnsAt wr v ((xs.map Prod.fst).map enD)∧Below w.heap.size w wr:=by
 obtain ⟨h1,hbel,_,_⟩:=h
 rw [List.take_length] at h1
 refine ⟨?_,hbel⟩
 have:=ens_at (w:=wr) (B:=B) (v:=v) (xs:=xs.map enP) (by simpa using h1) (fun x hx=>by
  obtain ⟨y,hy,rfl⟩:=List.mem_map.1 hx
  exact (hv.2 y hy).keep hbel)
 rw [List.map_map] at this ⊢
 exact this
theorem vals_at {w:World} {a:Option Addr} {n c:Nat} {xs:List (Df × Value)} (h:DfsVals w (.slice a n c) xs) (k:Nat) (hk:k<xs.length) :
  ∃ b o,a=some ⟨b,o,none⟩∧w.cell? ⟨b,o+k * 4,none⟩=some (.string xs[k].1.name)∧w.cell? ⟨b,o+k * 4+1,none⟩=some (.int .i64 xs[k].1.inn)∧w.cell? ⟨b,o+k * 4+2,none⟩=some (.int .i64 xs[k].1.out)∧w.cell? ⟨b,o+k * 4+3,none⟩=some xs[k].2∧∃ ab cb,xs[k].2=.slice ab xs[k].1.body.length cb:=by
 obtain ⟨⟨a',c',e,_,hat⟩,hb⟩:=h
 simp only [Value.slice.injEq] at e
 obtain ⟨rfl,_,_⟩:=e
 obtain ⟨b,o,h1,_,h2⟩:=hat k hk
 exact ⟨b,o,h1,h2 0 (by omega),h2 1 (by omega),h2 2 (by omega),h2 3 (by omega),(hb _ (List.getElem_mem _)).slice⟩
theorem definitions_any (v:Value) (L:List Df) (w:World) (hv:DfsAt w v L) (hn:L.length≤1048576) :
  Calls Tryz.prog 99 #[v] w fun e w'=>∃ v',e=.returned v'∧EnsAt w' v' (L.map enD)∧Below w.heap.size w w':=by
 obtain ⟨xs,rfl,hxs⟩:=hv.vals
 obtain ⟨a,cap,rfl⟩:∃ a cap,v=.slice a xs.length cap:=by obtain ⟨⟨a,cap,rfl,_⟩,_⟩:=hxs;exact ⟨a,cap,rfl⟩
 have HX:=Lib.hid hxs
 simp only [List.length_map] at hn
 clear hv hxs
 go_enter Tryz.func99,Tryz.ntmps99
 go_wp2
 go_loopw [3,9] (fun v i wr=>∃ k:Nat,k≤xs.length∧i=.int .i64 k∧DnSt w wr w.heap.size v xs k) (fun _ i _=>xs.length - (intOf i).toNat)
 case atStart =>
  refine ⟨0,by omega,rfl,?_,alloc_below _ _,Nat.le_refl _,by simp⟩
  have:=World.ownsRow_made (base:=w.heap.size) (size:=4) (e:=54) w #[] 0 (Nat.le_refl _) (by unfold maxLen;omega) rfl
  simpa using this
 case round =>
  obtain ⟨k,hk,rfl,hst⟩:=hrel
  obtain ⟨ao,cp,rfl⟩:=owns_shape' hst.1
  have HST:=Lib.hid hst
  by_cases hlt:k<xs.length
  ·obtain ⟨b,o,rfl,g0,g1,g2,g3,ab,cb,g4⟩:=vals_at HX.out k hlt
   have hbel:=hst.2.1
   have c0:=cell_keep hbel g0
   have c1:=cell_keep hbel g1
   have c2:=cell_keep hbel g2
   have c3:=cell_keep hbel g3
   rw [g4] at c3
   have hrow:=owns_keep (alloc_below wr (.cells #[.string xs[k].1.name,.int .i64 xs[k].1.inn,.int .i64 xs[k].1.out,.slice ab xs[k].1.body.length cb] 28)) hst.1
   have hsz:=hst.2.2.2
   have HG:=Lib.hid (show enP xs[k]=(enD xs[k].1,.slice ab xs[k].1.body.length cb) by unfold enP;rw [g4])
   have STEP:∀ (v':Value) (w':World) (o o2:Obj),w'.ownsRow w.heap.size 54 4 v' (k+1) (((xs.take k).map enP).flatMap enCells ++ enCells (enD xs[k].1,.slice ab xs[k].1.body.length cb)) → ((wr.alloc o2).alloc o).grownBy w' (Value.slice ao k cp).ownBlock → DnSt w w' w.heap.size v' xs (k+1):=fun v' w' o o2 h1 h2=>hst.step hlt (by rw [HG.out];exact h1) h2
   have HW:=Lib.hid hrow
   clear g0 g1 g2 g3 g4 hst hrow
   go_wp2_with (at_builtin;go_must (refine en_append (e:=enD xs[k].1) (ab:=ab) (nb:=xs[k].1.body.length) (cb:=cb) (g:=wr.heap.size+1) rfl (.tmp 13) (.tmp 19) rfl w.heap.size _ k _ (by simp) rfl rfl HW.out ?e1 ?e2 ?_;(case e1=>(simp;omega));(case e2=>omega);intro v' w' h1 h2;have hst:=STEP v' w' _ _ h1 h2;obtain ⟨ao',cp',rfl⟩:=owns_shape' h1;clear h1 h2))
   go_roundw
   case rel=>exact ⟨k+1,by omega,by go_num,hst⟩
   case measure=>simp [intOf];omega
  ·go_wp2
   go_ret
   have hkk:k=xs.length:=by omega
   subst hkk
   exact ⟨_,rfl,HST.out.fin HX.out⟩
theorem ensOk_good {L:List Df} (h:good L=true):(∀ e ∈ L.map enD,EnOk e)∧(L.map enD).length≤1048576:=by
 have h1:=good_bnd h
 have h2:=good_len h
 refine ⟨fun x hx=>?_,by simp;omega⟩
 obtain ⟨d,hd,rfl⟩:=List.mem_map.1 hx
 obtain ⟨q1,q2,q3⟩:=h1 d hd
 exact ⟨by show d.name.size≤1048576;omega,by show (0:Nat)≤1048576;omega,fun n hn=>by have:=q3 n hn;omega,by show d.body.length≤1048576;omega⟩
end Go.Proofs.YtldhpaflmnlcaaaGreatDoor
