/-
  Valid graphs, the reference's: l1All, hgEdge. Own work.
-/
import Derived.Test.YtbljmfcifljkaaaGreatDoorYSA
import Derived.Test.YtbljmfcifljkaaaGreatDoorYE
import Derived.Test.YtbljmfcifljkaaaGreatDoorYSB
set_option linter.all false
set_option maxRecDepth 100000
set_option maxHeartbeats 8000000
namespace Go.Proofs.YtbljmfcifljkaaaGreatDoor
open Go.RowKit
set_option maxRecDepth 100000
set_option maxHeartbeats 4000000
def allB (lo hi:Int) (zs:List Int):Bool:=zs.all fun z=>inB z lo hi
theorem l1All_any (v:Value) (zs:List Int) (lo hi:Int) (w:World) (hv:IntsAt w v zs) (hn:zs.length≤1048576) :
  Calls Tryz.prog 198 #[v,.int .i64 lo,.int .i64 hi] w fun e w'=>e=.returned (.bool (allB lo hi zs))∧w=w':=by
 obtain ⟨a,cap,rfl,hc,hat⟩:=hv
 go_enter Tryz.func198,Tryz.ntmps198
 go_wp2
 go_loopw [11] (fun i wr=>∃ k:Nat,k≤zs.length∧i=.int .i64 k∧wr=w∧∀ j,∀ h:j<zs.length,j<k → inB (zs[j]'h) lo hi=true) (fun i _=>zs.length - (intOf i).toNat)
 case atStart=>exact ⟨0,Nat.zero_le _,rfl,by first|rfl|trivial,fun j h1 h2=>by omega⟩
 case round =>
  obtain ⟨k,hk,rfl,hww,hall⟩:=hrel
  subst hww
  have HALL:=Lib.hid hall
  clear hall
  by_cases hlt:k<zs.length
  ·obtain ⟨b,o,rfl,_,c0⟩:=hat k hlt
   rw [Nat.mul_one] at c0
   have bz:=cell_lt c0
   cases hb:inB zs[k] lo hi with
   | false =>
    have hfin:allB lo hi zs=false:=List.all_eq_false.2 ⟨_,List.getElem_mem hlt,by simp [hb]⟩
    have HF:=Lib.hid hfin
    have HB:=Lib.hid hb
    clear hfin hb hat
    go_wp2_with (go_at_call 80;refine (l1In_any _ _ _ _).mono ?_;rintro r w2 ⟨rfl,rfl⟩;rw [HB.out])
    go_ret
    exact ⟨by rw [HF.out];rfl,rfl⟩
   | true =>
    have HB:=Lib.hid hb
    clear hb hat
    go_wp2_with (go_at_call 80;refine (l1In_any _ _ _ _).mono ?_;rintro r w2 ⟨rfl,rfl⟩;rw [HB.out])
    go_roundw
    case rel=>exact ⟨k+1,by omega,by go_num,by first|rfl|trivial,fun j h1 h2=>by
     rcases Nat.lt_or_ge j k with h|h
     ·exact HALL.out j h1 h
     ·obtain rfl:j=k:=by omega
      exact HB.out⟩
    case measure=>simp [intOf];omega
  ·obtain rfl:k=zs.length:=by omega
   have hfin:allB lo hi zs=true:=List.all_eq_true.2 fun z hz=>by obtain ⟨j,hj,rfl⟩:=List.mem_iff_getElem.1 hz;exact HALL.out j hj hj
   have HF:=Lib.hid hfin
   clear hfin hat
   go_wp2
   go_ret
   exact ⟨by rw [HF.out];rfl,rfl⟩
theorem allB_inG (n:Int) (zs:List Int):allB 0 (n - 1) zs=inG n zs:=rfl
theorem leaf_edB {e:EdI} (h:inB e.kind 3 14=true):leafB ⟨e.kind,e.value,⟨#[]⟩⟩=genValB e.kind e.value:=by
 have h2:3≤e.kind∧e.kind≤14:=by simpa [inB] using h
 unfold leafB genValB valB
 have e0:decide ((⟨#[]⟩:ByteArray)=ByteArray.empty)=true:=by decide
 simp only [e0,Bool.true_and]
 rw [decide_eq_true (show 1≤e.kind by omega),decide_eq_true h2.2,if_neg (show ¬ e.kind=1 by omega)]
 by_cases h7:e.kind=7∨e.kind=13
 ·rw [if_pos h7]
  rcases h7 with h7|h7 <;> simp [h7,inB]
 ·rw [if_neg h7]
  have h8:(e.kind == 7 || e.kind == 13)=false:=by simp;omega
  rw [h8]
  rw [Bool.eq_iff_iff];simp
def hgEdB (e:EdI) (n:Int):Bool:=edB e && (inG n e.ins && inG n e.outs)
theorem hgEdge_any (e:EdI) (n:Int) (vi vo:Value) (w:World) (hn:0≤n∧n≤100) (hi:IntsAt w vi e.ins) (ho:IntsAt w vo e.outs) (hok:EdOk e) :
  Calls Tryz.prog 266 #[.agg #[.int .i64 e.kind,.int .i64 e.value,vi,vo],.int .i64 n] w (FlP (hgEdB e n) w):=by
 obtain ⟨a1,q1,rfl⟩:=hi.slice
 obtain ⟨a2,q2,rfl⟩:=ho.slice
 have hA:=alloc_below w (.cells #[.int .i64 e.kind,.int .i64 e.value,.slice a1 e.ins.length q1,.slice a2 e.outs.length q2] 189)
 cases hk:inB e.kind 3 14 with
 | false =>
  have HK:=Lib.hid hk
  clear hk
  go_enter Tryz.func266,Tryz.ntmps266
  go_wp2_with (go_at_call 80;refine (l1In_any _ _ _ _).mono ?_;rintro r w2 ⟨rfl,rfl⟩;rw [HK.out])
  go_ret
  exact ⟨by unfold hgEdB edB;rw [HK.out];rfl,hA⟩
 | true =>
  have hlf:=leaf_edB hk
  have hLf:=tmLeaf_any ⟨e.kind,e.value,⟨#[]⟩⟩ (w.alloc (.cells #[.int .i64 e.kind,.int .i64 e.value,.slice a1 e.ins.length q1,.slice a2 e.outs.length q2] 189))
  rw [hlf] at hLf
  clear hlf
  have kE:=Bk.new w 189 #[.int .i64 e.kind,.int .i64 e.value,.slice a1 e.ins.length q1,.slice a2 e.outs.length q2]
  cases hv:genValB e.kind e.value with
  | false =>
   rw [hv] at hLf
   have HK:=Lib.hid (And.intro hk hv)
   clear hk hv
   go_enter Tryz.func266,Tryz.ntmps266
   go_wp2_with (first|(go_at_call 80;refine (l1In_any _ _ _ _).mono ?_;rintro r w2 ⟨rfl,rfl⟩;rw [HK.out.1])|(go_at_call 106;refine hLf.mono ?_;rintro r w2 ⟨rfl,hB2⟩))
   go_ret
   exact ⟨by unfold hgEdB edB;rw [HK.out.1,HK.out.2];rfl,hA.trans (hB2.mono hA.size)⟩
  | true =>
   rw [hv] at hLf
   obtain ⟨⟨k1,k2⟩,hK⟩:∃ p,kindW e.kind=p:=⟨_,rfl⟩
   have hkd:=fun u=>tmKind_any e.kind u
   rw [hK] at hkd
   have hE0:edB e=(decide (k1=(e.ins.length:Int)) && decide (k2=(e.outs.length:Int))):=by
    unfold edB;rw [hk,hv,hK];show (true && (true && decide _))=_;rw [Bool.true_and,Bool.true_and,← Bool.decide_and];exact decide_eq_decide.2 (by rw [Prod.mk.injEq])
   have h1:IntKind.i64.wrap (n - 1)=n - 1:=IntWalk.i64_in _ (by omega)
   have HK:=Lib.hid (And.intro hk hv)
   have HE:=Lib.hid hE0
   have HW:=Lib.hid h1
   clear hk hv hE0 hK h1
   have hi0:=hi.keep hA
   have ho0:=ho.keep hA
   have hAz:=hA.size
   obtain ⟨bA,hbA⟩:∃ b,allB 0 (n - 1) e.ins=b:=⟨_,rfl⟩
   have HA:=Lib.hid hbA
   clear hbA
   by_cases g1:k1=(e.ins.length:Int)
   all_goals by_cases g2:k2=(e.outs.length:Int)
   all_goals cases bA
   all_goals
    go_enter Tryz.func266,Tryz.ntmps266
    go_wp2_with (go_at_call 80;refine (l1In_any _ _ _ _).mono ?_;rintro r w2 ⟨rfl,rfl⟩;rw [HK.out.1])
    generalize (w.alloc (.cells #[.int .i64 e.kind,.int .i64 e.value,.slice a1 e.ins.length q1,.slice a2 e.outs.length q2] 189))=u0 at *
    refine hLf.mono ?_
    rintro r w2 ⟨rfl,hB2⟩
    replace kE:=kE.keep hB2
    replace hi0:=hi0.keep hB2
    replace ho0:=ho0.keep hB2
    replace hA:=hA.trans (hB2.mono hAz)
    clear hLf hB2 hAz hi ho
    obtain ⟨i0,-,-⟩:=kE.cell
    have d0:=i0 0
    have d2:=i0 2
    have d3:=i0 3
    simp at d0 d2 d3
    clear i0
    go_wp2_with (first|(go_at_call 169;refine (hkd _).mono ?_;rintro r w2 ⟨rfl,rfl⟩)|(go_at_call 198;refine (l1All_any _ _ _ _ _ (by first|exact hi0|exact ho0) (by first|exact hok.inn|exact hok.out)).mono ?_;rintro r w2 ⟨rfl,rfl⟩;(try rw [HA.out])))
    go_ret
    refine ⟨?_,hA⟩
    unfold hgEdB
    rw [HE.out,← allB_inG n e.ins,← allB_inG n e.outs,HA.out]
    first|simp [g1,g2]|(simp [g1];done)
end Go.Proofs.YtbljmfcifljkaaaGreatDoor
/-
  Counts of wires, plain. Own work.
-/
namespace Go.Proofs.YtbljmfcifljkaaaGreatDoor
def cnW (n:Nat) (l:List Int):List Int:=(List.range n).map fun w:Nat=>(l.count (w:Int):Int)
theorem cnW_length (n:Nat) (l:List Int):(cnW n l).length=n:=by simp [cnW]
theorem cnW_get (n:Nat) (l:List Int) (k:Nat) (h:k<(cnW n l).length):(cnW n l)[k]=(l.count (k:Int):Int):=by simp [cnW]
theorem cnW_nil (n:Nat):cnW n []=List.replicate n 0:=by
 apply List.ext_getElem
 ·simp [cnW]
 ·intro i h1 h2;simp [cnW]
theorem cnW_snoc (n:Nat) (l:List Int) (k:Nat) (hk:k<n):cnW n (l ++ [(k:Int)])=(cnW n l).set k ((l.count (k:Int):Int)+1):=by
 apply List.ext_getElem
 ·simp [cnW]
 ·intro i h1 h2
  rw [List.getElem_set,cnW_get,cnW_get,List.count_append]
  by_cases h:k=i
  ·subst h;simp
  ·rw [if_neg h]
   have:¬ (k:Int)=(i:Int):=by omega
   simp [this]
theorem cnt_le (l:List Int) (x:Int):l.count x≤l.length:=List.count_le_length
theorem met_iff (a b:List Int) (x:Int):((a.count x:Int)+(b.count x:Int)=0) ↔ ¬ ((a ++ b).contains x=true):=by
 have h:(a ++ b).count x=a.count x+b.count x:=List.count_append
 have h2:0<(a ++ b).count x ↔ x ∈ a ++ b:=List.count_pos_iff
 have h3:(a ++ b).contains x=true ↔ x ∈ a ++ b:=by simp
 rw [h3,← h2,h]
 omega
end Go.Proofs.YtbljmfcifljkaaaGreatDoor
/-
  A valid graph by the reference's tests, plain. Own work.
-/
namespace Go.Proofs.YtbljmfcifljkaaaGreatDoor
theorem inG_append (n:Int) (a b:List Int):inG n (a ++ b)=(inG n a && inG n b):=List.all_append
theorem inG_flat (n:Int):∀ es:List EdI,inG n (es.flatMap fun e=>e.ins ++ e.outs)=es.all fun e=>inG n e.ins && inG n e.outs
 | []=>rfl
 | e :: es=>by rw [List.flatMap_cons,inG_append,inG_append,inG_flat n es,List.all_cons]
theorem all_and {α:Type} (f g:α → Bool):∀ l:List α,(l.all fun x=>f x && g x)=(l.all f && l.all g)
 | []=>rfl
 | x :: l=>by rw [List.all_cons,List.all_cons,List.all_cons,all_and f g l];cases f x <;> cases g x <;> cases l.all f <;> rfl
theorem mem_places (g:GrI) (x:Int):x ∈ g.origs ++ g.dests ↔ x ∈ g.places:=by
 unfold GrI.origs GrI.dests GrI.places
 simp only [List.mem_append,List.mem_flatMap]
 constructor
 ·rintro ((h|⟨e,he,h⟩)|(h|⟨e,he,h⟩))
  ·exact .inl h
  ·exact .inr (.inr ⟨e,he,.inr h⟩)
  ·exact .inr (.inl h)
  ·exact .inr (.inr ⟨e,he,.inl h⟩)
 ·rintro (h|h|⟨e,he,h|h⟩)
  ·exact .inl (.inl h)
  ·exact .inr (.inl h)
  ·exact .inr (.inr ⟨e,he,h⟩)
  ·exact .inl (.inr ⟨e,he,h⟩)
theorem allG_counts (g:GrI):allG g=true ↔ ∀ w:Nat,(w:Int)<g.wires → ¬ ((g.origs.count (w:Int):Int)+(g.dests.count (w:Int):Int)=0):=by
 unfold allG
 rw [List.all_eq_true]
 constructor
 ·intro h w hw he
  rw [met_iff] at he
  have h1:=h w (List.mem_range.2 (by omega))
  refine he ?_
  rw [List.contains_iff_mem] at h1 ⊢
  exact (mem_places g _).2 h1
 ·intro h w hw
  have h1:=h w (by have:=List.mem_range.1 hw;omega)
  rw [met_iff,Decidable.not_not,List.contains_iff_mem] at h1
  rw [List.contains_iff_mem]
  exact (mem_places g _).1 h1
def hgFitB (g:GrI):Bool:=gfitB g && (inG g.wires g.ins && inG g.wires g.outs)
theorem grB_hg (g:GrI):grB g=(hgFitB g && ((g.edges.all fun e=>hgEdB e g.wires) && allG g)):=by
 unfold grB hgFitB GrI.places hgEdB
 rw [inG_append,inG_append,inG_flat,all_and edB (fun e=>inG g.wires e.ins && inG g.wires e.outs) g.edges]
 generalize (g.edges.all fun e=>inG g.wires e.ins && inG g.wires e.outs)=q
 generalize g.edges.all edB=r
 generalize allG g=t
 cases gfitB g <;> cases r <;> cases inG g.wires g.ins <;> cases inG g.wires g.outs <;> cases q <;> cases t <;> rfl
end Go.Proofs.YtbljmfcifljkaaaGreatDoor
/-
  Monogamous by the counts, and values below p: plain. Own work.
-/
namespace Go.Proofs.YtbljmfcifljkaaaGreatDoor
theorem inG_iff (n:Int) (l:List Int):inG n l=true ↔ ∀ x ∈ l,0≤x∧x<n:=by
 unfold inG
 rw [List.all_eq_true]
 constructor
 ·intro h x hx
  have:=h x hx
  simp [inB] at this
  omega
 ·intro h x hx
  have:=h x hx
  simp [inB]
  omega
end Go.Proofs.YtbljmfcifljkaaaGreatDoor
/-
  hgMono, given the counts' contract. Own work.
-/
namespace Go.Proofs.YtbljmfcifljkaaaGreatDoor
open Go.RowKit
set_option maxRecDepth 100000
set_option maxHeartbeats 4000000
def CntP (g:GrI) (w:World) (e:Ending) (w':World):Prop :=
 ∃ v1 v2,e=.returned (.tuple #[v1,v2])∧IntsAt w' v1 (cnW g.wires.toNat g.origs)∧IntsAt w' v2 (cnW g.wires.toNat g.dests)∧Below w.heap.size w w'
end Go.Proofs.YtbljmfcifljkaaaGreatDoor
/-
  Good graphs over a field, the reference's, given hgValid. Own work.
-/
namespace Go.Proofs.YtbljmfcifljkaaaGreatDoor
open Go.RowKit
set_option maxRecDepth 100000
set_option maxHeartbeats 4000000
def HgV:Prop:=∀ (ve vi vo:Value) (g:GrI) (u:World),GrR u ve vi vo g → GrOk g → Calls Tryz.prog 196 #[.agg #[.int .i64 g.wires,ve,vi,vo]] u (FlP (grB g) u)
end Go.Proofs.YtbljmfcifljkaaaGreatDoor
