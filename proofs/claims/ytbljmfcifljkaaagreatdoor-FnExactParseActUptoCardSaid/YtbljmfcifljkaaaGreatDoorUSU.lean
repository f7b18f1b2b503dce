/-
  Valid graphs, the reference's: l1All, hgEdge. Own work.
-/
import Derived.Test.YtbljmfcifljkaaaGreatDoorUSA
import Derived.Test.YtbljmfcifljkaaaGreatDoorUE
import Derived.Test.YtbljmfcifljkaaaGreatDoorUSB
set_option linter.all false
set_option maxRecDepth 100000
set_option maxHeartbeats 8000000
namespace Go.Proofs.YtbljmfcifljkaaaGreatDoor
open Go.RowKit
set_option maxRecDepth 100000
set_option maxHeartbeats 4000000
def allB (lo hi:Int) (zs:List Int):Bool:=zs.all fun z=>inB z lo hi
theorem l1All_any (v:Value) (zs:List Int) (lo hi:Int) (w:World) (hv:IntsAt w v zs) (hn:zs.length≤1048576) :
  Calls Tryz.prog 198 #[v,.int .i64 lo,.int .i64 hi] w fun e w'=>e=.returned (.bool (allB lo hi zs))∧w=w':=by
 obtain ⟨a,cap,rfl,hc,hat⟩:=hv
 go_enter Tryz.func198,Tryz.ntmps198
 go_wp2
 go_loopw [11] (fun i wr=>∃ k:Nat,k≤zs.length∧i=.int .i64 k∧wr=w∧∀ j,∀ h:j<zs.length,j<k → inB (zs[j]'h) lo hi=true) (fun i _=>zs.length - (intOf i).toNat)
 case atStart=>exact ⟨0,Nat.zero_le _,rfl,by first|rfl|trivial,fun j h1 h2=>by omega⟩
 case round =>
  obtain ⟨k,hk,rfl,hww,hall⟩:=hrel
  subst hww
  have HALL:=Lib.hid hall
  clear hall
  by_cases hlt:k<zs.length
  ·obtain ⟨b,o,rfl,_,c0⟩:=hat k hlt
   rw [Nat.mul_one] at c0
   have bz:=cell_lt c0
   cases hb:inB zs[k] lo hi with
   | false =>
    have hfin:allB lo hi zs=false:=List.all_eq_false.2 ⟨_,List.getElem_mem hlt,by simp [hb]⟩
    have HF:=Lib.hid hfin
    have HB:=Lib.hid hb
    clear hfin hb hat
    go_wp2_with (go_at_call 80;refine (l1In_any _ _ _ _).mono ?_;rintro r w2 ⟨rfl,rfl⟩;rw [HB.out])
    go_ret
    exact ⟨by rw [HF.out];rfl,rfl⟩
   | true =>
    have HB:=Lib.hid hb
    clear hb hat
    go_wp2_with (go_at_call 80;refine (l1In_any _ _ _ _).mono ?_;rintro r w2 ⟨rfl,rfl⟩;rw [HB.out])
    go_roundw
    case rel=>exact ⟨k+1,by omega,by go_num,by first|rfl|trivial,fun j h1 h2=>by
     rcases Nat.lt_or_ge j k with h|h
     ·exact HALL.out j h1 h
     ·obtain rfl:j=k:=by omega
      exact HB.out⟩
    case measure=>simp [intOf];omega
  ·obtain rfl:k=zs.length:=by omega
   have hfin:allB lo hi zs=true:=List.all_eq_true.2 fun z hz=>by obtain ⟨j,hj,rfl⟩:=List.mem_iff_getElem.1 hz;exact HALL.out j hj hj
   have HF:=Lib.hid hfin
   clear hfin hat
   go_wp2
   go_ret
   exact ⟨by rw [HF.out];rfl,rfl⟩
theorem allB_inG (n:Int) (zs:List Int):allB 0 (n - 1) zs=inG n zs:=rfl
theorem leaf_edB {e:EdI} (h:inB e.kind 3 14=true):leafB ⟨e.kind,e.value,⟨#[]⟩⟩=genValB e.kind e.value:=by
 have h2:3≤e.kind∧e.kind≤14:=by simpa [inB] using h
 unfold leafB genValB valB
 have e0:decide ((⟨#[]⟩:ByteArray)=ByteArray.empty)=true:=by decide
 simp only [e0,Bool.true_and]
 rw [decide_eq_true (show 1≤e.kind by omega),decide_eq_true h2.2,if_neg (show ¬ e.kind=1 by omega)]
 by_cases h7:e.kind=7∨e.kind=13
 ·rw [if_pos h7]
  rcases h7 with h7|h7 <;> simp [h7,inB]
 ·rw [if_neg h7]
  have h8:(e.kind == 7 || e.kind == 13)=false:=by simp;omega
  rw [h8]
  rw [Bool.eq_iff_iff];simp
def hgEdB (e:EdI) (n:Int):Bool:=edB e && (inG n e.ins && inG n e.outs)
theorem hgEdge_any (e:EdI) (n:Int) (vi vo:Value) (w:World) (hn:0≤n∧n≤100) (hi:IntsAt w vi e.ins) (ho:IntsAt w vo e.outs) (hok:EdOk e) :
  Calls Tryz.prog 266 #[.agg #[.int .i64 e.kind,.int .i64 e.value,vi,vo],.int .i64 n] w (FlP (hgEdB e n) w):=by
 obtain ⟨a1,q1,rfl⟩:=hi.slice
 obtain ⟨a2,q2,rfl⟩:=ho.slice
 have hA:=alloc_below w (.cells #[.int .i64 e.kind,.int .i64 e.value,.slice a1 e.ins.length q1,.slice a2 e.outs.length q2] 189)
 cases hk:inB e.kind 3 14 with
 | false =>
  have HK:=Lib.hid hk
  clear hk
  go_enter Tryz.func266,Tryz.ntmps266
  go_wp2_with (go_at_call 80;refine (l1In_any _ _ _ _).mono ?_;rintro r w2 ⟨rfl,rfl⟩;rw [HK.out])
  go_ret
  exact ⟨by unfold hgEdB edB;rw [HK.out];rfl,hA⟩
 | true =>
  have hlf:=leaf_edB hk
  have hLf:=tmLeaf_any ⟨e.kind,e.value,⟨#[]⟩⟩ (w.alloc (.cells #[.int .i64 e.kind,.int .i64 e.value,.slice a1 e.ins.length q1,.slice a2 e.outs.length q2] 189))
  rw [hlf] at hLf
  clear hlf
  have kE:=Bk.new w 189 #[.int .i64 e.kind,.int .i64 e.value,.slice a1 e.ins.length q1,.slice a2 e.outs.length q2]
  cases hv:genValB e.kind e.value with
  | false =>
   rw [hv] at hLf
   have HK:=Lib.hid (And.intro hk hv)
   clear hk hv
   go_enter Tryz.func266,Tryz.ntmps266
   go_wp2_with (first|(go_at_call 80;refine (l1In_any _ _ _ _).mono ?_;rintro r w2 ⟨rfl,rfl⟩;rw [HK.out.1])|(go_at_call 106;refine hLf.mono ?_;rintro r w2 ⟨rfl,hB2⟩))
   go_ret
   exact ⟨by unfold hgEdB edB;rw [HK.out.1,HK.out.2];rfl,hA.trans (hB2.mono hA.size)⟩
  | true =>
   rw [hv] at hLf
   obtain ⟨⟨k1,k2⟩,hK⟩:∃ p,kindW e.kind=p:=⟨_,rfl⟩
   have hkd:=fun u=>tmKind_any e.kind u
   rw [hK] at hkd
   have hE0:edB e=(decide (k1=(e.ins.length:Int)) && decide (k2=(e.outs.length:Int))):=by
    unfold edB;rw [hk,hv,hK];show (true && (true && decide _))=_;rw [Bool.true_and,Bool.true_and,← Bool.decide_and];exact decide_eq_decide.2 (by rw [Prod.mk.injEq])
   have h1:IntKind.i64.wrap (n - 1)=n - 1:=IntWalk.i64_in _ (by omega)
   have HK:=Lib.hid (And.intro hk hv)
   have HE:=Lib.hid hE0
   have HW:=Lib.hid h1
   clear hk hv hE0 hK h1
   have hi0:=hi.keep hA
   have ho0:=ho.keep hA
   have hAz:=hA.size
   obtain ⟨bA,hbA⟩:∃ b,allB 0 (n - 1) e.ins=b:=⟨_,rfl⟩
   have HA:=Lib.hid hbA
   clear hbA
   by_cases g1:k1=(e.ins.length:Int)
   all_goals by_cases g2:k2=(e.outs.length:Int)
   all_goals cases bA
   all_goals
    go_enter Tryz.func266,Tryz.ntmps266
    go_wp2_with (go_at_call 80;refine (l1In_any _ _ _ _).mono ?_;rintro r w2 ⟨rfl,rfl⟩;rw [HK.out.1])
    generalize (w.alloc (.cells #[.int .i64 e.kind,.int .i64 e.value,.slice a1 e.ins.length q1,.slice a2 e.outs.length q2] 189))=u0 at *
    refine hLf.mono ?_
    rintro r w2 ⟨rfl,hB2⟩
    replace kE:=kE.keep hB2
    replace hi0:=hi0.keep hB2
    replace ho0:=ho0.keep hB2
    replace hA:=hA.trans (hB2.mono hAz)
    clear hLf hB2 hAz hi ho
    obtain ⟨i0,-,-⟩:=kE.cell
    have d0:=i0 0
    have d2:=i0 2
    have d3:=i0 3
    simp at d0 d2 d3
    clear i0
    go_wp2_with (first|(go_at_call 169;refine (hkd _).mono ?_;rintro r w2 ⟨rfl,rfl⟩)|(go_at_call 198;refine (l1All_any _ _ _ _ _ (by first|exact hi0|exact ho0) (by first|exact hok.inn|exact hok.out)).mono ?_;rintro r w2 ⟨rfl,rfl⟩;(try rw [HA.out])))
    go_ret
    refine ⟨?_,hA⟩
    unfold hgEdB
    rw [HE.out,← allB_inG n e.ins,← allB_inG n e.outs,HA.out]
    first|simp [g1,g2]|(simp [g1];done)
end Go.Proofs.YtbljmfcifljkaaaGreatDoor
/-
  Counts of wires, plain. Own work.
-/
namespace Go.Proofs.YtbljmfcifljkaaaGreatDoor
def cnW (n:Nat) (l:List Int):List Int:=(List.range n).map fun w:Nat=>(l.count (w:Int):Int)
theorem cnW_length (n:Nat) (l:List Int):(cnW n l).length=n:=by simp [cnW]
theorem cnW_get (n:Nat) (l:List Int) (k:Nat) (h:k<(cnW n l).length):(cnW n l)[k]=(l.count (k:Int):Int):=by simp [cnW]
theorem cnW_nil (n:Nat):cnW n []=List.replicate n 0:=by
 apply List.ext_getElem
 ·simp [cnW]
 ·intro i h1 h2;simp [cnW]
theorem cnW_snoc (n:Nat) (l:List Int) (k:Nat) (hk:k<n):cnW n (l ++ [(k:Int)])=(cnW n l).set k ((l.count (k:Int):Int)+1):=by
 apply List.ext_getElem
 ·simp [cnW]
 ·intro i h1 h2
  rw [List.getElem_set,cnW_get,cnW_get,List.count_append]
  by_cases h:k=i
  ·subst h;simp
  ·rw [if_neg h]
   have:¬ (k:Int)=(i:Int):=by omega
   simp [this]
theorem cnt_le (l:List Int) (x:Int):l.count x≤l.length:=List.count_le_length
theorem met_iff (a b:List Int) (x:Int):((a.count x:Int)+(b.count x:Int)=0) ↔ ¬ ((a ++ b).contains x=true):=by
 have h:(a ++ b).count x=a.count x+b.count x:=List.count_append
 have h2:0<(a ++ b).count x ↔ x ∈ a ++ b:=List.count_pos_iff
 have h3:(a ++ b).contains x=true ↔ x ∈ a ++ b:=by simp
 rw [h3,← h2,h]
 omega
end Go.Proofs.YtbljmfcifljkaaaGreatDoor
/-
  A valid graph by the reference's tests, plain. Own work.
-/
namespace Go.Proofs.YtbljmfcifljkaaaGreatDoor
theorem inG_append (n:Int) (a b:List Int):inG n (a ++ b)=(inG n a && inG n b):=List.all_append
theorem inG_flat (n:Int):∀ es:List EdI,inG n (es.flatMap fun e=>e.ins ++ e.outs)=es.all fun e=>inG n e.ins && inG n e.outs
 | []=>rfl
 | e :: es=>by rw [List.flatMap_cons,inG_append,inG_append,inG_flat n es,List.all_cons]
theorem all_and {α:Type} (f g:α → Bool):∀ l:List α,(l.all fun x=>f x && g x)=(l.all f && l.all g)
 | []=>rfl
 | x :: l=>by rw [List.all_cons,List.all_cons,List.all_cons,all_and f g l];cases f x <;> cases g x <;> cases l.all f <;> rfl
theorem mem_places (g:GrI) (x:Int):x ∈ g.origs ++ g.dests ↔ x ∈ g.places:=by
 unfold GrI.origs GrI.dests GrI.places
 simp only [List.mem_append,List.mem_flatMap]
 constructor
 ·rintro ((h|⟨e,he,h⟩)|(h|⟨e,he,h⟩))
  ·exact .inl h
  ·exact .inr (.inr ⟨e,he,.inr h⟩)
  ·exact .inr (.inl h)
  ·exact .inr (.inr ⟨e,he,.inl h⟩)
 ·rintro (h|h|⟨e,he,h|h⟩)
  ·exact .inl (.inl h)
  ·exact .inr (.inl h)
  ·exact .inr (.inr ⟨e,he,h⟩)
  ·exact .inl (.inr ⟨e,he,h⟩)
theorem allG_counts (g:GrI):allG g=true ↔ ∀ w:Nat,(w:Int)<g.wires → ¬ ((g.origs.count (w:Int):Int)+(g.dests.count (w:Int):Int)=0):=by
 unfold allG
 rw [List.all_eq_true]
 constructor
 ·intro h w hw he
  rw [met_iff] at he
  have h1:=h w (List.mem_range.2 (by omega))
  refine he ?_
  rw [List.contains_iff_mem] at h1 ⊢
  exact (mem_places g _).2 h1
 ·intro h w hw
  have h1:=h w (by have:=List.mem_range.1 hw;omega)
  rw [met_iff,Decidable.not_not,List.contains_iff_mem] at h1
  rw [List.contains_iff_mem]
  exact (mem_places g _).1 h1
def hgFitB (g:GrI):Bool:=gfitB g && (inG g.wires g.ins && inG g.wires g.outs)
theorem grB_hg (g:GrI):grB g=(hgFitB g && ((g.edges.all fun e=>hgEdB e g.wires) && allG g)):=by
 unfold grB hgFitB GrI.places hgEdB
 rw [inG_append,inG_append,inG_flat,all_and edB (fun e=>inG g.wires e.ins && inG g.wires e.outs) g.edges]
 generalize (g.edges.all fun e=>inG g.wires e.ins && inG g.wires e.outs)=q
 generalize g.edges.all edB=r
 generalize allG g=t
 cases gfitB g <;> cases r <;> cases inG g.wires g.ins <;> cases inG g.wires g.outs <;> cases q <;> cases t <;> rfl
end Go.Proofs.YtbljmfcifljkaaaGreatDoor
/-
  Monogamous by the counts, and values below p: plain. Own work.
-/
namespace Go.Proofs.YtbljmfcifljkaaaGreatDoor
theorem inG_iff (n:Int) (l:List Int):inG n l=true ↔ ∀ x ∈ l,0≤x∧x<n:=by
 unfold inG
 rw [List.all_eq_true]
 constructor
 ·intro h x hx
  have:=h x hx
  simp [inB] at this
  omega
 ·intro h x hx
  have:=h x hx
  simp [inB]
  omega
theorem allB_one (n:Nat) (l:List Int):allB 1 1 (cnW n l)=true ↔ ∀ w:Nat,w<n → l.count (w:Int)=1:=by
 unfold allB cnW
 rw [List.all_eq_true]
 constructor
 ·intro h w hw
  have:=h _ (List.mem_map.2 ⟨w,List.mem_range.2 hw,rfl⟩)
  simp [inB] at this
  omega
 ·intro h z hz
  obtain ⟨w,hw,rfl⟩:=List.mem_map.1 hz
  have:=h w (List.mem_range.1 hw)
  simp [inB]
  omega
theorem perm_counts (n:Int) (l:List Int) (hn:0≤n) (h:∀ x ∈ l,0≤x∧x<n):permB l n=allB 1 1 (cnW n.toNat l):=by
 have h2:=once_iff n.toNat l (fun x hx=>⟨(h x hx).1,by have:=(h x hx).2;omega⟩)
 have h3:=allB_one n.toNat l
 have h4:=(inG_iff n l).2 h
 unfold permB
 rw [h4,Bool.true_and,Bool.eq_iff_iff,h3,← h2,Bool.and_eq_true,decide_eq_true_iff,decide_eq_true_iff]
 constructor
 ·rintro ⟨a,b⟩;exact ⟨by omega,b⟩
 ·rintro ⟨a,b⟩;exact ⟨by omega,b⟩
theorem gr_range {g:GrI} (h:grB g=true):(0≤g.wires∧g.wires≤100)∧∀ x ∈ g.places,0≤x∧x<g.wires:=by
 unfold grB gfitB at h
 simp only [Bool.and_eq_true] at h
 obtain ⟨⟨h1,-⟩,-,h2,-⟩:=h
 exact ⟨by simpa [inB] using h1,(inG_iff _ _).1 h2⟩
theorem mono_counts {g:GrI} (h:grB g=true):monoB g=(allB 1 1 (cnW g.wires.toNat g.origs) && allB 1 1 (cnW g.wires.toNat g.dests)):=by
 obtain ⟨⟨h1,-⟩,h2⟩:=gr_range h
 unfold monoB
 rw [perm_counts _ _ h1 (fun x hx=>h2 x ((mem_places g x).1 (List.mem_append.2 (.inl hx)))),perm_counts _ _ h1 (fun x hx=>h2 x ((mem_places g x).1 (List.mem_append.2 (.inr hx))))]
theorem over_lt {g:GrI} {p:Int} (h:grB g=true) (hp:0<p):overB p g=g.edges.all fun e=>decide (e.value<p):=by
 unfold grB at h
 simp only [Bool.and_eq_true] at h
 obtain ⟨-,he,-⟩:=h
 rw [List.all_eq_true] at he
 unfold overB
 rw [Bool.eq_iff_iff,List.all_eq_true,List.all_eq_true]
 refine forall_congr' fun e=>forall_congr' fun hm=>?_
 have h1:=he e hm
 unfold edB genValB at h1
 simp only [Bool.and_eq_true] at h1
 obtain ⟨-,hg,-⟩:=h1
 cases hv:valB e.kind with
 | true=>rw [Bool.not_true,Bool.false_or]
 | false =>
  rw [hv] at hg
  have hz:e.value=0:=by simpa using hg
  rw [Bool.not_false,Bool.true_or,hz]
  simp [hp]
end Go.Proofs.YtbljmfcifljkaaaGreatDoor
/-
  hgMono, given the counts' contract. Own work.
-/
namespace Go.Proofs.YtbljmfcifljkaaaGreatDoor
open Go.RowKit
set_option maxRecDepth 100000
set_option maxHeartbeats 4000000
def CntP (g:GrI) (w:World) (e:Ending) (w':World):Prop :=
 ∃ v1 v2,e=.returned (.tuple #[v1,v2])∧IntsAt w' v1 (cnW g.wires.toNat g.origs)∧IntsAt w' v2 (cnW g.wires.toNat g.dests)∧Below w.heap.size w w'
theorem hgMono_any (g:GrI) (be bi bo:Option Addr) (de di dO:Nat) (w:World) (h:grB g=true)
  (hC:∀ u,Below w.heap.size w u → Calls Tryz.prog 197 #[.agg #[.int .i64 g.wires,.slice be g.edges.length de,.slice bi g.ins.length di,.slice bo g.outs.length dO]] u (CntP g u)) :
  Calls Tryz.prog 134 #[.agg #[.int .i64 g.wires,.slice be g.edges.length de,.slice bi g.ins.length di,.slice bo g.outs.length dO]] w (FlP (monoB g) w):=by
 have hA:=alloc_below w (.cells #[.int .i64 g.wires,.slice be g.edges.length de,.slice bi g.ins.length di,.slice bo g.outs.length dO] 53)
 have hCC:=hC _ hA
 clear hC
 unfold CntP at hCC
 have hm:=mono_counts h
 have hl1:(cnW g.wires.toNat g.origs).length≤1048576:=by rw [cnW_length];have:=gr_range h;omega
 have hl2:(cnW g.wires.toNat g.dests).length≤1048576:=by rw [cnW_length];have:=gr_range h;omega
 generalize cnW g.wires.toNat g.origs=l1 at *
 generalize cnW g.wires.toNat g.dests=l2 at *
 have hm2:∃ b1,allB 1 1 l1=b1:=⟨_,rfl⟩
 obtain ⟨b1,hb1⟩:=hm2
 have HM:=Lib.hid hm
 have H1:=Lib.hid hb1
 clear hm hb1 h
 cases b1
 all_goals
  go_enter Tryz.func134,Tryz.ntmps134
  go_wp2_with fail
  generalize (w.alloc (.cells #[.int .i64 g.wires,.slice be g.edges.length de,.slice bi g.ins.length di,.slice bo g.outs.length dO] 53))=u0 at *
  refine hCC.mono ?_
  rintro r w2 ⟨v1,v2,rfl,hv1,hv2,hB⟩
  have hA2:=hA.trans (hB.mono hA.size)
  clear hB hA hCC
  go_wp2_with (go_at_call 198;refine (l1All_any _ _ _ _ _ (by first|exact hv1|exact hv2) (by first|exact hl1|exact hl2)).mono ?_;rintro r w2 ⟨rfl,rfl⟩;(try rw [H1.out]))
  go_ret
  exact ⟨by rw [HM.out,H1.out];first|rfl|simp,hA2⟩
end Go.Proofs.YtbljmfcifljkaaaGreatDoor
/-
  Good graphs over a field, the reference's, given hgValid. Own work.
-/
namespace Go.Proofs.YtbljmfcifljkaaaGreatDoor
open Go.RowKit
set_option maxRecDepth 100000
set_option maxHeartbeats 4000000
theorem lt_no {p:Int} {g:GrI} {k:Nat} (hk:k<g.edges.length) (h:¬ g.edges[k].value<p):(g.edges.all fun e=>decide (e.value<p))=false :=
 List.all_eq_false.2 ⟨_,List.getElem_mem hk,by simp [h]⟩
theorem lt_yes {p:Int} {g:GrI} (h:∀ j,∀ hj:j<g.edges.length,(g.edges[j]'hj).value<p):(g.edges.all fun e=>decide (e.value<p))=true :=
 List.all_eq_true.2 fun e he=>by obtain ⟨j,hj,rfl⟩:=List.mem_iff_getElem.1 he;exact decide_eq_true (h j hj)
def HgV:Prop:=∀ (ve vi vo:Value) (g:GrI) (u:World),GrR u ve vi vo g → GrOk g → Calls Tryz.prog 196 #[.agg #[.int .i64 g.wires,ve,vi,vo]] u (FlP (grB g) u)
theorem hgGood_any (hV:HgV) (p:Int) (ve vi vo:Value) (g:GrI) (w:World) (hR:GrR w ve vi vo g) (hok:GrOk g) :
  Calls Tryz.prog 133 #[.int .i64 p,.agg #[.int .i64 g.wires,ve,vi,vo]] w (FlP (primeB p && (grB g && overB p g)) w):=by
 obtain ⟨⟨ae,ce,rfl⟩,⟨ai,ci,rfl⟩,ao,co,rfl⟩:=hR.slices
 have hA:=alloc_below w (.cells #[.int .i64 g.wires,.slice ae g.edges.length ce,.slice ai g.ins.length ci,.slice ao g.outs.length co] 53)
 have hF:=fdGood_any p (w.alloc (.cells #[.int .i64 g.wires,.slice ae g.edges.length ce,.slice ai g.ins.length ci,.slice ao g.outs.length co] 53))
 cases hp:primeB p with
 | false =>
  rw [hp] at hF
  have HF:=Lib.hid hF
  clear hF hp
  go_enter Tryz.func133,Tryz.ntmps133
  go_wp2_with (go_at_call 79;refine HF.out.mono ?_;rintro r w1 ⟨rfl,hb1⟩)
  go_ret
  exact ⟨rfl,hA.trans (hb1.mono hA.size)⟩
 | true =>
  rw [hp] at hF
  have hp0:0<p:=by have:=primeB_le hp;omega
  have HF:=Lib.hid hF
  clear hF hp
  have hG:=fun (w1:World) (hb:Below w.heap.size w w1)=>hV _ _ _ g w1 (hR.keep hb) hok
  cases hg:grB g with
  | false =>
   rw [hg] at hG
   have HG:=Lib.hid hG
   clear hG hg
   go_enter Tryz.func133,Tryz.ntmps133
   have kG:=Bk.new w 53 #[.int .i64 g.wires,.slice ae g.edges.length ce,.slice ai g.ins.length ci,.slice ao g.outs.length co]
   go_wp2_with fail
   generalize (w.alloc (.cells #[.int .i64 g.wires,.slice ae g.edges.length ce,.slice ai g.ins.length ci,.slice ao g.outs.length co] 53))=u0 at *
   refine HF.out.mono ?_
   rintro r w1 ⟨rfl,hb1⟩
   replace kG:=kG.keep hb1
   have hB1:=hA.trans (hb1.mono hA.size)
   obtain ⟨iG,-,zG⟩:=kG.cell
   go_wp2_with fail
   refine (HG.out _ hB1).mono ?_
   rintro r w2 ⟨rfl,hb2⟩
   go_wp2
   go_ret
   exact ⟨rfl,hB1.trans (hb2.mono hB1.size)⟩
  | true =>
   rw [hg] at hG
   have hpp:0<p:=hp0
   rw [over_lt hg hpp]
   have HG:=Lib.hid hG
   clear hG hg
   go_enter Tryz.func133,Tryz.ntmps133
   have kG:=Bk.new w 53 #[.int .i64 g.wires,.slice ae g.edges.length ce,.slice ai g.ins.length ci,.slice ao g.outs.length co]
   go_wp2_with fail
   generalize (w.alloc (.cells #[.int .i64 g.wires,.slice ae g.edges.length ce,.slice ai g.ins.length ci,.slice ao g.outs.length co] 53))=u0 at *
   refine HF.out.mono ?_
   rintro r w1 ⟨rfl,hb1⟩
   replace kG:=kG.keep hb1
   have hB1:=hA.trans (hb1.mono hA.size)
   obtain ⟨iG,-,zG⟩:=kG.cell
   go_wp2_with fail
   refine (HG.out _ hB1).mono ?_
   rintro r w2 ⟨rfl,hb2⟩
   clear iG zG
   replace kG:=kG.keep hb2
   have hB2:=hB1.trans (hb2.mono hB1.size)
   obtain ⟨iG,-,zG⟩:=kG.cell
   go_wp2_with fail
   clear hb1 hb2 hB1 iG zG kG hA
   obtain ⟨pe,cpe,he,hce,hat⟩:=hR.ed
   simp only [Value.slice.injEq] at he
   obtain ⟨rfl,-,rfl⟩:=he
   have hel:=hok.ed
   go_loopw [18] (fun i wr=>∃ k:Nat,k≤g.edges.length∧i=.int .i64 k∧Below w.heap.size w wr∧∀ j,∀ h:j<g.edges.length,j<k → (g.edges[j]'h).value<p) (fun i _=>g.edges.length - (intOf i).toNat)
   case atStart=>exact ⟨0,Nat.zero_le _,rfl,hB2,fun j h1 h2=>by omega⟩
   case round =>
    clear hB2
    obtain ⟨k,hk,rfl,hbw,hall⟩:=hrel
    have HALL:=Lib.hid hall
    clear hall
    by_cases hlt:k<g.edges.length
    ·obtain ⟨b,o,rfl,_,hnd⟩:=hat k hlt
     obtain ⟨c0,c1,x1,x2,c2,c3,hi,ho⟩:=hnd.keep hbw
     obtain ⟨a1,q1,rfl⟩:=hi.slice
     obtain ⟨a2,q2,rfl⟩:=ho.slice
     have bz:=cell_lt c0
     have hB3:=hbw.trans ((alloc_below wr (.cells #[.int .i64 g.edges[k].kind,.int .i64 g.edges[k].value,.slice a1 g.edges[k].ins.length q1,.slice a2 g.edges[k].outs.length q2] 189)).mono hbw.size)
     by_cases hlp:g.edges[k].value<p
     ·have HNEW:=Lib.hid hlp
      have hge:¬ p≤g.edges[k].value:=by omega
      clear hlp hat hnd
      go_wp2
      go_roundw
      case rel=>exact ⟨k+1,by omega,by go_num,hB3,fun j h1 h2=>by
       rcases Nat.lt_or_ge j k with h|h
       ·exact HALL.out j h1 h
       ·obtain rfl:j=k:=by omega
        exact HNEW.out⟩
      case measure=>simp [intOf];omega
     ·have HNEW:=Lib.hid (lt_no hlt hlp)
      have hge:p≤g.edges[k].value:=by omega
      clear hlp hat hnd
      go_wp2
      go_ret
      exact ⟨by rw [HNEW.out];rfl,hB3⟩
    ·obtain rfl:k=g.edges.length:=by omega
     have hfin:(g.edges.all fun e=>decide (e.value<p))=true:=lt_yes fun j hj=>HALL.out j hj hj
     have HFIN:=Lib.hid hfin
     clear hfin hat
     go_wp2
     go_ret
     exact ⟨by rw [HFIN.out];rfl,hbw⟩
end Go.Proofs.YtbljmfcifljkaaaGreatDoor
