/-
  An order of things that need others: the least that is ready comes next. Own work.
-/
import Derived.Test.YtbljmfcifljkaaaGreatDoorXAH
import Derived.Test.YtbljmfcifljkaaaGreatDoorXAF
import Derived.Shelf.Small.Strs
import Derived.Shelf.Strconv.Atoi
import Derived.Shelf.Strconv.Itoa0
import Derived.Shelf.Strconv.Itoa1
import Derived.Shelf.LaysM
import Derived.Shelf.Strconv.Itoa2
import Derived.Shelf.Strconv.Itoa3
import Derived.Shelf.Strings.Search1
import Derived.Shelf.Strings.Search2
import Derived.Shelf.Strings.Search3
import Derived.Shelf.Strings.Count
import Derived.Shelf.Strings.Shaped
import Derived.Shelf.Strings.Prefix
import Derived.Shelf.Unicode.DecodeSlow
import Derived.Test.YtbljmfcifljkaaaGreatDoorProg
import Derived.Test.YtbljmfcifljkaaaGreatDoorXCB
import Derived.WalkSpells
import Derived.Test.YtbljmfcifljkaaaGreatDoorXAA
import Derived.Laws.IdiomStrings
import Derived.Test.YtbljmfcifljkaaaGreatDoorXAC
import Derived.Test.YtbljmfcifljkaaaGreatDoorXAB
import Derived.Test.YtbljmfcifljkaaaGreatDoorXAG
import Derived.Laws.OwnMore
set_option linter.all false
set_option maxRecDepth 100000
set_option maxHeartbeats 8000000
namespace Go.Proofs.YtbljmfcifljkaaaGreatDoor
open Go.RowKit
set_option maxRecDepth 100000
set_option maxHeartbeats 1000000
def rdyB (ks:List Int) (dn:List Bool):Bool:=ks.all fun k=>dn.getD k.toNat true
def frB (nd:List (List Int)) (dn:List Bool) (i:Nat):Bool:=!(dn.getD i true) && rdyB (nd.getD i []) dn
def nxt (nd:List (List Int)) (dn:List Bool) (k:Nat):Option Nat:=(List.range k).find? (frB nd dn)
def nxtV:Option Nat → Int
 | some i=>i
 | none=>-1
def ordGo (nd:List (List Int)):Nat → List Bool → List Int
 | 0,_=>[]
 | f+1,dn=>match nxt nd dn dn.length with
  | none=>[]
  | some i=>(i:Int) :: ordGo nd f (dn.set i true)
theorem nxt_some {nd:List (List Int)} {dn:List Bool} {k i:Nat} (h:nxt nd dn k=some i):i<k∧frB nd dn i=true:=by
 refine ⟨List.mem_range.1 (List.mem_of_find?_eq_some h),?_⟩
 have:=List.find?_some h
 simpa using this
theorem nxt_had {nd:List (List Int)} {dn:List Bool} {k i:Nat} (h:nxt nd dn k=some i):nxt nd dn (k+1)=some i:=by
 unfold nxt at h ⊢
 rw [List.range_succ,List.find?_append,h]
 rfl
theorem nxt_yes {nd:List (List Int)} {dn:List Bool} {k:Nat} (h:nxt nd dn k=none) (hf:frB nd dn k=true):nxt nd dn (k+1)=some k:=by
 unfold nxt at h ⊢
 rw [List.range_succ,List.find?_append,h]
 simp [hf]
theorem nxt_no {nd:List (List Int)} {dn:List Bool} {k:Nat} (hf:frB nd dn k=false):nxt nd dn (k+1)=nxt nd dn k:=by
 unfold nxt
 rw [List.range_succ,List.find?_append]
 simp [hf]
theorem frB_done {nd:List (List Int)} {dn:List Bool} {k:Nat} (hk:k<dn.length) (h:dn[k]=true):frB nd dn k=false:=by
 unfold frB
 rw [List.getD_eq_getElem?_getD,List.getElem?_eq_getElem hk]
 simp [h]
theorem frB_open {nd:List (List Int)} {dn:List Bool} {k:Nat} (hk:k<dn.length) (h:dn[k]=false):frB nd dn k=rdyB (nd.getD k []) dn:=by
 unfold frB
 rw [List.getD_eq_getElem?_getD,List.getElem?_eq_getElem hk]
 simp [h]
theorem dn_count {dn:List Bool} {i:Nat} (hi:i<dn.length) (h:dn[i]=false):(dn.set i true).count false+1=dn.count false:=by
 induction dn generalizing i with
 | nil=>simp at hi
 | cons b r ih =>
  cases i with
  | zero=>simp at h;subst h;simp
  | succ i =>
   simp only [List.getElem_cons_succ] at h
   have:=ih (by simpa using hi) h
   cases b <;> simp <;> omega
theorem ordGo_step {nd:List (List Int)} {dn:List Bool} {i f:Nat} (h:nxt nd dn dn.length=some i):ordGo nd (f+1) dn=(i:Int) :: ordGo nd f (dn.set i true):=by
 show (match nxt nd dn dn.length with|none=>[]|some i=>(i:Int) :: ordGo nd f (dn.set i true))=_
 rw [h]
theorem ordGo_end {nd:List (List Int)} {dn:List Bool} {f:Nat} (h:nxt nd dn dn.length=none):ordGo nd f dn=[]:=by
 cases f with
 | zero=>rfl
 | succ f =>
  show (match nxt nd dn dn.length with|none=>[]|some i=>(i:Int) :: ordGo nd f (dn.set i true))=_
  rw [h]
def BlB (w:World) (g:Nat) (bs:List Bool):Prop:=Bk w g 4 (bs.map Value.bool).toArray
theorem BlB.get {w:World} {g:Nat} {bs:List Bool} (h:BlB w g bs) (i:Nat) (hi:i<bs.length):w.cell? ⟨g,i,none⟩=some (.bool bs[i]):=by
 rw [Bk.cell h |>.1 i]
 simp [hi]
theorem BlB.set {w:World} {g:Nat} {bs:List Bool} (h:BlB w g bs) (i:Nat) (b:Bool):BlB (w.setCell ⟨g,i,none⟩ (.bool b)) g (bs.set i b):=by
 have:=Bk.set h i (.bool b)
 unfold BlB
 rw [List.map_set]
 simpa using this
theorem BlB.frz {w:World} {g:Nat} {bs:List Bool} (h:BlB w g bs) (j:Nat):w.frozen? ⟨g,j,none⟩=false:=(Bk.cell h).2.1 j
theorem BlB.lt {w:World} {g:Nat} {bs:List Bool} (h:BlB w g bs):g<w.heap.size:=Bk.lt h
theorem BlB.keep {w w':World} {g:Nat} {bs:List Bool} (hb:Below w.heap.size w w') (h:BlB w g bs):BlB w' g bs:=Bk.keep hb h
theorem bls_bk {w:World} {B g n:Nat} {bs:List Bool} (hl:bs.length=n) (h:w.ownsRow B 4 1 (.slice (some ⟨g,0,none⟩) n n) n (bs.flatMap bCell)):BlB w g bs:=by
 rcases h.2 with ⟨e,_⟩|⟨g',cap,cur,e,hB,hg,h1,h2,h3,h4⟩
 ·simp at e
 ·simp only [Value.slice.injEq,Option.some.injEq,Addr.mk.injEq,and_true,true_and] at e
  obtain ⟨rfl,rfl⟩:=e
  have h5:bs.flatMap bCell=bs.map Value.bool:=by
   clear h h4 hl h1
   induction bs with
   | nil=>rfl
   | cons b r ih=>simp [bCell,ih]
  rw [h5,List.take_of_length_le (by rw [Array.length_toList,h3];exact Nat.le_refl _)] at h4
  show w.heap[g]?=some (.cells (bs.map Value.bool).toArray 4)
  rw [hg,← h4]
end Go.Proofs.YtbljmfcifljkaaaGreatDoor
/-
  Monogamous graphs, the program's. Own work.
-/
namespace Go.Proofs.YtbljmfcifljkaaaGreatDoor
open Go.RowKit
set_option maxRecDepth 100000
set_option maxHeartbeats 4000000
theorem addrAdd (b o j:Nat):(⟨b,o,none⟩:Addr).add j=⟨b,o+j,none⟩:=by
 cases j <;> simp [Addr.add]
theorem row_blk_ne {w:World} {B e sz b:Nat} {v:Value} {n:Nat} {xs:List Value} {cs:Array Value} {t:TypeId} (h:w.ownsRow B e sz v n xs) (hb:Bk w b t cs) (he:e ≠ t):v.ownBlock ≠ some b:=by
 intro hk
 rcases h.2 with ⟨rfl,_⟩|⟨g,cap,cur,rfl,_,hgg,_⟩
 ·simp [Value.ownBlock] at hk
 ·simp [Value.ownBlock] at hk
  subst hk
  unfold Bk at hb
  rw [hgg] at hb
  simp at hb
  exact he hb.2
theorem Bk.grown {w w':World} {row:Option Nat} {b:Nat} {t:TypeId} {cs:Array Value} (hg:w.grownBy w' row) (h:Bk w b t cs) (hr:row ≠ some b):Bk w' b t cs:=(hg.block b h.lt (fun e=>hr e.symm)).trans h
theorem flat2 (f:EdI → List Int):∀ (L:List EdI),(∀ e ∈ L,(f e).length≤2) → (L.flatMap f).length≤2 * L.length
 | [],_=>by simp
 | e :: L,h=>by
  have h1:=h e (by simp)
  have h2:=flat2 f L (fun x hx=>h x (by simp [hx]))
  rw [List.flatMap_cons,List.length_append,List.length_cons]
  omega
theorem grB_lens {g:GrI} (h:grB g=true):g.edges.length≤60∧g.origs.length≤132∧g.dests.length≤132:=by
 unfold grB gfitB at h
 simp only [Bool.and_eq_true,decide_eq_true_eq,List.all_eq_true] at h
 obtain ⟨⟨_,h2,h3,h4⟩,h5,_⟩:=h
 have a:=flat2 EdI.outs g.edges (fun e he=>(edB_len (h5 e he)).2)
 have b:=flat2 EdI.ins g.edges (fun e he=>(edB_len (h5 e he)).1)
 unfold GrI.origs GrI.dests
 rw [List.length_append,List.length_append]
 omega
theorem flat_cons_map (z:List Int) (f:EdI → List Int) (L:List EdI):(z :: L.map f).flatten=z ++ L.flatMap f:=by
 rw [List.flatten_cons,List.flatMap_def]
theorem infoLs:(Tryz.prog.info? 40).map (fun i=>(i.zero,i.size,i.bytes))=some (some (.slice none 0 0),1,24):=by kernel_rfl
def lCell (x:List Int × Value):List Value:=[x.2]
theorem lCell_len (x:List Int × Value):(lCell x).length=1:=rfl
structure LsR (w0 w:World) (v:Value) (xs:List (List Int × Value)):Prop where
 row:w.ownsRow w0.heap.size 40 1 v xs.length (xs.flatMap lCell)
 els:∀ x ∈ xs,IntsAt w0 x.2 x.1
theorem LsR.at {w0 w:World} {v:Value} {xs:List (List Int × Value)} (h:LsR w0 w v xs) (hb:Below w0.heap.size w0 w):LsAt w v (xs.map Prod.fst):=by
 have ho:w.ownsRow w0.heap.size 40 1 v (xs.map Prod.fst).length (xs.flatMap lCell):=by rw [List.length_map];exact h.row
 refine owns_slat ho _ fun i b o hi' hc=>⟨hi',?_⟩
 have hi:i<xs.length:=by simpa using hi'
 have g:=(hc 0 (by omega)).trans (flat_get lCell_len xs i 0 hi (by omega))
 rw [List.getElem_map]
 exact ⟨xs[i].2,g,(h.els _ (List.getElem_mem hi)).keep hb⟩
theorem LsR.keep {w0 w w':World} {v:Value} {xs:List (List Int × Value)} (hb:Below w.heap.size w w') (h:LsR w0 w v xs):LsR w0 w' v xs:=⟨owns_keep hb h.row,h.els⟩
theorem LsR.grown {w0 w w':World} {v:Value} {xs:List (List Int × Value)} {row:Option Nat} (h:LsR w0 w v xs) (hg:w.grownBy w' row) (hne:∀ k,v.ownBlock=some k → row ≠ some k):LsR w0 w' v xs:=by
 refine ⟨World.ownsRow.kept h.row hg ?_,h.els⟩
 cases hv:v.ownBlock with
 | none=>exact .inl rfl
 | some k=>exact .inr (fun e=>hne k hv (e ▸ rfl))
theorem LsR.made {w0 w:World} {b:Nat} {u:Value} {zs:List Int} (hbo:w.heap[b]?=some (.cells #[u] 40)) (hB:w0.heap.size≤b) (hu:IntsAt w0 u zs):LsR w0 w (.slice (some ⟨b,0,none⟩) 1 1) [(zs,u)] :=
 ⟨⟨rfl,.inr ⟨b,1,#[u],rfl,hB,hbo,Nat.le_refl _,by unfold maxLen;omega,rfl,rfl⟩⟩,fun x hx=>by simp only [List.mem_singleton] at hx;subst hx;exact hu⟩
theorem ls_append {w0 w:World} {ops:Array Oper} {rest:List Oper} {o:Oper} {a:Act} {Q:Exit → Act → World → Prop} (hgd:o.guard=none) (s x:Operand)
  (ho:o.op=.call { callee:=.builtin .append,args:=#[s,x],argTypes:=#[256,256] })
  (v:Value) (xs:List (List Int × Value)) (hs:a.eval s=v) (hrow:LsR w0 w v xs) (u:Value) (zs:List Int) (hu:IntsAt w0 u zs) (b:Nat) (hx:a.eval x=.slice (some ⟨b,0,none⟩) 1 1) (hb:w.heap[b]?=some (.cells #[u] 40)) (hw0:w0.heap.size≤w.heap.size) (hl:xs.length≤1000)
  (H:∀ v' w',LsR w0 w' v' (xs ++ [(zs,u)]) → w.grownBy w' v.ownBlock → (v'.ownBlock=v.ownBlock∨v'.ownBlock=some w.heap.size) → wpList Tryz.prog ops Q rest (a.put o.dst v') w'):wpList Tryz.prog ops Q (o :: rest) a w:=by
 obtain ⟨i0,hi,hz0,hz1,hz2⟩:=info_parts infoLs
 obtain ⟨au,cu,rfl⟩:=hu.slice
 refine wpList_append_src hgd s x 256 ho w0.heap.size 40 i0 _ 1 24 Tryz.underlying256 hi hz0 hz1 hz2 rfl (by decide) v xs.length _ hs hrow.row _ 1 [.slice au zs.length cu] hx ⟨rfl,.inr ⟨_,1,rfl,?_⟩⟩ ?_ (by unfold maxLen;omega) (by omega) hw0 ?_
 ·intro j u hj
  obtain ⟨m0,_,_⟩:=made_cell hb
  rw [addrAdd,Nat.zero_add,m0 j]
  simpa using hj
 ·intro u hu'
  simp only [List.mem_singleton] at hu'
  subst hu';rfl
 ·intro v' w' h1 h2 h3
  refine H v' w' ⟨?_,?_⟩ h2 h3
  ·rw [List.length_append,List.flatMap_append]
   exact h1
  ·intro y hy
   rcases List.mem_append.1 hy with hy|hy
   ·exact hrow.els y hy
   ·simp only [List.mem_singleton] at hy
    subst hy;exact hu
theorem isMonogamous_any (ve vi vo:Value) (g:GrI) (w:World) (hR:GrR w ve vi vo g) (hok:GrOk g) :
  Calls Tryz.prog 124 #[.agg #[.int .i64 g.wires,ve,vi,vo]] w (FlP (grB g && monoB g) w):=by
 obtain ⟨⟨ae,ce,rfl⟩,⟨ai,ci,rfl⟩,ao,co,rfl⟩:=hR.slices
 have hA:=alloc_below w (.cells #[.int .i64 g.wires,.slice ae g.edges.length ce,.slice ai g.ins.length ci,.slice ao g.outs.length co] 53)
 have hG:=isGraph_any _ _ _ g _ (hR.keep hA) hok
 cases hg:grB g with
 | false =>
  rw [hg] at hG
  have HG:=Lib.hid hG
  clear hG hg
  go_enter Tryz.func124,Tryz.ntmps124
  go_wp2_with fail
  refine HG.out.mono ?_
  rintro r w1 ⟨rfl,hb1⟩
  go_wp2
  go_ret
  exact ⟨rfl,hA.trans (hb1.mono hA.size)⟩
 | true =>
  rw [hg] at hG
  have HG:=Lib.hid hG
  have HGR:=Lib.hid hg
  clear hG hg
  go_enter Tryz.func124,Tryz.ntmps124
  have kG:=Bk.new w 53 #[.int .i64 g.wires,.slice ae g.edges.length ce,.slice ai g.ins.length ci,.slice ao g.outs.length co]
  go_wp2_with fail
  generalize (w.alloc (.cells #[.int .i64 g.wires,.slice ae g.edges.length ce,.slice ai g.ins.length ci,.slice ao g.outs.length co] 53))=u0 at *
  refine HG.out.mono ?_
  rintro r w1 ⟨rfl,hb1⟩
  replace kG:=kG.keep hb1
  have hB1:=hA.trans (hb1.mono hA.size)
  clear hA hb1 HG
  obtain ⟨iG,-,zG⟩:=kG.cell
  have c0:w1.cell? ⟨w.heap.size,2,none⟩=some (.slice ai g.ins.length ci):=iG 2
  have c1:w1.cell? ⟨w.heap.size,3,none⟩=some (.slice ao g.outs.length co):=iG 3
  have hwz:=hB1.size
  go_wp2_with fail
  refine region_acts (C:=Exc (NoT) _) 4 [0,1,2,3,4,5,6,7] (by kernel_rfl) (by kernel_rfl) (Exc.grows _ _) (Exc.refl _ _) ?_
  iterate 2 (apply x_st rfl rfl rfl;(focus intro u hc' hf';go_simp <;> rfl);intro K hK;go_simp;apply hK;clear hK K)
  refine x_make rfl rfl rfl (Exc.grows _ _) (Exc.refl _ _) (fun b=>.slice (some ⟨b,0,none⟩) 1 1) (fun K hK=>?_)
  apply Exists.intro
  refine ⟨fun w' hw'=>?_,fun bA x1 hx1 hb1 hbo1 hN1 hn1=>?_⟩
  ·obtain ⟨hc',hf'⟩:=hw'.cell
   try simp only [World.size_drew] at hc' hf'
   go_simp
   rfl
  go_simp
  refine hK _ _ _ ?_
  clear hK K
  iterate 2 (apply x_st rfl rfl rfl;(focus intro u hc' hf';go_simp <;> rfl);intro K hK;go_simp;apply hK;clear hK K)
  refine x_make rfl rfl rfl (Exc.grows _ _) (hx1) (fun b=>.slice (some ⟨b,0,none⟩) 1 1) (fun K hK=>?_)
  apply Exists.intro
  refine ⟨fun w' hw'=>?_,fun bB x2 hx2 hb2 hbo2 hN2 hn2=>?_⟩
  ·obtain ⟨hc',hf'⟩:=hw'.cell
   try simp only [World.size_drew] at hc' hf'
   go_simp
   rfl
  go_simp
  refine hK _ _ _ ?_
  clear hK K
  iterate 2 (apply x_st rfl rfl rfl;(focus intro u hc' hf';go_simp <;> rfl);intro K hK;go_simp;apply hK;clear hK K)
  refine x_nil ?_
  have hb12:Below w1.heap.size w1 x2:=(Below.refl _ _).drew.trans (hx2.toBelow.mono (by simp))
  replace kG:=kG.keep hb12
  have hwx:=hb2.size
  simp only [World.size_drew] at hN1 hN2
  have r3:LsR w x2 (.slice (some ⟨bA,0,none⟩) 1 1) [(g.ins,.slice ai g.ins.length ci)]:=LsR.made ((hb2.block bA (made_cell hbo1).2.2).trans hbo1) (by omega) hR.inn
  have r4:LsR w x2 (.slice (some ⟨bB,0,none⟩) 1 1) [(g.outs,.slice ao g.outs.length co)]:=LsR.made hbo2 (by omega) hR.out
  have hap:Apart (.slice (some ⟨bA,0,none⟩) 1 1) (.slice (some ⟨bB,0,none⟩) 1 1):=fun k h1 h2=>by simp [Value.ownBlock] at h1 h2;omega
  have hB2:=hB1.trans (hb12.mono hwz)
  clear iG zG c0 c1 hbo1 hbo2 hN1 hN2 hn1 hn2 hx1 hx2 hb1 hb2 hb12 hB1 hwz
  obtain ⟨iG,-,zG⟩:=kG.cell
  go_wp2_with fail
  clear iG zG
  obtain ⟨pe,cpe,he,hce,hat⟩:=hR.ed
  simp only [Value.slice.injEq] at he
  obtain ⟨rfl,-,rfl⟩:=he
  obtain ⟨hel,hol,hdl⟩:=grB_lens HGR.out
  have HL:=Lib.hid (And.intro hol hdl)
  clear hol hdl
  go_loopw [3,4,19] (fun v3 v4 i wr=>∃ (k:Nat) (xs ys:List (List Int × Value)),k≤g.edges.length∧i=.int .i64 k∧LsR w wr v3 xs∧LsR w wr v4 ys∧Apart v3 v4∧Below w.heap.size w wr∧Bk wr w.heap.size 53 #[.int .i64 g.wires,.slice ae g.edges.length ce,.slice ai g.ins.length ci,.slice ao g.outs.length co] ∧
   Hid (xs.map Prod.fst=g.ins :: (g.edges.take k).map EdI.outs∧ys.map Prod.fst=g.outs :: (g.edges.take k).map EdI.ins∧xs.length=k+1∧ys.length=k+1)) (fun _ _ i _=>g.edges.length - (intOf i).toNat)
  case atStart=>exact ⟨0,_,_,Nat.zero_le _,rfl,r3,r4,hap,hB2,kG,⟨by simp,by simp,rfl,rfl⟩⟩
  case round =>
   clear r3 r4 hap hB2 kG
   obtain ⟨k,xs,ys,hk,rfl,r3,r4,hap,hbw,kG,HF⟩:=hrel
   by_cases hlt:k<g.edges.length
   ·obtain ⟨b,o,rfl,_,hnd⟩:=hat k hlt
    obtain ⟨c0,c1,y1,y2,c2,c3,hi,ho⟩:=hnd.keep hbw
    obtain ⟨d0,d1,z1,z2,d2,d3,hi0,ho0⟩:=hnd
    obtain rfl:y1=z1:=by have:=cell_keep hbw d2;rw [c2] at this;exact Option.some.inj this
    obtain rfl:y2=z2:=by have:=cell_keep hbw d3;rw [c3] at this;exact Option.some.inj this
    obtain ⟨a1,q1,rfl⟩:=hi0.slice
    obtain ⟨a2,q2,rfl⟩:=ho0.slice
    have bz:=cell_lt c0
    have hwr:=hbw.size
    have hxl:xs.length≤1000:=by have:=HF.out.2.2.1;omega
    have hyl:ys.length≤1000:=by have:=HF.out.2.2.2;omega
    have hT1:(g.edges.take (k+1)).map EdI.outs=(g.edges.take k).map EdI.outs ++ [g.edges[k].outs]:=by rw [List.take_succ_eq_append_getElem hlt,List.map_append];rfl
    have hT2:(g.edges.take (k+1)).map EdI.ins=(g.edges.take k).map EdI.ins ++ [g.edges[k].ins]:=by rw [List.take_succ_eq_append_getElem hlt,List.map_append];rfl
    have HT:=Lib.hid (And.intro hT1 hT2)
    obtain ⟨s3,t3,rfl⟩:=(r3.at hbw).slice
    obtain ⟨s4,t4,rfl⟩:=(r4.at hbw).slice
    rw [List.length_map] at r3 r4 hap ⊢
    rw [List.length_map] at hap ⊢
    have kE:=Bk.new wr 189 #[.int .i64 g.edges[k].kind,.int .i64 g.edges[k].value,.slice a1 g.edges[k].ins.length q1,.slice a2 g.edges[k].outs.length q2]
    have hA1:=alloc_below wr (.cells #[.int .i64 g.edges[k].kind,.int .i64 g.edges[k].value,.slice a1 g.edges[k].ins.length q1,.slice a2 g.edges[k].outs.length q2] 189)
    clear hat hT1 hT2 d0 d1 d2 d3 hi ho
    have kL1:((wr.alloc (.cells #[.int .i64 g.edges[k].kind,.int .i64 g.edges[k].value,.slice a1 g.edges[k].ins.length q1,.slice a2 g.edges[k].outs.length q2] 189)).alloc (.cells #[.slice a2 g.edges[k].outs.length q2] 40)).heap[wr.heap.size+1]?=some (.cells #[.slice a2 g.edges[k].outs.length q2] 40):=by
     have:=Bk.new (wr.alloc (.cells #[.int .i64 g.edges[k].kind,.int .i64 g.edges[k].value,.slice a1 g.edges[k].ins.length q1,.slice a2 g.edges[k].outs.length q2] 189)) 40 #[.slice a2 g.edges[k].outs.length q2]
     unfold Bk at this
     simpa using this
    have hA2:=alloc_below (wr.alloc (.cells #[.int .i64 g.edges[k].kind,.int .i64 g.edges[k].value,.slice a1 g.edges[k].ins.length q1,.slice a2 g.edges[k].outs.length q2] 189)) (.cells #[.slice a2 g.edges[k].outs.length q2] 40)
    have kE2:=kE.keep hA2
    have kG2:=(kG.keep hA1).keep hA2
    have r32:=(r3.keep hA1).keep hA2
    have r42:=(r4.keep hA1).keep hA2
    have hb2:=(hbw.trans (hA1.mono hwr)).trans (hA2.mono (by simp;omega))
    generalize hW2:((wr.alloc (.cells #[.int .i64 g.edges[k].kind,.int .i64 g.edges[k].value,.slice a1 g.edges[k].ins.length q1,.slice a2 g.edges[k].outs.length q2] 189)).alloc (.cells #[.slice a2 g.edges[k].outs.length q2] 40))=W2 at kL1 kE2 kG2 r32 r42 hb2
    have hW2z:=hb2.size
    have own3:∀ j,(Value.slice s3 xs.length t3).ownBlock=some j → j ≠ wr.heap.size∧j ≠ w.heap.size:=fun j hj=>⟨fun e=>by have:=(World.ownsRow.lt r3.row j hj).2;omega,fun e=>row_blk_ne r3.row kG (by decide) (e ▸ hj)⟩
    have own4:∀ j,(Value.slice s4 ys.length t4).ownBlock=some j → j ≠ wr.heap.size∧j ≠ w.heap.size:=fun j hj=>⟨fun e=>by have:=(World.ownsRow.lt r4.row j hj).2;omega,fun e=>row_blk_ne r4.row kG (by decide) (e ▸ hj)⟩
    have low4:∀ j,(Value.slice s4 ys.length t4).ownBlock=some j → w.heap.size≤j∧j<wr.heap.size:=fun j hj=>World.ownsRow.lt r4.row j hj
    have hwW:wr.heap.size≤W2.heap.size:=by rw [← hW2];simp;omega
    have low3:∀ j,(Value.slice s3 xs.length t3).ownBlock=some j → w.heap.size≤j:=fun j hj=>(World.ownsRow.lt r3.row j hj).1
    clear hA1 hA2 kE r3 r4 kG
    go_wp2_with (first|(at_builtin;(try rw [hW2]);refine ls_append rfl (.tmp 23) (.tmp 26) rfl _ xs rfl r32 _ g.edges[k].outs ho0 _ rfl kL1 hW2z hxl ?_;intro v5 w5 r5 g5 n5;have kE5:=Bk.grown g5 kE2 (fun e=>(own3 _ e).1 rfl);have kG5:=Bk.grown g5 kG2 (fun e=>(own3 _ e).2 rfl);have r45:=r42.grown g5 (fun j h1 h2=>hap j h2 h1);have hb5:=hb2.grown g5 hW2z low3;obtain ⟨iE,-,zE⟩:=kE5.cell;have hw5z:=hb5.size)|(at_builtin;refine ls_append rfl (.tmp 28) (.tmp 31) rfl _ ys rfl (r45.keep (alloc_below _ _)) _ g.edges[k].ins hi0 _ rfl (Bk.new _ _ _) (by simp;omega) hyl ?_;intro v6 w6 r6 g6 n6))
    have hA5:=alloc_below w5 (.cells #[.slice a1 g.edges[k].ins.length q1] 40)
    have hcr:∀ j,v5.ownBlock=some j → (Value.slice s4 ys.length t4).ownBlock ≠ some j:=fun j h1 h2=>by
     rcases n5 with e|e
     ·exact hap j (e ▸ h1) h2
     ·rw [e] at h1
      have:=Option.some.inj h1
      have:=(low4 j h2).2
      omega
    have r56:=(r5.keep hA5).grown g6 hcr
    have kG6:=Bk.grown g6 (kG5.keep hA5) (fun e=>(own4 _ e).2 rfl)
    have hb6:=(hb5.trans (hA5.mono hw5z)).grown g6 (by simp;omega) (fun j hj=>(low4 j hj).1)
    have hap6:Apart v5 v6:=fun j h1 h2=>by
     rcases n6 with e|e
     ·exact hcr j h1 (e ▸ h2)
     ·rw [e] at h2
      have h3:=Option.some.inj h2
      have h4:=(World.ownsRow.lt r5.row j h1).2
      simp only [World.size_alloc] at h3
      omega
    have hH:Hid ((xs ++ [(g.edges[k].outs,Value.slice a2 g.edges[k].outs.length q2)]).map Prod.fst=g.ins :: (g.edges.take (k+1)).map EdI.outs∧(ys ++ [(g.edges[k].ins,Value.slice a1 g.edges[k].ins.length q1)]).map Prod.fst=g.outs :: (g.edges.take (k+1)).map EdI.ins∧(xs ++ [(g.edges[k].outs,Value.slice a2 g.edges[k].outs.length q2)]).length=k+1+1∧(ys ++ [(g.edges[k].ins,Value.slice a1 g.edges[k].ins.length q1)]).length=k+1+1) :=
     ⟨by rw [List.map_append,HF.out.1,HT.out.1];rfl,by rw [List.map_append,HF.out.2.1,HT.out.2];rfl,by rw [List.length_append,HF.out.2.2.1];rfl,by rw [List.length_append,HF.out.2.2.2];rfl⟩
    refine ⟨⟨k+1,_,_,by omega,by push_cast;rfl,r56,r6,hap6,hb6,kG6,hH⟩,?_⟩
    simp [intOf];omega
   ·obtain rfl:k=g.edges.length:=by omega
    rw [List.take_length] at HF
    have l3:=r3.at hbw
    have l4:=r4.at hbw
    rw [HF.out.1] at l3
    rw [HF.out.2.1] at l4
    obtain ⟨s3,t3,rfl⟩:=l3.slice
    obtain ⟨s4,t4,rfl⟩:=l4.slice
    have f3:(g.ins :: g.edges.map EdI.outs).flatten=g.origs:=flat_cons_map _ _ _
    have f4:(g.outs :: g.edges.map EdI.ins).flatten=g.dests:=flat_cons_map _ _ _
    have h3:=occursOnce_any _ _ g.wires wr l3 (by simp;omega) (by rw [f3];have:=HL.out;omega)
    have h4:=fun (u:World) (hu:Below wr.heap.size wr u)=>occursOnce_any _ _ g.wires u (l4.keep hu) (by simp;omega) (by rw [f4];have:=HL.out;omega)
    rw [f3] at h3
    rw [f4] at h4
    have g3:(g.ins :: g.edges.map EdI.outs).length=g.edges.length+1:=by simp
    have g4:(g.outs :: g.edges.map EdI.ins).length=g.edges.length+1:=by simp
    rw [g3] at h3
    simp only [g4] at h4
    rw [g3,g4]
    clear g3 g4
    have H4:=Lib.hid h4
    clear h4 l3 l4 r3 r4 hap hat f3 f4
    obtain ⟨iG,-,zG⟩:=kG.cell
    cases hp:permB g.origs g.wires with
    | false =>
     rw [hp] at h3
     have H3:=Lib.hid h3
     have hm:monoB g=false:=by unfold monoB;rw [hp];rfl
     have HM:=Lib.hid hm
     clear h3 hp hm
     go_wp2_with fail
     refine H3.out.mono ?_
     rintro r w3 ⟨rfl,hb3⟩
     go_wp2
     go_ret
     exact ⟨by rw [HM.out];rfl,hbw.trans (hb3.mono hbw.size)⟩
    | true =>
     rw [hp] at h3
     have H3:=Lib.hid h3
     have hm:monoB g=permB g.dests g.wires:=by unfold monoB;rw [hp];rfl
     have HM:=Lib.hid hm
     clear h3 hp hm
     go_wp2_with fail
     refine H3.out.mono ?_
     rintro r w3 ⟨rfl,hb3⟩
     replace kG:=kG.keep hb3
     clear iG zG
     obtain ⟨iG,-,zG⟩:=kG.cell
     go_wp2_with fail
     refine (H4.out w3 hb3).mono ?_
     rintro r w4 ⟨rfl,hb4⟩
     go_wp2
     go_ret
     exact ⟨by rw [HM.out];rfl,(hbw.trans (hb3.mono hbw.size)).trans (hb4.mono (hbw.trans (hb3.mono hbw.size)).size)⟩
end Go.Proofs.YtbljmfcifljkaaaGreatDoor
/-
  DERIVED: THE SHELF's CONTRACTS AT THIS DUMP, IN PLAIN WORDS (tools/lay-plain.mjs out of 'TryzShelf.lean', which tools/lay-shelf.mjs wrote): THE SAME DECLARATIONS UNDER THE SAME NAMES: 'import', 'namespace', 'open', 'def', 'theorem' AND NOTHING ELSE: no command of the shelf's: FOR A HAND-IN. Each laying: the table of numbers ('.._ren') and one theorem, a field a fact of the dump's own or the kernel's comparison; each contract: ONE APPLICATION.
-/
namespace Go.Proofs
open Go.Shelf
end Go.Proofs
/-
  Copies of nodes, terms and definitions (program and reference). Own work.
-/
namespace Go.Proofs.YtbljmfcifljkaaaGreatDoor
open Go.RowKit
end Go.Proofs.YtbljmfcifljkaaaGreatDoor
/-
  A rule, plain. Own work.
-/
namespace Go.Proofs.YtbljmfcifljkaaaGreatDoor
structure Rul where
 name:ByteArray
 left:List Nd
 right:List Nd
 deriving DecidableEq
end Go.Proofs.YtbljmfcifljkaaaGreatDoor
/-
  The marks that a law writes into a result, as plain lists. No program in sight. Own work.
-/
namespace Go.Proofs.YtbljmfcifljkaaaGreatDoor
open Go.RowKit
end Go.Proofs.YtbljmfcifljkaaaGreatDoor
/-
  markText: the letter m and the digits of a number. Own work.
-/
namespace Go.Proofs.YtbljmfcifljkaaaGreatDoor
open Go.RowKit
end Go.Proofs.YtbljmfcifljkaaaGreatDoor
/-
  Own rows of definitions that grow by append. Own work.
-/
namespace Go.Proofs.YtbljmfcifljkaaaGreatDoor
open Go.RowKit
theorem owns_some' {w:World} {B e sz:Nat} {v:Value} {n:Nat} {xs:List Value} (h:w.ownsRow B e sz v n xs) (hn:0<n):∃ g cp,v=.slice (some ⟨g,0,none⟩) n cp∧n≤cp∧cp≤maxLen∧B≤g∧g<w.heap.size:=by
 have h':=h
 rcases h.2 with ⟨rfl,rfl⟩|⟨g,cap,cur,rfl,hb,hg,hc,hm,_⟩
 ·omega
 ·exact ⟨g,cap,rfl,hc,hm,hb,(World.ownsRow.lt h' g rfl).2⟩
def DfsRow (w:World) (B:Nat) (v:Value) (xs:List (Df × Value)):Prop :=
 w.ownsRow B 151 4 v xs.length (xs.flatMap dfCells)∧(∀ x ∈ xs,NdsOwn w B x.2 x.1.body)∧xs.Pairwise fun x y=>Apart x.2 y.2
theorem DfsRow.own {w:World} {B:Nat} {v:Value} {xs:List (Df × Value)} (h:DfsRow w B v xs):DfsOwn w B v (xs.map Prod.fst):=⟨xs,rfl,h⟩
theorem DfsOwn.row {w:World} {B:Nat} {v:Value} {L:List Df} (h:DfsOwn w B v L):∃ xs:List (Df × Value),xs.map Prod.fst=L∧DfsRow w B v xs:=h
theorem DfsRow.keep {w w':World} {B:Nat} {v:Value} {xs:List (Df × Value)} (hb:Below w.heap.size w w') (h:DfsRow w B v xs):DfsRow w' B v xs :=
 ⟨owns_keep hb h.1,fun x hx=>(h.2.1 x hx).keep hb,h.2.2⟩
theorem DfsRow.mono {w:World} {B B':Nat} {v:Value} {xs:List (Df × Value)} (hB:B'≤B) (h:DfsRow w B v xs):DfsRow w B' v xs:=⟨owns_mono hB h.1,fun x hx=>(h.2.1 x hx).mono hB,h.2.2⟩
theorem DfsRow.at {w:World} {B:Nat} {v:Value} {xs:List (Df × Value)} (h:DfsRow w B v xs):DfsAt w v (xs.map Prod.fst):=h.own.at
theorem nds_grown {w w':World} {B:Nat} {v:Value} {ns:List Nd} {row:Option Nat} (h:NdsOwn w B v ns) (hg:w.grownBy w' row) (hne:∀ k,v.ownBlock=some k → row ≠ some k):NdsOwn w' B v ns:=by
 refine World.ownsRow.kept h hg ?_
 cases hv:v.ownBlock with
 | none=>exact .inl rfl
 | some k=>exact .inr (fun e=>hne k hv e.symm)
end Go.Proofs.YtbljmfcifljkaaaGreatDoor
/-
  Worlds that differ in some blocks only. Own work.
-/
namespace Go.Proofs.YtbljmfcifljkaaaGreatDoor
open Go.RowKit
theorem Exc.trans {T:Nat → Prop} {w0 w1 w2:World} (h:Exc T w0 w1) (h':Exc T w1 w2):Exc T w0 w2 :=
 ⟨h'.os.trans h.os,h'.tape.trans h.tape,h'.output.trans h.output,Nat.le_trans h.size h'.size,fun k hk ht=>(h'.block k (Nat.lt_of_lt_of_le hk h.size) ht).trans (h.block k hk ht)⟩
theorem Exc.mono {T T':Nat → Prop} {w0 w1:World} (h:Exc T w0 w1) (ht:∀ k,T k → T' k):Exc T' w0 w1 :=
 ⟨h.os,h.tape,h.output,h.size,fun k hk hn=>h.block k hk (fun h'=>hn (ht k h'))⟩
theorem owns_exc {T:Nat → Prop} {w w':World} {B e sz:Nat} {v:Value} {n:Nat} {xs:List Value} (hE:Exc T w w') (h:w.ownsRow B e sz v n xs) (hT:∀ k,v.ownBlock=some k → ¬ T k):w'.ownsRow B e sz v n xs:=by
 refine ⟨h.1,?_⟩
 rcases h.2 with hn|⟨g,cap,cur,rfl,hbb,hgg,rest⟩
 ·exact .inl hn
 ·exact .inr ⟨g,cap,cur,rfl,hbb,(hE.block g (Array.getElem?_eq_some_iff.1 hgg).1 (hT g rfl)).trans hgg,rest⟩
def Own1 (v:Value):Nat → Prop:=fun k=>v.ownBlock=some k
end Go.Proofs.YtbljmfcifljkaaaGreatDoor
/-
  The marks: written into what a law holds, and read again. Own work.
-/
namespace Go.Proofs.YtbljmfcifljkaaaGreatDoor
open Go.RowKit
end Go.Proofs.YtbljmfcifljkaaaGreatDoor
/-
  The marks of terms, definitions, entries and libraries. Own work.
-/
namespace Go.Proofs.YtbljmfcifljkaaaGreatDoor
open Go.RowKit
end Go.Proofs.YtbljmfcifljkaaaGreatDoor
/-
  The marks are read again. Own work.
-/
namespace Go.Proofs.YtbljmfcifljkaaaGreatDoor
open Go.RowKit
end Go.Proofs.YtbljmfcifljkaaaGreatDoor
/-
  Rules in rows: what a world holds, the marks that a law writes into them and reads again. Own work.
-/
namespace Go.Proofs.YtbljmfcifljkaaaGreatDoor
open Go.RowKit
abbrev RuV:=Rul × Value × Value
def ruCells (x:RuV):List Value:=[.string x.1.name,x.2.1,x.2.2]
theorem ruCells_len (x:RuV):(ruCells x).length=3:=rfl
def RuAt (w:World) (d:Rul) (b o:Nat):Prop :=
 w.cell? ⟨b,o,none⟩=some (.string d.name)∧(∃ v,w.cell? ⟨b,o+1,none⟩=some v∧NdsAt w v d.left)∧∃ v,w.cell? ⟨b,o+2,none⟩=some v∧NdsAt w v d.right
def RusAt (w:World) (v:Value) (L:List Rul):Prop:=SlAt 3 v L.length fun i b o=>∃ h:i<L.length,RuAt w L[i] b o
def RuSep (x y:RuV):Prop:=Apart x.2.1 y.2.1∧Apart x.2.1 y.2.2∧Apart x.2.2 y.2.1∧Apart x.2.2 y.2.2
def RuRow (w:World) (B:Nat) (v:Value) (xs:List RuV):Prop :=
 w.ownsRow B 32 3 v xs.length (xs.flatMap ruCells)∧(∀ x ∈ xs,NdsOwn w B x.2.1 x.1.left∧NdsOwn w B x.2.2 x.1.right∧Apart x.2.1 x.2.2)∧xs.Pairwise RuSep
theorem RuAt.keep {w w':World} (hb:Below w.heap.size w w') {d:Rul} {b o:Nat} (h:RuAt w d b o):RuAt w' d b o:=by
 obtain ⟨h1,⟨v,h2,h3⟩,u,h4,h5⟩:=h
 exact ⟨cell_keep hb h1,⟨v,cell_keep hb h2,h3.keep hb⟩,u,cell_keep hb h4,h5.keep hb⟩
theorem RusAt.keep {w w':World} (hb:Below w.heap.size w w') {v:Value} {L:List Rul} (h:RusAt w v L):RusAt w' v L :=
 SlAt.mono h fun _ _ _ ⟨hi,r⟩=>⟨hi,r.keep hb⟩
theorem RuRow.at {w:World} {B:Nat} {v:Value} {xs:List RuV} (h:RuRow w B v xs):RusAt w v (xs.map Prod.fst):=by
 obtain ⟨ho,hb,_⟩:=h
 have ho':w.ownsRow B 32 3 v (xs.map Prod.fst).length (xs.flatMap ruCells):=by rw [List.length_map];exact ho
 refine owns_slat ho' _ fun i b o hi' hc=>⟨hi',?_⟩
 have hi:i<xs.length:=by simpa using hi'
 have g:∀ j,j<3 → w.cell? ⟨b,o+j,none⟩=(ruCells xs[i])[j]?:=fun j hj=>(hc j hj).trans (flat_get ruCells_len xs i j hi hj)
 rw [List.getElem_map]
 have hx:=hb _ (List.getElem_mem hi)
 exact ⟨g 0 (by omega),⟨xs[i].2.1,g 1 (by omega),hx.1.at⟩,xs[i].2.2,g 2 (by omega),hx.2.1.at⟩
theorem RuRow.keep {w w':World} {B:Nat} {v:Value} {xs:List RuV} (hb:Below w.heap.size w w') (h:RuRow w B v xs):RuRow w' B v xs :=
 ⟨owns_keep hb h.1,fun x hx=>⟨(h.2.1 x hx).1.keep hb,(h.2.1 x hx).2.1.keep hb,(h.2.1 x hx).2.2⟩,h.2.2⟩
theorem RuRow.mono {w:World} {B B':Nat} {v:Value} {xs:List RuV} (hB:B'≤B) (h:RuRow w B v xs):RuRow w B' v xs :=
 ⟨owns_mono hB h.1,fun x hx=>⟨(h.2.1 x hx).1.mono hB,(h.2.1 x hx).2.1.mono hB,(h.2.1 x hx).2.2⟩,h.2.2⟩
end Go.Proofs.YtbljmfcifljkaaaGreatDoor
/-
  The reference's small terms: one leaf, joins, chains, rules. Own work; printed by wip/parTmC.py.
-/
namespace Go.Proofs.YtbljmfcifljkaaaGreatDoor
open Go.RowKit
def TmsAt (w:World) (g:Nat) (L:List (Value × List Nd)):Prop:=∀ j,∀ h:j<L.length,w.cell? ⟨g,j,none⟩=some (L[j]'h).1∧NdsAt w (L[j]'h).1 (L[j]'h).2
theorem TmsAt.keep {w w':World} {g:Nat} {L:List (Value × List Nd)} (h:TmsAt w g L) (hb:Below w.heap.size w w'):TmsAt w' g L:=fun j hj=>⟨cell_keep hb (h j hj).1,(h j hj).2.keep hb⟩
end Go.Proofs.YtbljmfcifljkaaaGreatDoor
/-
  Tokens and parsing without a program in sight. Own work.
-/
namespace Go.Proofs.YtbljmfcifljkaaaGreatDoor
open Go.RowKit
structure Tk where
 kind:Int
 text:ByteArray
 pos:Int
 deriving DecidableEq
abbrev Rd:=List (Nd × Int)
def numV (s:ByteArray):Int:=s.data.toList.foldl (fun n b=>10 * n+((b.toNat:Int) - 48)) 0
end Go.Proofs.YtbljmfcifljkaaaGreatDoor
/-
  The walk of typed: the type of nodes, by a stack of types. Own work.
-/
namespace Go.Proofs.YtbljmfcifljkaaaGreatDoor
open Go.RowKit
def wCells (x:W2):List Value:=[.int .i64 x.1,.int .i64 x.2]
def leafT (L:List Df) (n:Nd):Option W2:=if (typRes L n).2 then some (typRes L n).1 else none
def Stk (wr:World) (B:Nat) (v:Value) (st:List W2):Prop:=wr.ownsRow B 169 2 v st.length (st.flatMap wCells)∧∀ x ∈ st,Sm x
def resW (w:World):World:=w.alloc (.cells #[.int .i64 0,.int .i64 0] 169)
def TypSt (L:List Df) (ns:List Nd) (w wr:World) (v:Value) (k:Nat) (st:List W2):Prop :=
 Stk wr (w.heap.size+1) v st∧Hid (typedGo (leafT L) ns []=typedGo (leafT L) (ns.drop k) st.reverse)∧Below (w.heap.size+1) (resW w) wr∧st.length≤k∧(k=0∨st ≠ [])
theorem TypSt.facts {L:List Df} {ns:List Nd} {w wr:World} {v:Value} {k:Nat} {st:List W2} (h:TypSt L ns w wr v k st) :
  wr.cell? ⟨w.heap.size,0,none⟩=some (.int .i64 0)∧wr.cell? ⟨w.heap.size,1,none⟩=some (.int .i64 0)∧wr.frozen? ⟨w.heap.size,0,none⟩=false∧wr.frozen? ⟨w.heap.size,1,none⟩=false∧w.heap.size<wr.heap.size∧Below w.heap.size w wr:=by
 obtain ⟨_,_,hb,_⟩:=h
 have hsz:=hb.size
 have h0:(resW w).heap.size=w.heap.size+1:=by simp [resW]
 refine ⟨?_,?_,?_,?_,by omega,((Below.refl _ _).alloc (Nat.le_refl _) _).trans (hb.mono (by omega))⟩
 ·rw [hb.cell (p:=⟨w.heap.size,0,none⟩) (by simp)];simp [resW]
 ·rw [hb.cell (p:=⟨w.heap.size,1,none⟩) (by simp)];simp [resW]
 ·rw [hb.frozen (p:=⟨w.heap.size,0,none⟩) (by simp)];simp [resW]
 ·rw [hb.frozen (p:=⟨w.heap.size,1,none⟩) (by simp)];simp [resW]
end Go.Proofs.YtbljmfcifljkaaaGreatDoor
