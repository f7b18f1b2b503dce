/-
  strings.Replacer: the table of texts is made. Own work.
-/
import Derived.Test.YtbljmfcifljkaaaGreatDoorUSY
import Derived.Lib.AppendIntMem
import Derived.Lib.ConvBytes
import Derived.Test.YtbljmfcifljkaaaGreatDoorUT
import Derived.Laws.CopyRow
import Derived.Test.YtbljmfcifljkaaaGreatDoorURQ
set_option linter.all false
set_option maxRecDepth 100000
set_option maxHeartbeats 8000000
namespace Go.Proofs.YtbljmfcifljkaaaGreatDoor
open Go.RowKit
set_option maxRecDepth 100000
set_option maxHeartbeats 4000000
def nilS (u:Value) (j:Nat):Value:=if j=256 then u else .slice none 0 0
theorem zero345:(Tryz.zeroCells345).toList=(tabV 257 (nilS (.slice none 0 0))).toList:=by kernel_rfl
theorem zero345s:Tryz.zeroCells345=tabV 257 (nilS (.slice none 0 0)):=Array.toList_inj.1 zero345
theorem store345 (w1:World) (u:Value) (hu:u.oneCell'=true):Sem.run Tryz.prog (storeCells ⟨w1.heap.size,0,none⟩ ((Tryz.zeroCells345).toList.set 256 u)) (w1.alloc (.cells Tryz.zeroCells345 345)) =
  .ok () (w1.alloc (.cells (tabV 257 (nilS u)) 345)):=by
 have e:(Tryz.zeroCells345).toList.set 256 u=(tabV 257 (nilS u)).toList:=by
  rw [zero345]
  apply List.ext_getElem?
  intro i
  rw [List.getElem?_set]
  by_cases hi:i<257
  ·have h1:=tabV_get 257 (nilS u) i hi
   have h2:=tabV_get 257 (nilS (.slice none 0 0)) i hi
   rw [← Array.getElem?_toList] at h1 h2
   rw [h1]
   by_cases e:256=i
   ·subst e
    rw [if_pos rfl,if_pos (by simp [tabV_size])]
    rfl
   ·rw [if_neg e,h2]
    unfold nilS
    rw [if_neg (Ne.symm e),if_neg (Ne.symm e)]
  ·rw [if_neg (by omega),List.getElem?_eq_none (by simp [tabV_size];omega),List.getElem?_eq_none (by simp [tabV_size];omega)]
 rw [e]
 refine run_storeCells_new (P:=Tryz.prog) w1 345 _ _ (by rw [tabV_size];kernel_rfl) (by rw [zero345s,tabV_size,tabV_size]) ?_
 rw [Array.all_eq_true]
 intro i hi
 have hi':i<257:=by simpa [tabV_size] using hi
 have:=tabV_get 257 (nilS u) i hi'
 rw [Array.getElem?_eq_getElem hi] at this
 rw [Option.some.inj this]
 unfold nilS
 split
 ·exact hu
 ·rfl
theorem owns_blk {w w':World} {B e sz:Nat} {v:Value} {n:Nat} {xs:List Value} (h:w.ownsRow B e sz v n xs) (hb:∀ k,v.ownBlock=some k → w'.heap[k]?=w.heap[k]?):w'.ownsRow B e sz v n xs:=by
 refine ⟨h.1,?_⟩
 rcases h.2 with h0|⟨g,cap,cur,rfl,h1,h2,h3⟩
 ·exact .inl h0
 ·exact .inr ⟨g,cap,cur,rfl,h1,(hb g rfl).trans h2,h3⟩
def lxL (xs:List ByteArray):List (UInt8 × ByteArray):=(repK.map UInt8.ofNat).zip xs
def dN:List (UInt8 × ByteArray) → UInt8 → Option ByteArray
 | [],_=>none
 | (q,x) :: r,c=>if c=q then some x else dN r c
theorem lx_drop (xs:List ByteArray) (h:xs.length=5) (k:Nat) (hk:k<5):(lxL xs).drop k=(UInt8.ofNat (repK.getD k 0),xs[k]'(by omega)) :: (lxL xs).drop (k+1)∧dN ((lxL xs).drop (k+1)) (UInt8.ofNat (repK.getD k 0))=none:=by
 match xs,h,k,hk with
 | [a,b,c,d,e],_,0,_=>exact ⟨rfl,rfl⟩
 | [a,b,c,d,e],_,1,_=>exact ⟨rfl,rfl⟩
 | [a,b,c,d,e],_,2,_=>exact ⟨rfl,rfl⟩
 | [a,b,c,d,e],_,3,_=>exact ⟨rfl,rfl⟩
 | [a,b,c,d,e],_,4,_=>exact ⟨rfl,rfl⟩
theorem lx_len (xs:List ByteArray) (h:xs.length=5) (k:Nat):((lxL xs).drop k).length=5 - k:=by
 simp [lxL,repK,h]
def TxV (w:World) (B tb gt:Nat) (v:Value):Option ByteArray → Prop
 | none=>v=.slice none 0 0
 | some t=>∃ g cap,v=.slice (some ⟨g,0,none⟩) t.size cap∧g ≠ tb∧g ≠ gt∧(B≤g∧∃ cs fr,w.heap[g]?=some (.cells cs 5 fr))∧∀ j (h:j<t.size),w.cell? ⟨g,j,none⟩=some (.int .u8 (t[j].toNat:Int))
def StrTab (w:World) (B tb gt:Nat) (L:List (UInt8 × ByteArray)):Prop:=∃ f,TabAt w tb 345 257 f∧B≤tb∧B≤gt∧tb ≠ gt ∧
 f 256=.slice (some ⟨gt,0,none⟩) L.length 5∧w.ownsRow B 9 1 (f 256) L.length ((L.map Prod.fst).reverse.map fun c=>Value.string ⟨#[c]⟩)∧∀ c:UInt8,TxV w B tb gt (f c.toNat) (dN L c)
theorem TxV.keep {w w':World} {B tb gt:Nat} {v:Value} {o:Option ByteArray} (h:TxV w B tb gt v o) (hs:w.heap.size≤w'.heap.size) (hb:∀ k,k<w.heap.size → k ≠ tb → k ≠ gt → w'.heap[k]?=w.heap[k]?):TxV w' B tb gt v o:=by
 cases o with
 | none=>exact h
 | some t =>
  obtain ⟨g,cap,rfl,h1,h2,⟨h5,cs,fr,h3⟩,h4⟩:=h
  have hlt:=(Array.getElem?_eq_some_iff.1 h3).1
  exact ⟨g,cap,rfl,h1,h2,⟨h5,cs,fr,(hb g hlt h1 h2).trans h3⟩,fun j hj=>(World.cell?_of_block (hb g hlt h1 h2)).trans (h4 j hj)⟩
theorem u8_ne256 (c:UInt8):c.toNat ≠ 256:=by have:=c.toNat_lt;omega
theorem str_step {wr w5:World} {B tb gt:Nat} {L:List (UInt8 × ByteArray)} {q:UInt8} {x:ByteArray} {c1:Nat} {f:Nat → Value} (hT:TabAt wr tb 345 257 f) (hBt:B≤tb) (hBg:B≤gt) (hne:tb ≠ gt)
  (hx:∀ c:UInt8,TxV wr B tb gt (f c.toNat) (dN L c)) (wa:World) (ha:Below wr.heap.size wr wa) (hg:wa.grownBy w5 (some gt))
  (hown:w5.ownsRow B 9 1 (.slice (some ⟨gt,0,none⟩) (L.length+1) 5) (L.length+1) ((((q,x) :: L).map Prod.fst).reverse.map fun c=>Value.string ⟨#[c]⟩)) (w6 w7:World)
  (hw6:w6=w5.setCell ⟨tb,256,none⟩ (.slice (some ⟨gt,0,none⟩) (L.length+1) 5)) (h67:Below w6.heap.size w6 w7) (gb:Nat) (hgb:w6.heap.size≤gb) (hgb2:gb<w7.heap.size) (hgty:∃ cs fr,w7.heap[gb]?=some (.cells cs 5 fr)) (hbyte:∀ j (h:j<x.size),w7.cell? ⟨gb,j,none⟩=some (.int .u8 (x[j].toNat:Int))) :
  StrTab (w7.setCell ⟨tb,q.toNat,none⟩ (.slice (some ⟨gb,0,none⟩) x.size c1)) B tb gt ((q,x) :: L):=by
 have tlt:=hT.lt
 have hgl:=(hown.lt gt rfl).2
 have s1:=ha.size
 have s2:=hg.size
 have s6:w6.heap.size=w5.heap.size:=by rw [hw6,setCell_size]
 have s7:=h67.size
 have T5:TabAt w5 tb 345 257 f:=by
  unfold TabAt
  rw [hg.block tb (by omega) (by simpa using hne)]
  exact hT.keep ha
 have T6:TabAt w6 tb 345 257 (fun i=>if i=256 then .slice (some ⟨gt,0,none⟩) (L.length+1) 5 else f i):=by rw [hw6];exact T5.set 256 (by omega) _
 have T7:=(T6.keep h67).set q.toNat (by have:=q.toNat_lt;omega) (.slice (some ⟨gb,0,none⟩) x.size c1)
 refine ⟨_,T7,hBt,hBg,hne,?_,?_,fun c=>?_⟩
 ·rw [if_neg (fun e=>u8_ne256 q e.symm),if_pos rfl]
  simp
 ·rw [if_neg (fun e=>u8_ne256 q e.symm),if_pos rfl]
  have h6:w6.ownsRow B 9 1 (.slice (some ⟨gt,0,none⟩) (L.length+1) 5) (L.length+1) ((((q,x) :: L).map Prod.fst).reverse.map fun c=>Value.string ⟨#[c]⟩):=by
   rw [hw6]
   exact owns_blk hown (fun k hk=>by simp [Value.ownBlock] at hk;subst hk;exact Below.heap_setCell _ _ _ _ hne.symm)
  exact owns_blk (owns_blk h6 (fun k hk=>by simp [Value.ownBlock] at hk;subst hk;exact h67.block _ (by omega))) (fun k hk=>by simp [Value.ownBlock] at hk;subst hk;exact Below.heap_setCell _ _ _ _ hne.symm)
 ·by_cases e:c=q
  ·subst e
   simp only [if_pos,dN]
   exact ⟨gb,c1,rfl,by omega,by omega,⟨by omega,hgty.elim fun cs h=>h.elim fun fr h=>⟨cs,fr,(Below.heap_setCell _ _ _ _ (show gb ≠ tb by omega)).trans h⟩⟩,fun j hj=>by rw [World.cell?_setCell_other _ ⟨tb,c.toNat,none⟩ ⟨gb,j,none⟩ _ (by simp only [ne_eq,Addr.mk.injEq,not_and];omega)];exact hbyte j hj⟩
  ·have e2:¬ c.toNat=q.toNat:=fun h=>e (UInt8.toNat_inj.1 h)
   rw [if_neg e2,if_neg (u8_ne256 c)]
   show TxV _ B tb gt _ (if c=q then some x else dN L c)
   rw [if_neg e]
   refine (hx c).keep (by rw [setCell_size];omega) fun k hk h1 h2=>?_
   rw [Below.heap_setCell _ _ _ _ h1,h67.block k (by omega),hw6,Below.heap_setCell _ _ _ _ h1,hg.block k (by omega) (by simpa using h2),ha.block k hk]
theorem build_str (b:Nat) (v:Value) (x0 x1 x2 x3 x4:ByteArray) (w:World) (h4:w.cell? ⟨b,4,none⟩=some v) (hv:OnAt w v [x0,x1,x2,x3,x4])
  (hne:∃ k,∃ h:k<5,¬ ([x0,x1,x2,x3,x4][k]'h).size=1) (hsz:∀ x ∈ [x0,x1,x2,x3,x4],x.size≤2) :
  Calls Tryz.prog 227 #[.pointer (some ⟨b,0,none⟩)] w fun e w'=>∃ tb gt,e=.returned (.iface 346 (.pointer (some ⟨tb,0,none⟩)))∧StrTab w' w.heap.size tb gt (lxL [x0,x1,x2,x3,x4])∧Below w.heap.size w w':=by
 obtain ⟨hl,g,o,c,rfl,hc,hat⟩:=hv
 have hz:=cell_lt h4
 obtain ⟨in0,hi,hz0,hz1,hz2⟩:=info_parts infoStr2
 go_enter Tryz.func227,Tryz.ntmps227
 go_wp2_with fail
 go_loopw [4,5] (fun av iv wr=>∃ (k:Nat) (bv:Bool),k≤5∧av=.bool bv∧iv=.int .i64 (2 * (k:Int))∧wr=w∧(bv=true → ∀ j,∀ h:j<5,j<k → ([x0,x1,x2,x3,x4][j]'h).size=1)) (fun _ iv _=>10 - (intOf iv).toNat)
 case atStart=>exact ⟨0,true,by omega,rfl,rfl,by first|rfl|trivial,fun _ j h a=>by omega⟩
 case round =>
  obtain ⟨k,bv,hk,rfl,rfl,hw0,hall⟩:=hrel
  obtain rfl:w=wr:=hw0.symm
  by_cases hk5:k<5
  ·obtain ⟨c0,c1⟩:=hat k hk5
   have hs2:=hsz _ (List.getElem_mem (show k < [x0,x1,x2,x3,x4].length by omega))
   have HA:=Lib.hid hall
   obtain ⟨x,hx⟩:∃ x,[x0,x1,x2,x3,x4][k]'hk5=x:=⟨_,rfl⟩
   have hx':[x0,x1,x2,x3,x4][k]'(show k < [x0,x1,x2,x3,x4].length by omega)=x:=hx
   rw [hx] at c1
   rw [hx'] at hs2
   have HX:=Lib.hid hx
   clear hx hx' hat hsz hne hall
   have gz:=cell_lt c0
   have i1:2 * (k:Int)<10:=by omega
   have i2:IntKind.i64.wrap (2 * (k:Int)+1)=2 * (k:Int)+1:=IntWalk.i64_in _ (by omega)
   have i3:IntKind.i64.wrap (2 * (k:Int)+2)=2 * (k:Int)+2:=IntWalk.i64_in _ (by omega)
   by_cases hx1:x.size=1
   ·have j1:((x.size:Int) != 1)=false:=by simp [hx1]
    have HX1:=Lib.hid hx1
    clear hx1
    go_wp2
    go_roundw
    case rel=>exact ⟨k+1,bv,by omega,rfl,by go_num,by first|rfl|trivial,fun hb j h a=>by
     rcases Nat.lt_or_ge j k with h2|h2
     ·exact HA.out hb j h h2
     ·obtain rfl:j=k:=by omega
      rw [HX.out];exact HX1.out⟩
    case measure=>simp [intOf];omega
   ·have j1:((x.size:Int) != 1)=true:=by simp;omega
    clear hx1
    go_wp2
    go_roundw
    case rel=>exact ⟨k+1,false,by omega,rfl,by go_num,by first|rfl|trivial,fun hb=>by cases hb⟩
    case measure=>simp [intOf];omega
  ·have i1:¬ 2 * (k:Int)<10:=by omega
   obtain rfl:bv=false:=by
    cases bv
    ·rfl
    ·obtain ⟨j,hj,hn⟩:=hne
     exact absurd (hall rfl j hj (by omega)) hn
   clear hall hne
   have hst:=fun w1=>store345 w1 (.slice (some ⟨w.heap.size,0,none⟩) 0 5) rfl
   go_wp2_with (at_make;refine wpList_make_own _ rfl _ _ _ rfl w.heap.size 9 in0 _ 1 Tryz.underlying176 hi hz0 hz1 _ _ _ 5 rfl rfl rfl (by rw [hz2];omega) (by unfold maxLen;omega) (Nat.le_refl _) ?_;intro w1 hown hgr)
   clear hst
   have hB1:Below w.heap.size w w1:=(Below.refl _ _).grown hgr (Nat.le_refl _) (by simp)
   have hlt:w.heap.size<w1.heap.size:=(hown.lt w.heap.size rfl).2
   have HAT:=Lib.hid hat
   have HSZ:=Lib.hid hsz
   clear hat hsz
   have hT0:StrTab (w1.alloc (.cells (tabV 257 (nilS (.slice (some ⟨w.heap.size,0,none⟩) 0 5))) 345)) w.heap.size w1.heap.size w.heap.size ((lxL [x0,x1,x2,x3,x4]).drop 5):=by
    refine ⟨nilS (.slice (some ⟨w.heap.size,0,none⟩) 0 5),?_,by omega,Nat.le_refl _,by omega,rfl,owns_keep (alloc_below _ _) hown,fun c=>?_⟩
    ·unfold TabAt
     rw [heap_alloc_last]
    ·show nilS _ c.toNat=_
     unfold nilS
     rw [if_neg (u8_ne256 c)]
   have hBa:=hB1.alloc hB1.size (.cells (tabV 257 (nilS (.slice (some ⟨w.heap.size,0,none⟩) 0 5))) 345)
   clear hown hgr
   go_wp2_with fail
   generalize hW:w1.alloc (.cells (tabV 257 (nilS (.slice (some ⟨w.heap.size,0,none⟩) 0 5))) 345)=W at *
   generalize htb:w1.heap.size=tb at *
   clear hW htb hB1
   go_loopw [12] (fun iv wr=>∃ k:Nat,k≤5∧iv=.int .i64 (2 * (k:Int) - 2)∧StrTab wr w.heap.size tb w.heap.size ((lxL [x0,x1,x2,x3,x4]).drop k)∧Below w.heap.size w wr) (fun iv _=>(intOf iv+2).toNat)
   case atStart=>exact ⟨5,by omega,rfl,hT0,hBa⟩
   case round =>
    obtain ⟨k,hk,rfl,hst,hB⟩:=hrel
    by_cases hk0:k=0
    ·subst hk0
     have i5:¬ (0:Int)≤2 * ((0:Nat):Int) - 2:=by omega
     go_wp2
     go_ret
     exact ⟨tb,rfl,⟨w.heap.size,hst⟩,hB⟩
    ·obtain ⟨k,rfl⟩:∃ j,k=j+1:=⟨k - 1,by omega⟩
     obtain ⟨c0,c1⟩:=HAT.out k (by omega)
     have hs2:=HSZ.out _ (List.getElem_mem (show k < [x0,x1,x2,x3,x4].length by simp;omega))
     obtain ⟨hdr,hno⟩:=lx_drop [x0,x1,x2,x3,x4] rfl k (by omega)
     have hdl:=lx_len [x0,x1,x2,x3,x4] rfl (k+1)
     obtain ⟨x,hx⟩:∃ x,[x0,x1,x2,x3,x4][k]'(by simp;omega)=x:=⟨_,rfl⟩
     obtain ⟨q,hq⟩:∃ q,UInt8.ofNat (repK.getD k 0)=q:=⟨_,rfl⟩
     obtain ⟨L,hL⟩:∃ L,(lxL [x0,x1,x2,x3,x4]).drop (k+1)=L:=⟨_,rfl⟩
     rw [hx] at c1 hs2 hdr
     rw [hq] at c0 hdr hno
     rw [hL] at hdr hno hst hdl
     have HDR:=Lib.hid hdr
     clear hx hq hL hdr
     obtain ⟨f,hT,hb1,hb2,hne2,hf,hown,hx⟩:=hst
     have hfq:=hx q
     rw [hno] at hfq
     have hfq:f q.toNat=.slice none 0 0:=hfq
     have t0:=hT.cell q.toNat (by have:=q.toNat_lt;omega)
     have t1:=hT.cell 256 (by omega)
     rw [hfq] at t0
     rw [hf] at t1 hown
     have tf:=fun j=>hT.froz j
     have tz:=hT.lt
     have u0:=cell_keep hB c0
     have u1:=cell_keep hB c1
     have gz:=cell_lt u0
     have HX:=Lib.hid hx
     have HF:=Lib.hid (And.intro hfq hf)
     have e0:q.toNat ≠ 256:=u8_ne256 q
     have e1:q.toNat<256:=q.toNat_lt
     have HDL:=Lib.hid hdl
     clear hx hno hfq hf c0 c1 hdl
     have i5:(0:Int)≤2 * ((k+1:Nat):Int) - 2:=by omega
     have i6:2 * ((k+1:Nat):Int) - 2=2 * (k:Int):=by omega
     rw [i6] at i5 ⊢
     clear i6
     have i1:2 * (k:Int)<10:=by omega
     have i2:IntKind.i64.wrap (2 * (k:Int)+1)=2 * (k:Int)+1:=IntWalk.i64_in _ (by omega)
     have i3:IntKind.i64.wrap (2 * (k:Int) - 2)=2 * (k:Int) - 2:=IntWalk.i64_in _ (by omega)
     have hcl:∀ j (hj:j < [q].length),(wr.alloc (.cells #[.int .u8 (q.toNat:Int)] 5)).cell? ⟨wr.heap.size,j,none⟩=some (.int .u8 ([q][j].toNat:Int)):=fun j hj=>by
      obtain rfl:j=0:=by simpa using hj
      simp [go_sem]
     have hcv:=conv_bytes (wr.alloc (.cells #[.int .u8 (q.toNat:Int)] 5)) wr.heap.size 1 [q] 1 rfl hcl
     clear hcl
     have hq0:∀ h,((⟨#[q]⟩:ByteArray)[0]'h).toNat=q.toNat:=fun _=>rfl
     have hnn:Sem.run Tryz.prog (binOp BinOp.eql 142 (.slice none 0 0) (.slice none 0 0)) wr=.ok (.bool true) wr:=by kernel_rfl
     have ha2:Below wr.heap.size wr ((wr.alloc (.cells #[.int .u8 (q.toNat:Int)] 5)).alloc (.cells #[.string ⟨#[q]⟩] 9)):=(alloc_below _ _).alloc (by simp) _
     have hl5:L.length+1≤5:=by have:=HDL.out;omega
     go_wp2_with (at_builtin;refine wpList_append_fits _ rfl _ _ 176 rfl w.heap.size 9 in0 1 Tryz.underlying176 hi hz1 w.heap.size L.length 5 _ rfl (owns_keep ha2 hown) ⟨wr.heap.size+1,0,none⟩ 1 1 [.string ⟨#[q]⟩] rfl rfl ?c1 ?c2 hl5 ?_)
     case c1=>intro j u hj;match j,hj with|0,hj=>simp at hj;subst hj;simp [Addr.add]
     case c2=>intro u hu;simp at hu;subst hu;rfl
     intro w5 hown5 hg5
     have s5:=hg5.size
     simp only [World.size_alloc] at s5
     have T5:TabAt w5 tb 345 257 f:=by
      unfold TabAt
      rw [hg5.block tb (by simp;omega) (by simpa using hne2)]
      exact hT.keep ha2
     have r0:=T5.cell 256 (by omega)
     have rf:=fun j=>T5.froz j
     have rz:=T5.lt
     obtain ⟨w6,hw6⟩:∃ w6,w6=w5.setCell ⟨tb,256,none⟩ (.slice (some ⟨w.heap.size,0,none⟩) (L.length+1) 5):=⟨_,rfl⟩
     have T6:TabAt w6 tb 345 257 (fun i=>if i=256 then .slice (some ⟨w.heap.size,0,none⟩) (L.length+1) 5 else f i):=by rw [hw6];exact T5.set 256 (by omega) _
     have s6:w6.heap.size=w5.heap.size:=by rw [hw6,setCell_size]
     have hcv2:=Lib.run_convert_string_bytes (P:=Tryz.prog) w6 9 142 5 x (u:=.string) Tryz.underlying9 Tryz.underlying142 Tryz.underlying5
     have hB7:Below w6.heap.size w6 (Lib.bytesWorld w6 5 x):=by
      refine ⟨rfl,rfl,rfl,by rw [Lib.bytesWorld_size];omega,fun j hj=>Lib.bytesWorld_at_old _ _ _ j hj⟩
     have hz7:=Lib.bytesWorld_size w6 5 x
     have hc7:=Lib.bytesWorld_cell w6 5 x
     have hn7:∃ cs fr,(Lib.bytesWorld w6 5 x).heap[w6.heap.size]?=some (.cells cs 5 fr):=⟨_,_,Lib.bytesWorld_at_new w6 5 x⟩
     obtain ⟨w7,hw7⟩:∃ W,W=Lib.bytesWorld w6 5 x:=⟨_,rfl⟩
     rw [← hw7] at hcv2 hB7 hz7 hc7 hn7
     clear hw7
     obtain ⟨gc,hgc⟩:∃ gc,gc=grownCap w6 x.size 0 5:=⟨_,rfl⟩
     rw [← hgc] at hcv2
     clear hgc
     have hby:∀ j (h:j<x.size),w7.cell? ⟨w6.heap.size,j,none⟩=some (.int .u8 (x[j].toNat:Int)):=fun j h=>by
      have h2:=hc7 j h
      have h3:x.data.toList.getD j 0=x[j]:=by rw [List.getD_eq_getElem?_getD,List.getElem?_eq_getElem (by simpa using h)];rfl
      rw [h3] at h2
      exact h2
     have hfin:=str_step (c1:=gc) hT hb1 hb2 hne2 HX.out _ ha2 hg5 (by simpa using hown5) w6 w7 hw6 hB7 w6.heap.size (Nat.le_refl _) (by omega) hn7 hby
     have hbel:Below w.heap.size w w5:=((hB.trans (ha2.mono hB.size))).grown hg5 (by have:=hB.size;simp;omega) (fun j hj=>by simp at hj;omega)
     have hbel7:=((hbel.setCell (p:=⟨tb,256,none⟩) hb1 (.slice (some ⟨w.heap.size,0,none⟩) (L.length+1) 5)))
     rw [← hw6] at hbel7
     have hbel8:=hbel7.trans (hB7.mono (by have:=hbel7.size;omega))
     rw [← HDR.out] at hfin
     have p0:=(T6.keep hB7).cell q.toNat (by omega)
     have pf:=fun j=>(T6.keep hB7).froz j
     have pz:=(T6.keep hB7).lt
     rw [hw6] at hcv2
     clear hby hc7 hn7 hz7 hB7 T6 T5 hown5 hg5 hw6 hown hT hfq hnn hcv ha2
     go_wp2
     rw [s6] at hfin
     refine ⟨⟨k,by omega,rfl,hfin,hbel8.setCell hb1 _⟩,?_⟩
     simp only [intOf]
     omega
end Go.Proofs.YtbljmfcifljkaaaGreatDoor
/-
  strings.Replacer: bytes are replaced by texts. Own work; printed by wip/parR4.py.
-/
namespace Go.Proofs.YtbljmfcifljkaaaGreatDoor
open Go.RowKit
set_option maxRecDepth 100000
set_option maxHeartbeats 4000000
theorem dN_none:∀ (L:List (UInt8 × ByteArray)) (c:UInt8),c ∉ L.map Prod.fst → dN L c=none
 | [],_,_=>rfl
 | (q,x) :: r,c,h=>by
  simp only [List.map_cons,List.mem_cons,not_or] at h
  unfold dN
  rw [if_neg h.1]
  exact dN_none r c h.2
theorem dN_some:∀ (L:List (UInt8 × ByteArray)) (c:UInt8),c ∈ L.map Prod.fst → ∃ t,dN L c=some t
 | [],_,h=>by simp at h
 | (q,x) :: r,c,h=>by
  unfold dN
  by_cases e:c=q
  ·exact ⟨x,by rw [if_pos e]⟩
  ·rw [if_neg e]
   refine dN_some r c ?_
   simpa [e] using h
theorem StrTab.keep {w w':World} {B tb gt:Nat} {L:List (UInt8 × ByteArray)} (h:StrTab w B tb gt L) (hb:Below w.heap.size w w'):StrTab w' B tb gt L:=by
 obtain ⟨f,h1,h2,h3,h4,h5,h6,h7⟩:=h
 exact ⟨f,h1.keep hb,h2,h3,h4,h5,owns_keep hb h6,fun c=>(h7 c).keep hb.size fun k hk _ _=>hb.block k hk⟩
def u8V (c:UInt8):Value:=.int .u8 (c.toNat:Int)
def BufS (wr:World) (gb N:Nat) (pre:List UInt8):Prop:=∃ rest:List Value,wr.heap[gb]?=some (.cells (pre.map u8V ++ rest).toArray 5 (0,0))∧pre.length+rest.length=N
theorem BufS.keep {w w':World} {gb N:Nat} {pre:List UInt8} (h:BufS w gb N pre) (hb:Below w.heap.size w w'):BufS w' gb N pre:=by
 obtain ⟨rest,h1,h2⟩:=h
 exact ⟨rest,(hb.block gb (Array.getElem?_eq_some_iff.1 h1).1).trans h1,h2⟩
theorem BufS.lt {w:World} {gb N:Nat} {pre:List UInt8} (h:BufS w gb N pre):gb<w.heap.size:=by
 obtain ⟨rest,h1,h2⟩:=h
 exact (Array.getElem?_eq_some_iff.1 h1).1
theorem BufS.cell {w:World} {gb N:Nat} {pre:List UInt8} (h:BufS w gb N pre) (j:Nat) (hj:j<pre.length):w.cell? ⟨gb,j,none⟩=some (.int .u8 (pre[j].toNat:Int)):=by
 obtain ⟨rest,h1,h2⟩:=h
 rw [cell_of_row _ _ j _ _ (0,0) h1]
 simp [hj,List.getElem?_append_left,u8V]
theorem BufS.froz {w:World} {gb N:Nat} {pre:List UInt8} (h:BufS w gb N pre) (j:Nat):w.frozen? ⟨gb,j,none⟩=false:=by
 obtain ⟨rest,h1,h2⟩:=h
 exact frozen_of_row w gb j _ _ h1
theorem BufS.room {w:World} {gb N:Nat} {pre:List UInt8} (h:BufS w gb N pre) (hn:pre.length<N):∃ v,w.cell? ⟨gb,pre.length,none⟩=some v:=by
 obtain ⟨rest,h1,h2⟩:=h
 rw [cell_of_row _ _ _ _ _ (0,0) h1]
 have:pre.length<(pre.map u8V ++ rest).toArray.size:=by simp;omega
 exact ⟨_,Array.getElem?_eq_getElem this⟩
theorem BufS.put {w:World} {gb N:Nat} {pre:List UInt8} (h:BufS w gb N pre) (hn:pre.length<N) (c:UInt8):BufS (w.setCell ⟨gb,pre.length,none⟩ (.int .u8 (c.toNat:Int))) gb N (pre ++ [c]):=by
 obtain ⟨rest,h1,h2⟩:=h
 match rest,h1,h2 with
 | [],h1,h2=>simp at h2;omega
 | y :: r,h1,h2 =>
  refine ⟨r,?_,by simp at h2 ⊢;omega⟩
  unfold World.setCell
  simp only [Array.getElem?_modify,if_pos]
  rw [h1]
  simp only [Option.map_some,Option.some.injEq,Obj.cells.injEq,and_true]
  apply Array.toList_inj.1
  simp [u8V]
theorem BufS.copy {w:World} {gb N:Nat} {pre:List UInt8} (h:BufS w gb N pre) (l:List UInt8) (hn:pre.length+l.length≤N) :
  ∃ cur:Array Value,w.heap[gb]?=some (.cells cur 5 (0,0))∧pre.length+(l.map u8V).length≤cur.size ∧
   BufS (w.setRow gb (cur.toList.take pre.length ++ l.map u8V ++ cur.toList.drop (pre.length+(l.map u8V).length)).toArray) gb N (pre ++ l):=by
 obtain ⟨rest,h1,h2⟩:=h
 refine ⟨_,h1,by simp;omega,rest.drop l.length,?_,by simp;omega⟩
 rw [setRow_heap w gb _ _ _ _ h1]
 simp only [Option.some.injEq,Obj.cells.injEq,and_true]
 apply Array.toList_inj.1
 simp only [List.length_map]
 have e1:(pre.map u8V ++ rest).take pre.length=pre.map u8V:=List.take_left' (by simp)
 have e2:(pre.map u8V ++ rest).drop (pre.length+l.length)=rest.drop l.length:=by
  rw [List.drop_append]
  simp [Nat.add_sub_cancel_left]
 simp only [List.map_append]
 rw [e1,e2]
theorem exc_lo {T:Nat → Prop} {w0 w1:World} {B:Nat} (h:Exc T w0 w1) (hB:B≤w0.heap.size) (hT:∀ k,T k → B≤k):Below B w0 w1 :=
 ⟨h.os,h.tape,h.output,h.size,fun k hk=>h.block k (by omega) (fun ht=>by have:=hT k ht;omega)⟩
theorem x_copy {ops:Array Oper} {Q:Exit → Act → World → Prop} {T:Nat → Prop} {w0:World} {P:Program} {i:Nat} {l:List Nat} {bs:Nat → Prop} {a:Act} {w:World} {o:Oper} (ho:ops[i]?=some o) (hk:opKind o=.act) (hg:o.guard=none) (hC:Exc T w0 w) (d s:Operand) (dT sT:TypeId)
  (hop:o.op=Op.call { callee:=Callee.builtin Builtin.copy,args:=#[d,s],argTypes:=#[dT,sT] }) (elem:TypeId) (hu:P.underlying dT=some (.slice elem)) (hsz:(P.info? elem).map (·.size)=some 1)
  (g off dLen dCap:Nat) (hd:a.eval d=.slice (some ⟨g,off,none⟩) dLen dCap) (ad:Addr) (sLen sCap:Nat) (hs:a.eval s=.slice (some ad) sLen sCap) (cs:List Value) (hn:cs.length=Nat.min sLen dLen) (hgN:g<w0.heap.size) (hT:T g) (h1:∀ v ∈ cs,v.oneCell'=true)
  (t:TypeId) (R:World → Prop) (H:∀ w1,Exc T w0 w1 → Below w.heap.size w w1 → (∀ j v,cs[j]?=some v → w1.cell? (ad.add j)=some v)∧∃ cur,w1.heap[g]?=some (.cells cur t (0,0))∧off+cs.length≤cur.size∧R (w1.setRow g (cur.toList.take off ++ cs ++ cur.toList.drop (off+cs.length)).toArray))
  (h:∀ K:(Nat → Prop) → Act → World → Prop,(∀ bs a w,WX P ops (Exc T w0) w0.heap.size Q l bs a w → K bs a w) → ∀ w2,R w2 → Exc T w0 w2 → K bs (a.put o.dst (goInt cs.length)) w2) :
  WX P ops (Exc T w0) w0.heap.size Q (i :: l) bs a w:=by
 intro o' ho'
 rw [ho] at ho'
 obtain rfl:=Option.some.inj ho'
 unfold atX stepX
 rw [if_pos (by simp [Region.wanted,hg])]
 simp only [hk]
 intro w1 hw1
 have hC1:=hC.below hw1
 obtain ⟨ha,cur,hb,hf,hr⟩:=H w1 hC1 hw1
 have hrun:=run_copy_row (P:=P) w1 dT sT o.type elem g off dLen dCap ad sLen sCap cur t cs hu hsz hb hn ha hf h1
 generalize hw2:w1.setRow g (cur.toList.take off ++ cs ++ cur.toList.drop (off+cs.length)).toArray=w2 at *
 have hrr:(execOp a.eval o).run P w1=.ok (.value (goInt cs.length)) w2:=by
  simp [execOp,hop,resolve,invoke,builtin,hd,hs,hrun,Result.andThen]
 unfold ActAt
 rw [hrr]
 have hoth:∀ k,k ≠ g → w2.heap[k]?=w1.heap[k]?:=fun k hk=>by rw [← hw2];exact setRow_other w1 g k _ hk
 have hsz2:w2.heap.size=w1.heap.size:=by rw [← hw2];simp [World.setRow]
 have hgr:w1.grownBy w2 (some g):=⟨by rw [← hw2];rfl,by rw [← hw2];rfl,by rw [← hw2];rfl,by omega,fun k _ hk=>hoth k (fun e=>hk (by rw [e]))⟩
 have hC2:Exc T w0 w2:=hC1.grown hgr (fun k hk=>by cases hk;exact .inr hT)
 exact ⟨hC2,by omega,fun k hN _ hlt=>hoth k (by omega),bs,fun _ h=>h,fun _ h=>.inl h,h _ (fun _ _ _ h=>h) w2 hr hC2⟩
theorem infoU8:(Tryz.prog.info? 5).map (fun i=>(i.zero,i.size,i.bytes))=some (some (.int .u8 0),1,1):=by kernel_rfl
theorem u8_row {w:World} {B N:Nat} {cs:List Value} (h:w.ownsRow B 5 1 (.slice (some ⟨B,0,none⟩) N N) N cs):BufS w B N []:=by
 rcases h.2 with ⟨h0,_⟩|⟨g,cap,cur,he,hb,hg,hc,hm,hs,ht⟩
 ·cases h0
 ·simp only [Value.slice.injEq,Option.some.injEq,Addr.mk.injEq,and_true,true_and] at he
  obtain ⟨rfl,rfl⟩:=he
  exact ⟨cur.toList,by simpa using hg,by simp;omega⟩
theorem strReplace_any (B tb gt:Nat) (L:List (UInt8 × ByteArray)) (s:ByteArray) (w:World) (hT:StrTab w B tb gt L) (hL:L.length=5) (hnd:(L.map Prod.fst).Nodup) (hsz:∀ c t,dN L c=some t → 1≤t.size∧t.size≤1000) (hs:s.size≤1000) :
  Calls Tryz.prog 391 #[.pointer (some ⟨tb,0,none⟩),.string s] w fun e w'=>e=.returned (.string ⟨(outD (dN L) s.data.toList).toArray⟩)∧Below w.heap.size w w':=by
 have hsl:s.data.toList.length=s.size:=by simp
 obtain ⟨l,hl⟩:∃ l,s.data.toList=l:=⟨_,rfl⟩
 have hsa:s.data=l.toArray:=by rw [← hl]
 rw [hl] at hsl
 have hgi:∀ j (h:j<s.size) (h2:j<l.length),l[j]'h2=s[j]:=fun j h h2=>by subst hl;rfl
 rw [hl]
 obtain ⟨f,hTab,hb1,hb2,hne,hf,hown,hx⟩:=hT
 rw [hf,hL] at hown
 have t256:=hTab.cell 256 (by omega)
 rw [hf,hL] at t256
 have tz:=hTab.lt
 have gz:=(hown.lt gt rfl).2
 have hno:∀ c,c ∉ (L.map Prod.fst).reverse → dN L c=none:=fun c hc=>dN_none L c (by simpa using hc)
 have hso:∀ c,c ∈ (L.map Prod.fst).reverse → ∃ t,dN L c=some t:=fun c hc=>dN_some L c (by simpa using hc)
 have hdl:(L.map Prod.fst).reverse.length=5:=by simp [hL]
 have hdn:(L.map Prod.fst).reverse.Nodup:=by rw [List.Nodup,List.pairwise_reverse];exact hnd.imp Ne.symm
 obtain ⟨ds,hds⟩:∃ ds,(L.map Prod.fst).reverse=ds:=⟨_,rfl⟩
 rw [hds] at hno hso hdl hdn hown
 obtain ⟨d,hd⟩:∃ d,dN L=d:=⟨_,rfl⟩
 rw [hd] at hno hso hx hsz ⊢
 have hbd:=dsz_bnd d hsz
 have hN1:=outD_len d l
 have hN2:=dsum_bnd d hbd l
 obtain ⟨N,hN⟩:∃ N,(outD d l).length=N:=⟨_,rfl⟩
 rw [hN,hsl] at hN1
 rw [hsl] at hN2
 have hNb:N≤1000000:=by omega
 have hcell:∀ k (h:k<ds.length),w.cell? ⟨gt,k,none⟩=some (.string ⟨#[ds[k]]⟩):=fun k h=>by
  rw [hown.cellAt k (by omega)]
  simp [h]
 have hca:=cnt_all d ds hdn hno l
 have hcz:=cnt_zero d ds hno l
 have hcb:=fun k=>cntS_bnd d hbd l (by omega) (ds.take k)
 have H:=Lib.hid (And.intro hx (And.intro hsz (And.intro hcell (And.intro hca (And.intro hcz (And.intro hso (And.intro hcb (And.intro hbd (And.intro hN1 (And.intro hgi (And.intro hN hsl)))))))))))
 have HD:=Lib.hid hdl
 have HSA:=Lib.hid hsa
 have HLL:=Lib.hid hl
 obtain ⟨inU,hiU,hzU0,hzU1,hzU2⟩:=info_parts infoU8
 have HU:=Lib.hid hzU2
 clear hx hsz hcell hca hcz hso hcb hN1 hgi hN hdl hnd hdn hL hf hown hds hd hno hsl hN2 hsa hl hbd hzU2
 by_cases h40:40≤s.size
 ·have g40:(40:Int)≤(s.size:Int):=by omega
  go_enter Tryz.func391,Tryz.ntmps391
  go_wp2_with fail
  go_loopw [5,6,32] (fun nv bv iv wr=>∃ (k:Nat) (b:Bool) (X:Int),k≤5∧iv=.int .i64 (k:Int)∧nv=.int .i64 X∧Hid (X=(s.size:Int)+cntS d l (ds.take k))∧bv=.bool b∧Hid (b=false → ∀ c ∈ ds.take k,l.count c=0)∧Below w.heap.size w wr) (fun _ _ iv _=>5 - (intOf iv).toNat)
  case atStart=>exact ⟨0,false,(s.size:Int),by omega,rfl,rfl,(show _=_ by simp [cntS]),rfl,(fun _ c hc=>by simp at hc),Below.refl _ _⟩
  case round =>
   obtain ⟨k,b,X,hk,rfl,rfl,HX,rfl,HZ,hB⟩:=hrel
   by_cases hk5:k<5
   ·have i1:(k:Int)<5:=by omega
    have i2:IntKind.i64.wrap ((k:Int)+1)=(k:Int)+1:=IntWalk.i64_in _ (by omega)
    have hkl:k<ds.length:=by have:=HD.out;omega
    have c0:=cell_keep hB (H.out.2.2.1 k hkl)
    have gz2:=cell_lt c0
    have hts:ds.take (k+1)=ds.take k ++ [ds[k]]:=take_snoc ds k hkl
    have hcn:Hid (∀ b',(b'=false → b=false∧l.count ds[k]=0) → (b'=false → ∀ c ∈ ds.take (k+1),l.count c=0)):=fun b' h1 h2 c hc=>by
     rw [hts] at hc
     rcases List.mem_append.1 hc with h3|h3
     ·exact HZ.out (h1 h2).1 c h3
     ·simp at h3;subst h3;exact (h1 h2).2
    have hcs:=cntS_snoc d l ds[k] (ds.take k)
    rw [← hts] at hcs
    have hb1':=H.out.2.2.2.2.2.2.1 k
    have hb2':=H.out.2.2.2.2.2.2.1 (k+1)
    obtain ⟨t,hdt⟩:=H.out.2.2.2.2.2.1 ds[k] (List.getElem_mem hkl)
    have htx:=H.out.1 ds[k]
    rw [hdt] at htx
    have htz:=H.out.2.1 _ _ hdt
    have hdz:dsz d ds[k]=(t.size:Int) - 1:=by unfold dsz;rw [hdt]
    rw [hdz] at hcs
    obtain ⟨c,hc⟩:∃ c,ds[k]=c:=⟨_,rfl⟩
    rw [hc] at c0 hcs htx hcn
    have htl:(ds.take k).length≤5:=by simp;omega
    have htl2:(ds.take (k+1)).length≤5:=by simp;omega
    have hXb:0≤X∧X≤5000000:=by have:=HX.out;omega
    obtain ⟨g1,cap1,hfv,hg1,hg2,⟨_,_,_,hg3⟩,_⟩:=htx
    have e256:=c.toNat_lt
    have e256i:(c.toNat:Int)<256:=by omega
    have t1:=(hTab.keep hB).cell c.toNat (by omega)
    rw [hfv] at t1
    have tz2:=cell_lt t1
    obtain ⟨n,hn⟩:∃ n,l.count c=n:=⟨_,rfl⟩
    have hnl:n≤1000:=by have h9:=H.out.2.2.2.2.2.2.2.2.2.2.2;have:=List.count_le_length (a:=c) (l:=l);omega
    rw [hn] at hcs
    have hcb:Lib.countByte s.data.toList c=n:=by rw [HLL.out];exact hn
    have HN:=Lib.hid hn
    have hXn:X+(n:Int) * ((t.size:Int) - 1)=(s.size:Int)+cntS d l (ds.take (k+1)):=by rw [hcs,HX.out];omega
    have hXb2:0≤X+(n:Int) * ((t.size:Int) - 1)∧X+(n:Int) * ((t.size:Int) - 1)≤5001000:=by rw [hXn];omega
    have HXN:=Lib.hid hXn
    have HHC:=Lib.hid hc
    have HTS:=Lib.hid htz
    have hq0:∀ h,((⟨#[c]⟩:ByteArray)[0]'h).toNat=c.toNat:=fun _=>rfl
    clear hcs hts hdt hdz hc htl htl2 hn hXn hb1' hb2' hfv hg1 hg2 hg3
    by_cases hn0:n=0
    ·subst hn0
     go_wp2_with (go_at_call 259;refine (Tryz.strings_Count_one s c _).mono ?_;rintro e w1 ⟨rfl,hw1⟩;obtain rfl:=hw1;rw [hcb])
     go_roundw
     case rel=>exact ⟨k+1,b,X,by omega,by go_num,rfl,(show _=_ by have:=HXN.out;simpa using this),rfl,hcn.out b (fun h=>⟨h,HN.out⟩),hB⟩
     case measure=>simp [intOf];omega
    ·have hn1:((n:Int) != 0)=true:=by simp;omega
     have w1:IntKind.i64.wrap ((t.size:Int) - 1)=(t.size:Int) - 1:=IntWalk.i64_in _ (by have:=HTS.out;omega)
     have hm0:0≤(n:Int) * ((t.size:Int) - 1):=Int.mul_nonneg (by omega) (by have:=HTS.out;omega)
     have w2:IntKind.i64.wrap ((n:Int) * ((t.size:Int) - 1))=(n:Int) * ((t.size:Int) - 1):=IntWalk.i64_in _ (by omega)
     have w3:IntKind.i64.wrap (X+(n:Int) * ((t.size:Int) - 1))=X+(n:Int) * ((t.size:Int) - 1):=IntWalk.i64_in _ (by omega)
     clear hn0
     go_wp2_with (go_at_call 259;refine (Tryz.strings_Count_one s c _).mono ?_;rintro e w1 ⟨rfl,hw1⟩;obtain rfl:=hw1;rw [hcb])
     refine region_acts (C:=Exc (NoT) _) 3 [0,1,2,3,4,5,6,7,8,9,10,11,12,13] (by kernel_rfl) (by kernel_rfl) (Exc.grows _ _) (Exc.refl _ _) ?_
     iterate 14 (apply x_st rfl rfl rfl;(focus intro u hc' hf';go_simp <;> rfl);intro K hK;go_simp;apply hK;clear hK K)
     refine x_nil ?_
     go_wp2
     refine ⟨⟨k+1,true,_,by omega,by push_cast;rfl,rfl,(show _=_ from HXN.out),rfl,(fun h=>by cases h),hB.drew⟩,?_⟩
     simp [intOf];omega
   ·obtain rfl:k=5:=by omega
    have i1:¬ ((5:Nat):Int)<5:=by omega
    have htk:ds.take 5=ds:=List.take_of_length_le (by rw [HD.out];omega)
    obtain rfl:X=(N:Int):=by rw [HX.out,htk,H.out.2.2.2.1,H.out.2.2.2.2.2.2.2.2.1]
    have HBB:Hid (b=false → ∀ c ∈ l,d c=none):=fun hb=>H.out.2.2.2.2.1 (fun c hc=>HZ.out hb c (by rw [htk];exact hc))
    clear HX HZ htk
    cases b with
    | false =>
     have HR:Hid ((⟨(outD d l).toArray⟩:ByteArray)=s):=(show _=_ by rw [outD_id d l (HBB.out rfl),← HSA.out])
     go_wp2
     go_ret
     exact ⟨by rw [HR.out];rfl,hB⟩
    | true =>
     go_wp2_with (at_make;refine wpList_make_full _ rfl _ _ _ rfl wr.heap.size 5 inU _ 1 Tryz.underlying142 hiU hzU0 hzU1 _ _ _ _ N rfl rfl rfl rfl (by rw [HU.out];omega) (by unfold maxLen;omega) (Nat.le_refl _) ?_;intro w1 hown1 hgr1)
     have hB1:Below w.heap.size w w1:=hB.grown hgr1 hB.size (by simp)
     have hbuf0:=u8_row hown1
     have hgb:=hB.size
     generalize wr.heap.size=gb at *
     clear hown1 hgr1
     go_wp2_with fail
     go_loopw [13,14] (fun jv iv w2=>∃ i:Nat,i≤s.size∧iv=.int .i64 (i:Int)∧jv=.int .i64 ((outD d (l.take i)).length:Int)∧BufS w2 gb N (outD d (l.take i))∧Below w.heap.size w w2) (fun _ iv _=>s.size - (intOf iv).toNat)
     case atStart=>exact ⟨0,by omega,rfl,rfl,hbuf0,hB1⟩
     case round =>
      obtain ⟨i,hi,rfl,rfl,hbuf,hB2⟩:=hrel
      by_cases hlt:i<s.size
      ·have i1:(i:Int)<(s.size:Int):=by omega
       have i2:IntKind.i64.wrap ((i:Int)+1)=(i:Int)+1:=IntWalk.i64_in _ (by omega)
       have hkl:i<l.length:=by have h9:=H.out.2.2.2.2.2.2.2.2.2.2.2;omega
       have hts:l.take (i+1)=l.take i ++ [l[i]]:=take_snoc l i hkl
       have hlk:=H.out.2.2.2.2.2.2.2.2.2.1 i hlt hkl
       have hap:=outD_app d (l.take i) [l[i]]
       rw [← hts,hlk] at hap
       have hlen:(outD d l).length=(outD d (l.take (i+1))).length+(outD d (l.drop (i+1))).length:=by
        rw [← List.length_append,← outD_app,List.take_append_drop]
       rw [H.out.2.2.2.2.2.2.2.2.2.2.1,hap,List.length_append] at hlen
       obtain ⟨pre,hpre⟩:∃ pre,outD d (l.take i)=pre:=⟨_,rfl⟩
       rw [hpre] at hap hlen hbuf ⊢
       have htx:=H.out.1 s[i]
       have hsz2:=H.out.2.1 s[i]
       have hpz:pre.length≤1000000:=by omega
       have e256:=s[i].toNat_lt
       have e256i:(s[i].toNat:Int)<256:=by omega
       have t1:=(hTab.keep hB2).cell s[i].toNat (by omega)
       have tz2:=cell_lt t1
       have htg:¬ tb=gb:=by omega
       have bz:=hbuf.lt
       have HAP:=Lib.hid hap
       clear hts hap hpre hkl hlk
       cases hdc:d s[i] with
       | none =>
        rw [hdc] at htx
        have htx:f s[i].toNat=.slice none 0 0:=htx
        rw [htx] at t1
        have hnn:Sem.run Tryz.prog (binOp BinOp.neq 142 (.slice none 0 0) (.slice none 0 0)) wr=.ok (.bool false) wr:=by kernel_rfl
        have ho:outD d [s[i]]=[s[i]]:=by simp [outD,hdc]
        rw [ho] at hlen
        simp only [List.length_cons,List.length_nil] at hlen
        have HO:=Lib.hid ho
        have hpn:pre.length<N:=by omega
        have j1:(pre.length:Int)<(N:Int):=by omega
        have j2:IntKind.i64.wrap ((pre.length:Int)+1)=(pre.length:Int)+1:=IntWalk.i64_in _ (by omega)
        obtain ⟨v0,bc⟩:=hbuf.room hpn
        have bf:=hbuf.froz pre.length
        have hput:=hbuf.put hpn s[i]
        clear htx hdc hsz2 ho hlen
        go_wp2
        go_roundw
        case rel=>exact ⟨i+1,by omega,by go_num,by rw [HAP.out,HO.out];simp,by rw [HAP.out,HO.out];exact hput,hB2.setCell hgb _⟩
        case measure=>simp [intOf];omega
       | some t =>
        rw [hdc] at htx
        obtain ⟨g1,cap1,hfv,hg1,hg2,⟨_,_,_,hg3⟩,hby⟩:=htx
        replace hg3:=(Array.getElem?_eq_some_iff.1 hg3).1
        rw [hfv] at t1
        have hnn:Sem.run Tryz.prog (binOp BinOp.neq 142 (.slice (some ⟨g1,0,none⟩) t.size cap1) (.slice none 0 0)) wr=.ok (.bool true) wr:=by kernel_rfl
        have htz:=hsz2 t hdc
        have ho:outD d [s[i]]=t.data.toList:=by simp [outD,hdc]
        have htl:t.data.toList.length=t.size:=by simp
        rw [ho,htl] at hlen
        have HO:=Lib.hid ho
        have hpn:pre.length+t.size≤N:=by omega
        have j1:(pre.length:Int)≤(N:Int):=by omega
        have j2:IntKind.i64.wrap ((pre.length:Int)+(t.size:Int))=(pre.length:Int)+(t.size:Int):=IntWalk.i64_in _ (by omega)
        have j3:¬ N=pre.length:=by omega
        have HBY:=Lib.hid hby
        have HBF:=Lib.hid hbuf
        clear hdc hsz2 hfv ho hlen hby
        go_wp2_with fail
        refine region_acts (C:=Exc ((fun k=>k=gb)) _) 3 [0,1,2,3,4,5,6,7,8,9,10,11,12] (by kernel_rfl) (by kernel_rfl) (Exc.grows _ _) (Exc.refl _ _) ?_
        iterate 10 (apply x_sT rfl rfl rfl;(focus intro u hc' hf';(try simp only [World.size_drew] at hc' hf');go_simp <;> rfl);intro K hK;go_simp;apply hK;clear hK K)
        refine x_copy rfl rfl rfl (Exc.refl _ _) _ _ 142 142 rfl 5 Tryz.underlying142 (by kernel_rfl) gb pre.length (N - pre.length) (N - pre.length) ?d1 ⟨g1,0,none⟩ t.size cap1 ?d2 (t.data.toList.map u8V) ?d3 (by simpa using bz) rfl ?d4 5 (fun w2=>BufS w2 gb N (pre ++ t.data.toList)) ?d5 ?_
        case d1=>simp [Act.eval,Act.put]
        case d2=>simp [Act.eval,Act.put]
        case d3=>rw [List.length_map,htl];exact (Nat.min_eq_left (by omega)).symm
        case d4=>intro u hu;obtain ⟨x,_,rfl⟩:=List.mem_map.1 hu;rfl
        case d5 =>
         intro w2 hw2 hb2'
         refine ⟨fun j u hu=>?_,?_⟩
         ·rw [List.getElem?_map] at hu
          have hj:j<t.size:=by
           rcases Nat.lt_or_ge j t.size with h9|h9
           ·exact h9
           ·rw [List.getElem?_eq_none (by omega)] at hu;cases hu
          have hgl:t.data.toList[j]?=some t[j]:=by rw [List.getElem?_eq_getElem (by omega)];rfl
          rw [hgl] at hu
          have h8:=cell_keep hB2 (HBY.out j hj)
          have h7:=cell_lt h8
          rw [addr_add,Nat.zero_add]
          rw [hw2.cell.1 g1 j (by simpa using h7) (by omega)]
          rw [World.cell?_drew]
          exact h8.trans hu
         ·have hbk:=HBF.out.keep ((Below.refl _ _).drew.trans (hb2'.mono (by simp)))
          obtain ⟨cur,k1,k2,k3⟩:=hbk.copy t.data.toList (by rw [htl];exact hpn)
          exact ⟨cur,k1,k2,k3⟩
        intro K hK w2 hR hw2
        rw [show (t.data.toList.map u8V).length=t.size by simp]
        go_simp
        refine hK _ _ _ ?_
        clear hK K
        iterate 2 (apply x_sT rfl rfl rfl;(focus intro u hc' hf';(try simp only [World.size_drew] at hc' hf');go_simp <;> rfl);intro K hK;go_simp;apply hK;clear hK K)
        refine x_nil ?_
        have hb9:Below w.heap.size w w2:=(hB2.trans ((Below.refl _ _).drew)).trans (exc_lo hw2 (by simpa using hB2.size) (fun k hk=>by omega))
        clear hw2 hnn
        go_wp2
        go_roundw
        case rel=>exact ⟨i+1,by omega,by go_num,by rw [HAP.out,HO.out];simp,by rw [HAP.out,HO.out];exact hR,hb9⟩
        case measure=>simp [intOf];omega
      ·obtain rfl:i=s.size:=by omega
       have i1:¬ (s.size:Int)<(s.size:Int):=by omega
       have hll:=H.out.2.2.2.2.2.2.2.2.2.2.2
       have htk:l.take s.size=l:=List.take_of_length_le (by omega)
       have hcv2:=conv_bytes wr gb N (outD d l) N H.out.2.2.2.2.2.2.2.2.2.2.1 (fun j hj=>by rw [htk] at hbuf;exact hbuf.cell j hj)
       have oz:=hbuf.lt
       clear hbuf htk hll
       go_wp2
       go_ret
       exact ⟨rfl,hB2⟩
 ·have g40:¬ (40:Int)≤(s.size:Int):=by omega
  go_enter Tryz.func391,Tryz.ntmps391
  go_wp2_with fail
  go_loopw [5,6,10] (fun nv bv iv wr=>∃ (k:Nat) (b:Bool) (X:Int),k≤s.size∧iv=.int .i64 (k:Int)∧nv=.int .i64 X∧Hid (X=(s.size:Int)+dsum d (l.take k))∧bv=.bool b∧Hid (b=false → ∀ c ∈ l.take k,d c=none)∧Below w.heap.size w wr) (fun _ _ iv _=>s.size - (intOf iv).toNat)
  case atStart=>exact ⟨0,false,(s.size:Int),by omega,rfl,rfl,(show _=_ by simp [dsum]),rfl,(fun _ c hc=>by simp at hc),Below.refl _ _⟩
  case round =>
   obtain ⟨k,b,X,hk,rfl,rfl,HX,rfl,HZ,hB⟩:=hrel
   by_cases hk5:k<s.size
   ·have i1:(k:Int)<(s.size:Int):=by omega
    have i2:IntKind.i64.wrap ((k:Int)+1)=(k:Int)+1:=IntWalk.i64_in _ (by omega)
    have hkl:k<l.length:=by have h9:=H.out.2.2.2.2.2.2.2.2.2.2.2;omega
    have hts:l.take (k+1)=l.take k ++ [l[k]]:=take_snoc l k hkl
    have hlk:=H.out.2.2.2.2.2.2.2.2.2.1 k hk5 hkl
    have hcn:Hid (∀ b',(b'=false → b=false∧d l[k]=none) → (b'=false → ∀ c ∈ l.take (k+1),d c=none)):=fun b' h1 h2 c hc=>by
     rw [hts] at hc
     rcases List.mem_append.1 hc with h3|h3
     ·exact HZ.out (h1 h2).1 c h3
     ·simp at h3;subst h3;exact (h1 h2).2
    have hcs:=dsum_app d (l.take k) [l[k]]
    rw [← hts] at hcs
    have hdb:=dsum_bnd d H.out.2.2.2.2.2.2.2.1 (l.take k)
    have htl:(l.take k).length≤1000:=by simp;omega
    have htx:=H.out.1 l[k]
    have hsz2:=H.out.2.1 l[k]
    rw [hlk] at htx hcs hcn hsz2
    have hXb:0≤X∧X≤1000000:=by have:=HX.out;omega
    have e256:=s[k].toNat_lt
    have e256i:(s[k].toNat:Int)<256:=by omega
    have t1:=(hTab.keep hB).cell s[k].toNat (by omega)
    have tz2:=cell_lt t1
    have HCS:=Lib.hid hcs
    clear hts hcs htl hdb hlk hkl
    cases hdc:d s[k] with
    | none =>
     rw [hdc] at htx
     have htx:f s[k].toNat=.slice none 0 0:=htx
     rw [htx] at t1
     have hnn:Sem.run Tryz.prog (binOp BinOp.neq 142 (.slice none 0 0) (.slice none 0 0)) wr=.ok (.bool false) wr:=by kernel_rfl
     have HDC:=Lib.hid hdc
     clear htx hdc hsz2
     go_wp2
     go_roundw
     case rel=>exact ⟨k+1,b,X,by omega,by go_num,rfl,(show _=_ by rw [HCS.out,HX.out];simp [dsum,dsz,HDC.out]),rfl,hcn.out b (fun h=>⟨h,HDC.out⟩),hB⟩
     case measure=>simp [intOf];omega
    | some t =>
     rw [hdc] at htx
     obtain ⟨g1,cap1,hfv,hg1,hg2,⟨_,_,_,hg3⟩,_⟩:=htx
     rw [hfv] at t1
     have hnn:Sem.run Tryz.prog (binOp BinOp.neq 142 (.slice (some ⟨g1,0,none⟩) t.size cap1) (.slice none 0 0)) wr=.ok (.bool true) wr:=by kernel_rfl
     have htz:=hsz2 t hdc
     have w1:IntKind.i64.wrap ((t.size:Int) - 1)=(t.size:Int) - 1:=IntWalk.i64_in _ (by omega)
     have w3:IntKind.i64.wrap (X+((t.size:Int) - 1))=X+((t.size:Int) - 1):=IntWalk.i64_in _ (by omega)
     have HDC:=Lib.hid hdc
     clear hdc hsz2 hfv hg1 hg2 hg3
     go_wp2
     refine ⟨⟨k+1,true,_,by omega,by push_cast;rfl,rfl,(show _=_ by rw [HCS.out,HX.out];simp [dsum,dsz,HDC.out];omega),rfl,(fun h=>by cases h),hB⟩,?_⟩
     simp [intOf];omega
   ·obtain rfl:k=s.size:=by omega
    have hll:=H.out.2.2.2.2.2.2.2.2.2.2.2
    have htk:l.take s.size=l:=List.take_of_length_le (by omega)
    obtain rfl:X=(N:Int):=by rw [HX.out,htk,H.out.2.2.2.2.2.2.2.2.1]
    have HBB:Hid (b=false → ∀ c ∈ l,d c=none):=fun hb c hc=>HZ.out hb c (by rw [htk];exact hc)
    have i1:¬ (s.size:Int)<(s.size:Int):=by omega
    clear HX HZ htk hll
    cases b with
    | false =>
     have HR:Hid ((⟨(outD d l).toArray⟩:ByteArray)=s):=(show _=_ by rw [outD_id d l (HBB.out rfl),← HSA.out])
     go_wp2
     go_ret
     exact ⟨by rw [HR.out];rfl,hB⟩
    | true =>
     go_wp2_with (at_make;refine wpList_make_full _ rfl _ _ _ rfl wr.heap.size 5 inU _ 1 Tryz.underlying142 hiU hzU0 hzU1 _ _ _ _ N rfl rfl rfl rfl (by rw [HU.out];omega) (by unfold maxLen;omega) (Nat.le_refl _) ?_;intro w1 hown1 hgr1)
     have hB1:Below w.heap.size w w1:=hB.grown hgr1 hB.size (by simp)
     have hbuf0:=u8_row hown1
     have hgb:=hB.size
     generalize wr.heap.size=gb at *
     clear hown1 hgr1
     go_wp2_with fail
     go_loopw [13,14] (fun jv iv w2=>∃ i:Nat,i≤s.size∧iv=.int .i64 (i:Int)∧jv=.int .i64 ((outD d (l.take i)).length:Int)∧BufS w2 gb N (outD d (l.take i))∧Below w.heap.size w w2) (fun _ iv _=>s.size - (intOf iv).toNat)
     case atStart=>exact ⟨0,by omega,rfl,rfl,hbuf0,hB1⟩
     case round =>
      obtain ⟨i,hi,rfl,rfl,hbuf,hB2⟩:=hrel
      by_cases hlt:i<s.size
      ·have i1:(i:Int)<(s.size:Int):=by omega
       have i2:IntKind.i64.wrap ((i:Int)+1)=(i:Int)+1:=IntWalk.i64_in _ (by omega)
       have hkl:i<l.length:=by have h9:=H.out.2.2.2.2.2.2.2.2.2.2.2;omega
       have hts:l.take (i+1)=l.take i ++ [l[i]]:=take_snoc l i hkl
       have hlk:=H.out.2.2.2.2.2.2.2.2.2.1 i hlt hkl
       have hap:=outD_app d (l.take i) [l[i]]
       rw [← hts,hlk] at hap
       have hlen:(outD d l).length=(outD d (l.take (i+1))).length+(outD d (l.drop (i+1))).length:=by
        rw [← List.length_append,← outD_app,List.take_append_drop]
       rw [H.out.2.2.2.2.2.2.2.2.2.2.1,hap,List.length_append] at hlen
       obtain ⟨pre,hpre⟩:∃ pre,outD d (l.take i)=pre:=⟨_,rfl⟩
       rw [hpre] at hap hlen hbuf ⊢
       have htx:=H.out.1 s[i]
       have hsz2:=H.out.2.1 s[i]
       have hpz:pre.length≤1000000:=by omega
       have e256:=s[i].toNat_lt
       have e256i:(s[i].toNat:Int)<256:=by omega
       have t1:=(hTab.keep hB2).cell s[i].toNat (by omega)
       have tz2:=cell_lt t1
       have htg:¬ tb=gb:=by omega
       have bz:=hbuf.lt
       have HAP:=Lib.hid hap
       clear hts hap hpre hkl hlk
       cases hdc:d s[i] with
       | none =>
        rw [hdc] at htx
        have htx:f s[i].toNat=.slice none 0 0:=htx
        rw [htx] at t1
        have hnn:Sem.run Tryz.prog (binOp BinOp.neq 142 (.slice none 0 0) (.slice none 0 0)) wr=.ok (.bool false) wr:=by kernel_rfl
        have ho:outD d [s[i]]=[s[i]]:=by simp [outD,hdc]
        rw [ho] at hlen
        simp only [List.length_cons,List.length_nil] at hlen
        have HO:=Lib.hid ho
        have hpn:pre.length<N:=by omega
        have j1:(pre.length:Int)<(N:Int):=by omega
        have j2:IntKind.i64.wrap ((pre.length:Int)+1)=(pre.length:Int)+1:=IntWalk.i64_in _ (by omega)
        obtain ⟨v0,bc⟩:=hbuf.room hpn
        have bf:=hbuf.froz pre.length
        have hput:=hbuf.put hpn s[i]
        clear htx hdc hsz2 ho hlen
        go_wp2
        go_roundw
        case rel=>exact ⟨i+1,by omega,by go_num,by rw [HAP.out,HO.out];simp,by rw [HAP.out,HO.out];exact hput,hB2.setCell hgb _⟩
        case measure=>simp [intOf];omega
       | some t =>
        rw [hdc] at htx
        obtain ⟨g1,cap1,hfv,hg1,hg2,⟨_,_,_,hg3⟩,hby⟩:=htx
        replace hg3:=(Array.getElem?_eq_some_iff.1 hg3).1
        rw [hfv] at t1
        have hnn:Sem.run Tryz.prog (binOp BinOp.neq 142 (.slice (some ⟨g1,0,none⟩) t.size cap1) (.slice none 0 0)) wr=.ok (.bool true) wr:=by kernel_rfl
        have htz:=hsz2 t hdc
        have ho:outD d [s[i]]=t.data.toList:=by simp [outD,hdc]
        have htl:t.data.toList.length=t.size:=by simp
        rw [ho,htl] at hlen
        have HO:=Lib.hid ho
        have hpn:pre.length+t.size≤N:=by omega
        have j1:(pre.length:Int)≤(N:Int):=by omega
        have j2:IntKind.i64.wrap ((pre.length:Int)+(t.size:Int))=(pre.length:Int)+(t.size:Int):=IntWalk.i64_in _ (by omega)
        have j3:¬ N=pre.length:=by omega
        have HBY:=Lib.hid hby
        have HBF:=Lib.hid hbuf
        clear hdc hsz2 hfv ho hlen hby
        go_wp2_with fail
        refine region_acts (C:=Exc ((fun k=>k=gb)) _) 3 [0,1,2,3,4,5,6,7,8,9,10,11,12] (by kernel_rfl) (by kernel_rfl) (Exc.grows _ _) (Exc.refl _ _) ?_
        iterate 10 (apply x_sT rfl rfl rfl;(focus intro u hc' hf';(try simp only [World.size_drew] at hc' hf');go_simp <;> rfl);intro K hK;go_simp;apply hK;clear hK K)
        refine x_copy rfl rfl rfl (Exc.refl _ _) _ _ 142 142 rfl 5 Tryz.underlying142 (by kernel_rfl) gb pre.length (N - pre.length) (N - pre.length) ?d1 ⟨g1,0,none⟩ t.size cap1 ?d2 (t.data.toList.map u8V) ?d3 (by simpa using bz) rfl ?d4 5 (fun w2=>BufS w2 gb N (pre ++ t.data.toList)) ?d5 ?_
        case d1=>simp [Act.eval,Act.put]
        case d2=>simp [Act.eval,Act.put]
        case d3=>rw [List.length_map,htl];exact (Nat.min_eq_left (by omega)).symm
        case d4=>intro u hu;obtain ⟨x,_,rfl⟩:=List.mem_map.1 hu;rfl
        case d5 =>
         intro w2 hw2 hb2'
         refine ⟨fun j u hu=>?_,?_⟩
         ·rw [List.getElem?_map] at hu
          have hj:j<t.size:=by
           rcases Nat.lt_or_ge j t.size with h9|h9
           ·exact h9
           ·rw [List.getElem?_eq_none (by omega)] at hu;cases hu
          have hgl:t.data.toList[j]?=some t[j]:=by rw [List.getElem?_eq_getElem (by omega)];rfl
          rw [hgl] at hu
          have h8:=cell_keep hB2 (HBY.out j hj)
          have h7:=cell_lt h8
          rw [addr_add,Nat.zero_add]
          rw [hw2.cell.1 g1 j (by simpa using h7) (by omega)]
          rw [World.cell?_drew]
          exact h8.trans hu
         ·have hbk:=HBF.out.keep ((Below.refl _ _).drew.trans (hb2'.mono (by simp)))
          obtain ⟨cur,k1,k2,k3⟩:=hbk.copy t.data.toList (by rw [htl];exact hpn)
          exact ⟨cur,k1,k2,k3⟩
        intro K hK w2 hR hw2
        rw [show (t.data.toList.map u8V).length=t.size by simp]
        go_simp
        refine hK _ _ _ ?_
        clear hK K
        iterate 2 (apply x_sT rfl rfl rfl;(focus intro u hc' hf';(try simp only [World.size_drew] at hc' hf');go_simp <;> rfl);intro K hK;go_simp;apply hK;clear hK K)
        refine x_nil ?_
        have hb9:Below w.heap.size w w2:=(hB2.trans ((Below.refl _ _).drew)).trans (exc_lo hw2 (by simpa using hB2.size) (fun k hk=>by omega))
        clear hw2 hnn
        go_wp2
        go_roundw
        case rel=>exact ⟨i+1,by omega,by go_num,by rw [HAP.out,HO.out];simp,by rw [HAP.out,HO.out];exact hR,hb9⟩
        case measure=>simp [intOf];omega
      ·obtain rfl:i=s.size:=by omega
       have i1:¬ (s.size:Int)<(s.size:Int):=by omega
       have hll:=H.out.2.2.2.2.2.2.2.2.2.2.2
       have htk:l.take s.size=l:=List.take_of_length_le (by omega)
       have hcv2:=conv_bytes wr gb N (outD d l) N H.out.2.2.2.2.2.2.2.2.2.2.1 (fun j hj=>by rw [htk] at hbuf;exact hbuf.cell j hj)
       have oz:=hbuf.lt
       clear hbuf htk hll
       go_wp2
       go_ret
       exact ⟨rfl,hB2⟩
end Go.Proofs.YtbljmfcifljkaaaGreatDoor
/-
  strings.Replacer: Replace where some letter has a text of two bytes. Own work.
-/
namespace Go.Proofs.YtbljmfcifljkaaaGreatDoor
open Go.RowKit
set_option maxRecDepth 100000
set_option maxHeartbeats 4000000
def StrP (L:List (UInt8 × ByteArray)) (b:Nat) (w:World) (r:Value):Prop:=∃ B tb gt,r=.iface 346 (.pointer (some ⟨tb,0,none⟩))∧b<B∧StrTab w B tb gt L
theorem StrP.set {L:List (UInt8 × ByteArray)} {b:Nat}:∀ (w w':World) (r:Value) (a:Addr) (u:Value),StrP L b w r → a.block=b → w'=w.setCell a u → StrP L b w' r:=by
 rintro w w' r a u ⟨B,tb,gt,h1,h2,f,k1,k2,k3,k4,k5,k6,k7⟩ ha rfl
 have hb:∀ k,k ≠ b → (w.setCell a u).heap[k]?=w.heap[k]?:=fun k hk=>Below.heap_setCell _ _ _ _ (by rw [ha];exact hk)
 refine ⟨B,tb,gt,h1,h2,f,(hb tb (by omega)).trans k1,k2,k3,k4,k5,owns_blk k6 (fun k hk=>by rw [k5] at hk;simp [Value.ownBlock] at hk;subst hk;exact hb _ (by omega)),fun c=>?_⟩
 have h9:=k7 c
 cases hd:dN L c with
 | none=>rw [hd] at h9;exact h9
 | some t =>
  rw [hd] at h9
  obtain ⟨g,cap,e,q1,q2,⟨q3,cs,fr,q4⟩,q5⟩:=h9
  exact ⟨g,cap,e,q1,q2,⟨q3,cs,fr,(hb g (by omega)).trans q4⟩,fun j hj=>(World.cell?_of_block (hb g (by omega))).trans (q5 j hj)⟩
theorem StrP.keep {L:List (UInt8 × ByteArray)} {b:Nat} {w w':World} {r:Value} (h:StrP L b w r) (hb:Below w.heap.size w w'):StrP L b w' r:=by
 obtain ⟨B,tb,gt,h1,h2,h3⟩:=h
 exact ⟨B,tb,gt,h1,h2,h3.keep hb⟩
theorem replaceS_first (L:List (UInt8 × ByteArray)) (hL:L.length=5) (hnd:(L.map Prod.fst).Nodup) (hsz:∀ c t,dN L c=some t → 1≤t.size∧t.size≤1000) (b:Nat) (v:Value) (xs:List ByteArray) (s:ByteArray) (w:World) (h:RpNew w b v xs) (hv:∃ x y z,v=.slice x y z) (hs:s.size≤1000)
  (hb:∀ W,W.cell? ⟨b,4,none⟩=some v → OnAt W v xs → Calls Tryz.prog 227 #[.pointer (some ⟨b,0,none⟩)] W fun e w'=>∃ r,e=.returned r∧StrP L b w' r∧Below W.heap.size W w')
  (hon:OnAt (w.setCell ⟨b,1,none⟩ (.int .i32 1)) v xs) :
  Calls Tryz.prog 96 #[.pointer (some ⟨b,0,none⟩),.string s] w fun e w'=>e=.returned (.string (⟨(outD (dN L) s.data.toList).toArray⟩)) ∧
   (∃ r,RpHas w' b 1 0 r∧StrP L b w' r)∧Exc (fun k=>k=b) w w':=by
 have bz:=cell_lt h.c0
 have hbo:=buildOnce_any (StrP L b) StrP.set v (w.setCell ⟨b,1,none⟩ (.int .i32 1)) ((World.cell?_setCell_other _ ⟨b,1,none⟩ ⟨b,0,none⟩ _ (by simp)).trans h.c0) (World.cell?_setCell_same _ _ _ h.c1)
  ((World.cell?_setCell_other _ ⟨b,1,none⟩ ⟨b,3,none⟩ _ (by simp)).trans h.c3) ((World.cell?_setCell_other _ ⟨b,1,none⟩ ⟨b,4,none⟩ _ (by simp)).trans h.c4) (fun j=>by rw [World.frozen?_setCell];exact h.fz j)
  (hb _ ((World.cell?_setCell_other _ ⟨b,1,none⟩ ⟨b,4,none⟩ _ (by simp)).trans h.c4) hon) hv (fun w' r ⟨_,tb,_,h1,_⟩=>⟨_,_,h1⟩)
 go_enter Tryz.func96,Tryz.ntmps96
 go_wp2_with fail
 refine (do_first b (BuP (StrP L b) b (w.setCell ⟨b,1,none⟩ (.int .i32 1))) w h.c0 h.c1 (h.fz 1) hbo (fun w' ⟨r,hh,_⟩=>⟨hh.c0,hh.c1,hh.fz 0,hh.fz 1⟩)).mono ?_
 rintro e w2 ⟨rfl,w1,⟨r,hh,⟨B0,tb,gt0,rfl,hbB,hT⟩,hx⟩,rfl⟩
 have k0:(onceDone w1 b).cell? ⟨b,0,none⟩=some (.int .u32 1):=by
  unfold onceDone
  rw [World.cell?_setCell_other _ ⟨b,1,none⟩ ⟨b,0,none⟩ _ (by simp)]
  exact World.cell?_setCell_same _ _ _ ((World.cell?_drew _ _).trans hh.c0)
 have k1:(onceDone w1 b).cell? ⟨b,1,none⟩=some (.int .i32 0):=by
  unfold onceDone
  exact World.cell?_setCell_same _ _ _ ((World.cell?_setCell_other _ ⟨b,0,none⟩ ⟨b,1,none⟩ _ (by simp)).trans ((World.cell?_drew _ _).trans hh.c1))
 have k3:(onceDone w1 b).cell? ⟨b,3,none⟩=some (.iface 346 (.pointer (some ⟨tb,0,none⟩))):=by
  unfold onceDone
  rw [World.cell?_setCell_other _ ⟨b,1,none⟩ ⟨b,3,none⟩ _ (by simp),World.cell?_setCell_other _ ⟨b,0,none⟩ ⟨b,3,none⟩ _ (by simp)]
  exact (World.cell?_drew _ _).trans hh.c3
 have kz:=cell_lt k3
 have kf:∀ j,(onceDone w1 b).frozen? ⟨b,j,none⟩=false:=fun j=>by unfold onceDone;simp [hh.fz j]
 have hT2:StrP L b (onceDone w1 b) (.iface 346 (.pointer (some ⟨tb,0,none⟩))) :=
  StrP.set _ _ _ ⟨b,1,none⟩ _ (StrP.set (w1.drew) _ _ ⟨b,0,none⟩ _ ⟨B0,tb,gt0,rfl,hbB,(hT.keep ((Below.refl _ _).drew))⟩ rfl rfl) rfl rfl
 have hE:Exc (fun k=>k=b) w (onceDone w1 b):=by
  unfold onceDone
  exact exc_set (T:=fun k=>k=b) (a:=⟨b,1,none⟩) (exc_set (T:=fun k=>k=b) (a:=⟨b,0,none⟩) ((exc_set (T:=fun k=>k=b) (a:=⟨b,1,none⟩) (Exc.refl _ w) (.inr rfl) _).trans (hx.trans (Below.exc (Below.refl w1.heap.size w1).drew))) (.inr rfl) _) (.inr rfl) _
 obtain ⟨W2,hW2⟩:∃ W,W=onceDone w1 b:=⟨_,rfl⟩
 rw [← hW2] at k0 k1 k3 kz kf hT2 hE ⊢
 obtain ⟨B,tb',gt,he,hbB2,hT3⟩:=hT2
 simp only [Value.iface.injEq,Value.pointer.injEq,Option.some.injEq,Addr.mk.injEq,and_true,true_and] at he
 subst he
 have hm : ∀ (x : Value) (w : World), Sem.run Tryz.prog (method 549 346 x "Replace") w = .ok (391, x) w := fun _ _ => by kernel_rfl
 clear hW2 hT hh hx hbo hb hon h
 go_wp2_with fail
 refine (strReplace_any B tb gt L s _ hT3 hL hnd hsz hs).mono ?_
 rintro e w3 ⟨rfl,hb3⟩
 go_wp2_with fail
 go_ret
 refine ⟨rfl,⟨_,⟨cell_keep hb3 k0,cell_keep hb3 k1,cell_keep hb3 k3,fun j=>(hb3.frozen (p:=⟨b,j,none⟩) kz).trans (kf j)⟩,B,tb,gt,rfl,hbB2,hT3.keep hb3⟩,hE.trans (Below.exc hb3)⟩
theorem replaceS_later (L:List (UInt8 × ByteArray)) (hL:L.length=5) (hnd:(L.map Prod.fst).Nodup) (hsz:∀ c t,dN L c=some t → 1≤t.size∧t.size≤1000) (b:Nat) (r:Value) (s:ByteArray) (w:World) (h:RpHas w b 1 0 r) (hT:StrP L b w r) (hs:s.size≤1000) :
  Calls Tryz.prog 96 #[.pointer (some ⟨b,0,none⟩),.string s] w fun e w'=>e=.returned (.string (⟨(outD (dN L) s.data.toList).toArray⟩))∧RpHas w' b 1 0 r∧StrP L b w' r∧Below w.heap.size w w':=by
 obtain ⟨B,tb,gt,rfl,hbB,hT3⟩:=hT
 have k3:=h.c3
 have kz:=cell_lt k3
 have hm : ∀ (x : Value) (w : World), Sem.run Tryz.prog (method 549 346 x "Replace") w = .ok (391, x) w := fun _ _ => by kernel_rfl
 go_enter Tryz.func96,Tryz.ntmps96
 go_wp2_with fail
 refine (do_done b _ w h.c0).mono ?_
 rintro e w2 ⟨rfl,hw2⟩
 obtain rfl:w=w2:=hw2.symm
 go_wp2_with fail
 refine (strReplace_any B tb gt L s _ hT3 hL hnd hsz hs).mono ?_
 rintro e w3 ⟨rfl,hb3⟩
 go_wp2_with fail
 go_ret
 exact ⟨rfl,⟨cell_keep hb3 h.c0,cell_keep hb3 h.c1,cell_keep hb3 h.c3,fun j=>(hb3.frozen (p:=⟨b,j,none⟩) kz).trans (h.fz j)⟩,⟨B,tb,gt,rfl,hbB,hT3.keep hb3⟩,hb3⟩
end Go.Proofs.YtbljmfcifljkaaaGreatDoor
