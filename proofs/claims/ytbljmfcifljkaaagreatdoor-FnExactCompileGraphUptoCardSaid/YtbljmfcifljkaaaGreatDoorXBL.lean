/-
  The circuit of a graph, both codes. Own work; printed by a program of my own (parCqO.py).
-/
import Derived.Test.YtbljmfcifljkaaaGreatDoorXBE
import Derived.Test.YtbljmfcifljkaaaGreatDoorXBF
import Derived.Test.YtbljmfcifljkaaaGreatDoorXBH
import Derived.Test.YtbljmfcifljkaaaGreatDoorXAU
import Derived.Test.YtbljmfcifljkaaaGreatDoorXBK
import Derived.Test.YtbljmfcifljkaaaGreatDoorXBI
import Derived.Test.YtbljmfcifljkaaaGreatDoorXAO
set_option linter.all false
set_option maxRecDepth 100000
set_option maxHeartbeats 8000000
namespace Go.Proofs.YtbljmfcifljkaaaGreatDoor
open Go.RowKit
set_option maxRecDepth 100000
set_option maxHeartbeats 2000000
def smallE (E:List EdI):Bool:=!(E.any fun e=>decide (8<e.kind))
def cogB (p:Int) (g:GrI):Bool:=(primeB p && (grB g && overB p g)) && (monoB g && (acyB (cutE g.edges) && (smallE g.edges && circB p g.ins.length (crGs g) (crOs g))))
def CogP (p:Int) (g:GrI) (w:World) (e:Ending) (w':World):Prop :=
 ∃ v,e=.returned (.tuple #[v,.bool (cogB p g)])∧Below w.heap.size w w'∧(cogB p g=false → v=.agg #[.int .i64 0,.slice none 0 0,.slice none 0 0]) ∧
  (cogB p g=true → ∃ a c oa oc,v=.agg #[.int .i64 g.ins.length,.slice a (crGs g).length c,.slice oa (crOs g).length oc]∧GtsAt w' (.slice a (crGs g).length c) (crGs g)∧IntsAt w' (.slice oa (crOs g).length oc) (crOs g))
theorem CogP.no {p:Int} {g:GrI} {w w':World} (h:cogB p g=false) (hb:Below w.heap.size w w'):CogP p g w (.returned (.tuple #[.agg #[.int .i64 0,.slice none 0 0,.slice none 0 0],.bool false])) w' :=
 ⟨_,by rw [h],hb,fun _=>rfl,fun e=>by rw [h] at e;cases e⟩
theorem cgOk_of {p:Int} {g:GrI} (h1:(primeB p && (grB g && overB p g))=true) (h2:monoB g=true) (h3:acyB (cutE g.edges)=true) (h4:smallE g.edges=true):CgOk g:=by
 simp only [Bool.and_eq_true] at h1
 refine ⟨h1.2.1,h2,fun e he=>?_,h3⟩
 unfold smallE at h4
 rw [Bool.not_eq_true',List.any_eq_false] at h4
 have:=h4 e he
 simp at this
 omega
theorem cog1_any (k v:Int) (vi vo:Value) (w:World):Calls Tryz.prog 144 #[.agg #[.int .i64 k,.int .i64 v,vi,vo]] w fun e w'=>e=.returned (.bool (decide (8<k)))∧Below w.heap.size w w':=by
 have hA:=alloc_below w (.cells #[.int .i64 k,.int .i64 v,vi,vo] 189)
 go_enter Tryz.func144,Tryz.ntmps144
 go_wp2
 go_ret
 exact ⟨rfl,hA⟩
theorem indexE_any (v:Value) (E:List EdI) (w:World) (hv:EdsAt w v E) (hn:E.length≤1000) :
  Calls Tryz.prog 211 #[v,.func (.func 144) #[] #[]] w fun e w'=>∃ i:Int,e=.returned (.int .i64 i)∧((0≤i) ↔ (E.any fun e=>decide (8<e.kind))=true)∧Below w.heap.size w w':=by
 obtain ⟨a,cap,rfl,hc,hat⟩:=hv
 have eg:=eg_of Tryz.func144 (by kernel_rfl) rfl
 go_enter Tryz.func211,Tryz.ntmps211
 go_wp2
 go_loopw [8] (fun i wr=>∃ k:Nat,k≤E.length∧i=.int .i64 k∧Below w.heap.size w wr∧∀ j,∀ h:j<E.length,j<k → decide (8<(E[j]'h).kind)=false) (fun i _=>E.length - (intOf i).toNat)
 case atStart=>exact ⟨0,Nat.zero_le _,rfl,Below.refl _ _,fun j h1 h2=>by omega⟩
 case round =>
  obtain ⟨k,hk,rfl,hbel,hall⟩:=hrel
  have HALL:=Lib.hid hall
  clear hall
  by_cases hlt:k<E.length
  ·obtain ⟨b,o,rfl,_,c0,c1,wi,wo,c2,c3,hei,heo⟩:=hat k hlt
   obtain ⟨ia,ic,rfl⟩:=hei.slice
   obtain ⟨oa,oc,rfl⟩:=heo.slice
   replace c0:=cell_keep hbel c0
   replace c1:=cell_keep hbel c1
   replace c2:=cell_keep hbel c2
   replace c3:=cell_keep hbel c3
   have bz:=cell_lt c0
   have hcall:=fun U=>cog1_any E[k].kind E[k].value (.slice ia E[k].ins.length ic) (.slice oa E[k].outs.length oc) U
   have hmem:=List.getElem_mem hlt
   cases hb:decide (8<E[k].kind) with
   | true =>
    have HF:=Lib.hid (show (E.any fun e=>decide (8<e.kind))=true from List.any_eq_true.2 ⟨_,hmem,hb⟩)
    rw [hb] at hcall
    generalize E[k]=e at *
    have HC:=Lib.hid hcall
    clear hb hat hcall hei heo hmem
    go_wp2_with (go_at_call 144;refine (HC.out _).mono ?_;rintro e' w2 ⟨rfl,hb2⟩)
    go_ret
    exact ⟨_,rfl,by rw [HF.out];simp,hbel.trans (hb2.mono hbel.size)⟩
   | false =>
    have HB:=Lib.hid hb
    rw [hb] at hcall
    have HC:=Lib.hid hcall
    clear hb hat hcall hei heo hmem
    go_wp2_with (go_at_call 144;refine (HC.out _).mono ?_;rintro e' w2 ⟨rfl,hb2⟩)
    go_roundw
    case rel=>exact ⟨k+1,by omega,by go_num,hbel.trans (hb2.mono hbel.size),fun j h1 h2=>by
     rcases Nat.lt_or_ge j k with h|h
     ·exact HALL.out j h1 h
     ·obtain rfl:j=k:=by omega
      exact HB.out⟩
    case measure=>simp [intOf];omega
  ·obtain rfl:k=E.length:=by omega
   have HF:=Lib.hid (show (E.any fun e=>decide (8<e.kind))=false from List.any_eq_false.2 fun e he=>by obtain ⟨j,hj,rfl⟩:=List.mem_iff_getElem.1 he;rw [HALL.out j hj hj];simp)
   clear hat
   go_wp2
   go_ret
   exact ⟨_,rfl,by rw [HF.out];simp,hbel⟩
theorem containsE_any (v:Value) (E:List EdI) (w:World) (hv:EdsAt w v E) (hn:E.length≤1000) :
  Calls Tryz.prog 143 #[v,.func (.func 144) #[] #[]] w fun e w'=>e=.returned (.bool (!(smallE E)))∧Below w.heap.size w w':=by
 have HI:=Lib.hid (indexE_any v E w hv hn)
 obtain ⟨a,cap,rfl,_⟩:=hv
 unfold smallE
 rw [Bool.not_not]
 generalize (E.any fun e=>decide (8<e.kind))=b at HI
 go_enter Tryz.func143,Tryz.ntmps143
 go_wp2_with fail
 refine HI.out.mono ?_
 rintro e w2 ⟨i,rfl,hi,hb2⟩
 clear HI
 have HH:=Lib.hid hi
 clear hi
 go_wp2
 go_ret
 refine ⟨?_,hb2⟩
 by_cases h0:0≤i
 ·rw [HH.out.1 h0];simp [h0]
 ·have:b=false:=by
   cases b with
   | false=>rfl
   | true=>exact absurd (HH.out.2 rfl) h0
  rw [this];simp [h0]
theorem owns_set3 {w:World} {B e sz n b:Nat} {v:Value} {xs:List Value} {t:TypeId} {cs:Array Value} (h:w.ownsRow B e sz v n xs) (kb:Bk w b t cs) (ht:e ≠ t) (x y z:Value):(((w.setCell ⟨b,0,none⟩ x).setCell ⟨b,1,none⟩ y).setCell ⟨b,2,none⟩ z).ownsRow B e sz v n xs :=
 owns_other (owns_other (owns_other h _ _ (row_blk_ne h kb ht)) ⟨b,1,none⟩ _ (row_blk_ne h kb ht)) ⟨b,2,none⟩ _ (row_blk_ne h kb ht)
theorem cg_lens {g:GrI} (h:grB g=true):0≤g.wires∧g.wires≤100∧g.edges.length≤60∧g.ins.length≤12∧g.outs.length≤12:=by
 unfold grB gfitB at h
 simp only [Bool.and_eq_true,decide_eq_true_eq,inB] at h
 omega
theorem crGs_len (g:GrI):(crGs g).length≤g.ins.length+g.edges.length:=by
 unfold crGs gtE
 rw [List.length_append,inGs_len,List.length_map]
 have:=List.length_filter_le isGt g.edges
 omega
theorem cogI_any (p:Int) (ve vi vo:Value) (g:GrI) (w:World) (ht:PrimeTab w) (hR:GrR w ve vi vo g) (hok:GrOk g) :
  Calls Tryz.prog 70 #[.int .i64 p,.agg #[.int .i64 g.wires,ve,vi,vo]] w (CogP p g w):=by
 obtain ⟨⟨ae,ce,rfl⟩,⟨ai,ci,rfl⟩,ao,co,rfl⟩:=hR.slices
 have hA:=alloc_below w (.cells #[.int .i64 g.wires,.slice ae g.edges.length ce,.slice ai g.ins.length ci,.slice ao g.outs.length co] 53)
 have hA2:=alloc_below (w.alloc (.cells #[.int .i64 g.wires,.slice ae g.edges.length ce,.slice ai g.ins.length ci,.slice ao g.outs.length co] 53)) (.cells #[.int .i64 0,.slice none 0 0,.slice none 0 0] 112)
 have kG:=(Bk.new w 53 #[.int .i64 g.wires,.slice ae g.edges.length ce,.slice ai g.ins.length ci,.slice ao g.outs.length co]).keep hA2
 have kZ:=Bk.new (w.alloc (.cells #[.int .i64 g.wires,.slice ae g.edges.length ce,.slice ai g.ins.length ci,.slice ao g.outs.length co] 53)) 112 #[.int .i64 0,.slice none 0 0,.slice none 0 0]
 rw [World.size_alloc] at kZ
 have hB:=hA.trans (hA2.mono hA.size)
 clear hA hA2
 have HR:=Lib.hid hR
 have HOK:=Lib.hid hok
 clear hR hok
 have HT:=Lib.hid ht
 clear ht
 have HB:Hid True:=Lib.hid trivial
 go_enter Tryz.func70,Tryz.ntmps70
 go_wp2_with fail
 generalize ((w.alloc (.cells #[.int .i64 g.wires,.slice ae g.edges.length ce,.slice ai g.ins.length ci,.slice ao g.outs.length co] 53)).alloc (.cells #[.int .i64 0,.slice none 0 0,.slice none 0 0] 112))=u0 at *
 refine (isGraphOver_any p _ _ _ g u0 (HT.out.keep hB) (HR.out.keep hB) HOK.out).mono ?_
 rintro e w1 ⟨rfl,hb1⟩
 replace kG:=kG.keep hb1
 replace kZ:=kZ.keep hb1
 replace hB:=hB.trans (hb1.mono hB.size)
 obtain ⟨x0,xf,xz⟩:=kG.cell
 have x1:=x0 1
 have x2:=x0 2
 have x3:=x0 3
 have x0:=x0 0
 obtain ⟨y0,yf,yz⟩:=kZ.cell
 have y1:=y0 1
 have y2:=y0 2
 have y0:=y0 0
 simp only [List.getElem?_toArray,List.getElem?_cons_zero,List.getElem?_cons_succ] at x0 x1 x2 x3 y0 y1 y2
 cases h1:(primeB p && (grB g && overB p g)) with
 | false =>
  have HE:Hid (cogB p g=false):=Lib.hid (by unfold cogB;rw [h1];rfl)
  clear HB
  go_wp2
  refine bodyPost_ret (v:=.tuple #[.agg #[.int .i64 0,.slice none 0 0,.slice none 0 0],.bool false]) (by simp [results,Tryz.results70,go_sem,y0,y1,y2,yf,yz]) rfl ?_
  exact CogP.no HE.out (((hB.setCell (by simp) _).setCell (by simp) _).setCell (by simp) _)
 | true =>
 have hgr:grB g=true:=by simp only [Bool.and_eq_true] at h1;exact h1.2.1
 have hgl:0≤g.wires∧g.wires≤100∧g.edges.length≤60∧g.ins.length≤12∧g.outs.length≤12:=cg_lens hgr
 have hlen2:∀ e ∈ g.edges,e.ins.length≤1000∧e.outs.length≤1000:=fun e he=>by have:=ed_len2 (cg_edB hgr e he);omega
 go_wp2_with fail
 refine (isMonogamous_any _ _ _ g w1 (HR.out.keep hB) HOK.out).mono ?_
 rintro e w2 ⟨rfl,hb2⟩
 rw [hgr,Bool.true_and]
 clear x0 x1 x2 x3 y0 y1 y2 xf yf xz yz
 replace kG:=kG.keep hb2
 replace kZ:=kZ.keep hb2
 replace hB:=hB.trans (hb2.mono hB.size)
 obtain ⟨x0,xf,xz⟩:=kG.cell
 have x1:=x0 1
 have x2:=x0 2
 have x3:=x0 3
 have x0:=x0 0
 obtain ⟨y0,yf,yz⟩:=kZ.cell
 have y1:=y0 1
 have y2:=y0 2
 have y0:=y0 0
 simp only [List.getElem?_toArray,List.getElem?_cons_zero,List.getElem?_cons_succ] at x0 x1 x2 x3 y0 y1 y2
 cases h2:monoB g with
 | false =>
  have HE:Hid (cogB p g=false):=Lib.hid (by unfold cogB;rw [h1,h2];rfl)
  clear HB
  go_wp2
  refine bodyPost_ret (v:=.tuple #[.agg #[.int .i64 0,.slice none 0 0,.slice none 0 0],.bool false]) (by simp [results,Tryz.results70,go_sem,y0,y1,y2,yf,yz]) rfl ?_
  exact CogP.no HE.out (((hB.setCell (by simp) _).setCell (by simp) _).setCell (by simp) _)
 | true =>
 go_wp2_with fail
 refine (leadsBack_any g.wires _ _ _ g.edges w2 (HR.out.keep hB).ed (by omega) hlen2).mono ?_
 rintro e w3 ⟨rfl,hb3⟩
 clear x0 x1 x2 x3 y0 y1 y2 xf yf xz yz
 replace kG:=kG.keep hb3
 replace kZ:=kZ.keep hb3
 replace hB:=hB.trans (hb3.mono hB.size)
 obtain ⟨x0,xf,xz⟩:=kG.cell
 have x1:=x0 1
 have x2:=x0 2
 have x3:=x0 3
 have x0:=x0 0
 obtain ⟨y0,yf,yz⟩:=kZ.cell
 have y1:=y0 1
 have y2:=y0 2
 have y0:=y0 0
 simp only [List.getElem?_toArray,List.getElem?_cons_zero,List.getElem?_cons_succ] at x0 x1 x2 x3 y0 y1 y2
 cases h3:acyB (cutE g.edges) with
 | false =>
  have HE:Hid (cogB p g=false):=Lib.hid (by unfold cogB;rw [h1,h2,h3];rfl)
  clear HB
  go_wp2
  refine bodyPost_ret (v:=.tuple #[.agg #[.int .i64 0,.slice none 0 0,.slice none 0 0],.bool false]) (by simp [results,Tryz.results70,go_sem,y0,y1,y2,yf,yz]) rfl ?_
  exact CogP.no HE.out (((hB.setCell (by simp) _).setCell (by simp) _).setCell (by simp) _)
 | true =>
 go_wp2_with fail
 refine (containsE_any _ g.edges w3 (HR.out.keep hB).ed (by omega)).mono ?_
 rintro e w4 ⟨rfl,hb4⟩
 clear x0 x1 x2 x3 y0 y1 y2 xf yf xz yz
 replace kG:=kG.keep hb4
 replace kZ:=kZ.keep hb4
 replace hB:=hB.trans (hb4.mono hB.size)
 obtain ⟨x0,xf,xz⟩:=kG.cell
 have x1:=x0 1
 have x2:=x0 2
 have x3:=x0 3
 have x0:=x0 0
 obtain ⟨y0,yf,yz⟩:=kZ.cell
 have y1:=y0 1
 have y2:=y0 2
 have y0:=y0 0
 simp only [List.getElem?_toArray,List.getElem?_cons_zero,List.getElem?_cons_succ] at x0 x1 x2 x3 y0 y1 y2
 cases h4:smallE g.edges with
 | false =>
  have HE:Hid (cogB p g=false):=Lib.hid (by unfold cogB;rw [h1,h2,h3,h4];rfl)
  clear HB
  go_wp2
  refine bodyPost_ret (v:=.tuple #[.agg #[.int .i64 0,.slice none 0 0,.slice none 0 0],.bool false]) (by simp [results,Tryz.results70,go_sem,y0,y1,y2,yf,yz]) rfl ?_
  exact CogP.no HE.out (((hB.setCell (by simp) _).setCell (by simp) _).setCell (by simp) _)
 | true =>
 have hcg:=cgOk_of h1 h2 h3 h4
 go_wp2_with fail
 refine (circuit_any g hcg _ _ _ w4 (HR.out.keep hB).ed (HR.out.keep hB).inn (HR.out.keep hB).out (by omega) (by omega) (by omega) (by omega)).mono ?_
 clear x0 x1 x2 x3 y0 y1 y2 xf yf xz yz
 rintro e w6 ⟨a,c,oa,oc,rfl,hgt,hin,hb6⟩
 replace kG:=kG.keep hb6
 replace kZ:=kZ.keep hb6
 replace hB:=hB.trans (hb6.mono hB.size)
 have HV:=Lib.hid (validCircuit_any p g.ins.length a oa c oc (crGs g) (crOs g) w6 (HT.out.keep hB) hgt.at hin.at (by have:=crGs_len g;omega) (by simp [crOs];omega))
 have hgt0:=hgt
 have hin0:=hin
 clear hgt hin
 go_wp2_with fail
 refine HV.out.mono ?_
 rintro e w7 ⟨rfl,hb7⟩
 replace kG:=kG.keep hb7
 replace kZ:=kZ.keep hb7
 replace hB:=hB.trans (hb7.mono hB.size)
 obtain ⟨x0,xf,xz⟩:=kG.cell
 have x1:=x0 1
 have x2:=x0 2
 have x3:=x0 3
 have x0:=x0 0
 obtain ⟨y0,yf,yz⟩:=kZ.cell
 have y1:=y0 1
 have y2:=y0 2
 have y0:=y0 0
 simp only [List.getElem?_toArray,List.getElem?_cons_zero,List.getElem?_cons_succ] at x0 x1 x2 x3 y0 y1 y2
 have HGT:=Lib.hid (And.intro (hgt0.keep hb7) (hin0.keep hb7))
 clear HV hgt0 hin0
 cases hcb:circB p g.ins.length (crGs g) (crOs g) with
 | true =>
  simp only [ciV]
  have HE:Hid (cogB p g=true):=Lib.hid (by unfold cogB;rw [h1,h2,h3,h4,hcb];rfl)
  clear hcb HB
  go_wp2
  refine bodyPost_ret (v:=.tuple #[.agg #[.int .i64 g.ins.length,.slice a (crGs g).length c,.slice oa (crOs g).length oc],.bool true]) (by simp [results,Tryz.results70,go_sem,y0,y1,y2,yf,yz]) rfl ?_
  have hk:=kZ
  refine ⟨_,by rw [HE.out],((hB.setCell (by simp) _).setCell (by simp) _).setCell (by simp) _,fun hf=>(by rw [HE.out] at hf;cases hf),fun _=>⟨a,c,oa,oc,rfl,?_,?_⟩⟩
  ·exact GRw.at (show GRw _ w4.heap.size _ _ from owns_set3 HGT.out.1 hk (by decide) _ _ _)
  ·exact Rw.at (show Rw _ w4.heap.size _ _ from owns_set3 HGT.out.2 hk (by decide) _ _ _)
 | false =>
  simp only [ciV]
  have HE:Hid (cogB p g=false):=Lib.hid (by unfold cogB;rw [h1,h2,h3,h4,hcb];rfl)
  clear hcb HB
  go_wp2
  refine bodyPost_ret (v:=.tuple #[.agg #[.int .i64 0,.slice none 0 0,.slice none 0 0],.bool false]) (by simp [results,Tryz.results70,go_sem,y0,y1,y2,yf,yz]) rfl ?_
  exact CogP.no HE.out (((hB.setCell (by simp) _).setCell (by simp) _).setCell (by simp) _)
theorem cogS_any (p:Int) (ve vi vo:Value) (g:GrI) (w:World) (hR:GrR w ve vi vo g) (hok:GrOk g) :
  Calls Tryz.prog 66 #[.int .i64 p,.agg #[.int .i64 g.wires,ve,vi,vo]] w (CogP p g w):=by
 obtain ⟨⟨ae,ce,rfl⟩,⟨ai,ci,rfl⟩,ao,co,rfl⟩:=hR.slices
 have hA:=alloc_below w (.cells #[.int .i64 g.wires,.slice ae g.edges.length ce,.slice ai g.ins.length ci,.slice ao g.outs.length co] 53)
 have hA2:=alloc_below (w.alloc (.cells #[.int .i64 g.wires,.slice ae g.edges.length ce,.slice ai g.ins.length ci,.slice ao g.outs.length co] 53)) (.cells #[.int .i64 0,.slice none 0 0,.slice none 0 0] 112)
 have kG:=(Bk.new w 53 #[.int .i64 g.wires,.slice ae g.edges.length ce,.slice ai g.ins.length ci,.slice ao g.outs.length co]).keep hA2
 have kZ:=Bk.new (w.alloc (.cells #[.int .i64 g.wires,.slice ae g.edges.length ce,.slice ai g.ins.length ci,.slice ao g.outs.length co] 53)) 112 #[.int .i64 0,.slice none 0 0,.slice none 0 0]
 rw [World.size_alloc] at kZ
 have hB:=hA.trans (hA2.mono hA.size)
 clear hA hA2
 have HR:=Lib.hid hR
 have HOK:=Lib.hid hok
 clear hR hok
 have HB:Hid True:=Lib.hid trivial
 go_enter Tryz.func66,Tryz.ntmps66
 go_wp2_with fail
 generalize ((w.alloc (.cells #[.int .i64 g.wires,.slice ae g.edges.length ce,.slice ai g.ins.length ci,.slice ao g.outs.length co] 53)).alloc (.cells #[.int .i64 0,.slice none 0 0,.slice none 0 0] 112))=u0 at *
 refine (hgGood_any hgValid_any p _ _ _ g u0 (HR.out.keep hB) HOK.out).mono ?_
 rintro e w1 ⟨rfl,hb1⟩
 replace kG:=kG.keep hb1
 replace kZ:=kZ.keep hb1
 replace hB:=hB.trans (hb1.mono hB.size)
 obtain ⟨x0,xf,xz⟩:=kG.cell
 have x1:=x0 1
 have x2:=x0 2
 have x3:=x0 3
 have x0:=x0 0
 obtain ⟨y0,yf,yz⟩:=kZ.cell
 have y1:=y0 1
 have y2:=y0 2
 have y0:=y0 0
 simp only [List.getElem?_toArray,List.getElem?_cons_zero,List.getElem?_cons_succ] at x0 x1 x2 x3 y0 y1 y2
 cases h1:(primeB p && (grB g && overB p g)) with
 | false =>
  have HE:Hid (cogB p g=false):=Lib.hid (by unfold cogB;rw [h1];rfl)
  clear HB
  go_wp2
  refine bodyPost_ret (v:=.tuple #[.agg #[.int .i64 0,.slice none 0 0,.slice none 0 0],.bool false]) (by simp [results,Tryz.results66,go_sem,y0,y1,y2,yf,yz]) rfl ?_
  exact CogP.no HE.out (((hB.setCell (by simp) _).setCell (by simp) _).setCell (by simp) _)
 | true =>
 have hgr:grB g=true:=by simp only [Bool.and_eq_true] at h1;exact h1.2.1
 have hgl:0≤g.wires∧g.wires≤100∧g.edges.length≤60∧g.ins.length≤12∧g.outs.length≤12:=cg_lens hgr
 have hlen2:∀ e ∈ g.edges,e.ins.length≤1000∧e.outs.length≤1000:=fun e he=>by have:=ed_len2 (cg_edB hgr e he);omega
 go_wp2_with fail
 refine (hgM_any _ _ _ g w1 (HR.out.keep hB) HOK.out hgr).mono ?_
 rintro e w2 ⟨rfl,hb2⟩
 clear x0 x1 x2 x3 y0 y1 y2 xf yf xz yz
 replace kG:=kG.keep hb2
 replace kZ:=kZ.keep hb2
 replace hB:=hB.trans (hb2.mono hB.size)
 obtain ⟨x0,xf,xz⟩:=kG.cell
 have x1:=x0 1
 have x2:=x0 2
 have x3:=x0 3
 have x0:=x0 0
 obtain ⟨y0,yf,yz⟩:=kZ.cell
 have y1:=y0 1
 have y2:=y0 2
 have y0:=y0 0
 simp only [List.getElem?_toArray,List.getElem?_cons_zero,List.getElem?_cons_succ] at x0 x1 x2 x3 y0 y1 y2
 cases h2:monoB g with
 | false =>
  have HE:Hid (cogB p g=false):=Lib.hid (by unfold cogB;rw [h1,h2];rfl)
  clear HB
  go_wp2
  refine bodyPost_ret (v:=.tuple #[.agg #[.int .i64 0,.slice none 0 0,.slice none 0 0],.bool false]) (by simp [results,Tryz.results66,go_sem,y0,y1,y2,yf,yz]) rfl ?_
  exact CogP.no HE.out (((hB.setCell (by simp) _).setCell (by simp) _).setCell (by simp) _)
 | true =>
 have hedw:=(HR.out.keep hB).ed
 obtain ⟨ae2,ce2,eq2,hce,hat⟩:=hedw
 simp only [Value.slice.injEq,true_and] at eq2
 obtain ⟨rfl,rfl⟩:=eq2
 go_wp2_with fail
 clear x0 x1 x2 x3 y0 y1 y2 xf yf xz yz
 go_loopw [21] (fun i wr=>∃ k:Nat,k≤g.edges.length∧i=.int .i64 k∧Below w2.heap.size w2 wr∧∀ j,∀ h:j<g.edges.length,j<k → decide (8<(g.edges[j]'h).kind)=false) (fun i _=>g.edges.length - (intOf i).toNat)
 case atStart=>exact ⟨0,Nat.zero_le _,rfl,Below.refl _ _,fun j h1 h2=>by omega⟩
 case round =>
 obtain ⟨k,hk,rfl,hbel,hall⟩:=hrel
 replace kG:=kG.keep hbel
 replace kZ:=kZ.keep hbel
 replace hB:=hB.trans (hbel.mono hB.size)
 obtain ⟨x0,xf,xz⟩:=kG.cell
 have x1:=x0 1
 have x2:=x0 2
 have x3:=x0 3
 have x0:=x0 0
 obtain ⟨y0,yf,yz⟩:=kZ.cell
 have y1:=y0 1
 have y2:=y0 2
 have y0:=y0 0
 simp only [List.getElem?_toArray,List.getElem?_cons_zero,List.getElem?_cons_succ] at x0 x1 x2 x3 y0 y1 y2
 have HALL:=Lib.hid hall
 clear hall
 by_cases hlk:k<g.edges.length
 ·obtain ⟨b,o,rfl,_,c0,c1,wi,wo,c2,c3,hei,heo⟩:=hat k hlk
  obtain ⟨ia,ic,rfl⟩:=hei.slice
  obtain ⟨oa,oc,rfl⟩:=heo.slice
  replace c0:=cell_keep hbel c0
  replace c1:=cell_keep hbel c1
  replace c2:=cell_keep hbel c2
  replace c3:=cell_keep hbel c3
  have bz:=cell_lt c0
  have hA3:=alloc_below wr (.cells #[.int .i64 g.edges[k].kind,.int .i64 g.edges[k].value,.slice ia g.edges[k].ins.length ic,.slice oa g.edges[k].outs.length oc] 189)
  have hmem:=List.getElem_mem hlk
  by_cases h8:8<g.edges[k].kind
  ·have h4:smallE g.edges=false:=by
    unfold smallE
    rw [List.any_eq_true.2 ⟨_,hmem,by simpa using h8⟩]
    rfl
   have HE:Hid (cogB p g=false):=Lib.hid (by unfold cogB;rw [h1,h2,h4];simp)
   generalize g.edges[k]=e at *
   clear HB hat h4 hei heo hmem
   go_wp2
   refine bodyPost_ret (v:=.tuple #[.agg #[.int .i64 0,.slice none 0 0,.slice none 0 0],.bool false]) (by simp [results,Tryz.results66,go_sem,y0,y1,y2,yf,yz]) rfl ?_
   have hS:=((hB.setCell (p:=⟨w.heap.size+1,0,none⟩) (by simp) (.int .i64 0)).setCell (p:=⟨w.heap.size+1,1,none⟩) (by simp) (.slice none 0 0)).setCell (p:=⟨w.heap.size+1,2,none⟩) (by simp) (.slice none 0 0)
   exact CogP.no HE.out (hS.trans ((alloc_below _ _).mono hS.size))
  ·have HB8:=Lib.hid (show decide (8<g.edges[k].kind)=false by simpa using h8)
   have hbel2:=hbel.trans (hA3.mono hbel.size)
   clear hat hei heo hmem
   go_wp2
   go_roundw
   case rel=>exact ⟨k+1,by omega,by go_num,hbel2,fun j h1 h2=>by
    rcases Nat.lt_or_ge j k with h|h
    ·exact HALL.out j h1 h
    ·obtain rfl:j=k:=by omega
     exact HB8.out⟩
   case measure=>simp [intOf];omega
 obtain rfl:k=g.edges.length:=by omega
 have h4:smallE g.edges=true:=by
  unfold smallE
  rw [List.any_eq_false.2 fun e he=>by obtain ⟨j,hj,rfl⟩:=List.mem_iff_getElem.1 he;rw [HALL.out j hj hj];simp]
  rfl
 clear hat HALL
 go_wp2_with fail
 refine (crTimed_any g.wires _ _ _ g.edges g.ins g.outs wr (HR.out.keep hB).ed (HR.out.keep hB).inn (HR.out.keep hB).out (by omega) hlen2).mono ?_
 rintro e w3 ⟨rfl,hb3⟩
 clear x0 x1 x2 x3 y0 y1 y2 xf yf xz yz
 replace kG:=kG.keep hb3
 replace kZ:=kZ.keep hb3
 replace hB:=hB.trans (hb3.mono hB.size)
 obtain ⟨x0,xf,xz⟩:=kG.cell
 have x1:=x0 1
 have x2:=x0 2
 have x3:=x0 3
 have x0:=x0 0
 obtain ⟨y0,yf,yz⟩:=kZ.cell
 have y1:=y0 1
 have y2:=y0 2
 have y0:=y0 0
 simp only [List.getElem?_toArray,List.getElem?_cons_zero,List.getElem?_cons_succ] at x0 x1 x2 x3 y0 y1 y2
 cases h3:acyB (cutE g.edges) with
 | false =>
  have HE:Hid (cogB p g=false):=Lib.hid (by unfold cogB;rw [h1,h2,h3];rfl)
  clear HB
  go_wp2
  refine bodyPost_ret (v:=.tuple #[.agg #[.int .i64 0,.slice none 0 0,.slice none 0 0],.bool false]) (by simp [results,Tryz.results66,go_sem,y0,y1,y2,yf,yz]) rfl ?_
  exact CogP.no HE.out (((hB.setCell (by simp) _).setCell (by simp) _).setCell (by simp) _)
 | true =>
 have hcg:=cgOk_of h1 h2 h3 h4
 go_wp2_with fail
 refine (crOf_any g hcg _ _ _ w3 (HR.out.keep hB).ed (HR.out.keep hB).inn (HR.out.keep hB).out (by omega) (by omega) (by omega) (by omega)).mono ?_
 clear x0 x1 x2 x3 y0 y1 y2 xf yf xz yz
 rintro e w6 ⟨a,c,oa,oc,rfl,hgt,hin,hb6⟩
 replace kG:=kG.keep hb6
 replace kZ:=kZ.keep hb6
 replace hB:=hB.trans (hb6.mono hB.size)
 have HV:=Lib.hid (crIf_any p g.ins.length a oa c oc (crGs g) (crOs g) w6 hgt.at hin.at (by have:=crGs_len g;omega) (by simp [crOs];omega))
 have hgt0:=hgt
 have hin0:=hin
 clear hgt hin
 go_wp2_with fail
 refine HV.out.mono ?_
 rintro e w7 ⟨rfl,hb7⟩
 replace kG:=kG.keep hb7
 replace kZ:=kZ.keep hb7
 replace hB:=hB.trans (hb7.mono hB.size)
 obtain ⟨x0,xf,xz⟩:=kG.cell
 have x1:=x0 1
 have x2:=x0 2
 have x3:=x0 3
 have x0:=x0 0
 obtain ⟨y0,yf,yz⟩:=kZ.cell
 have y1:=y0 1
 have y2:=y0 2
 have y0:=y0 0
 simp only [List.getElem?_toArray,List.getElem?_cons_zero,List.getElem?_cons_succ] at x0 x1 x2 x3 y0 y1 y2
 have HGT:=Lib.hid (And.intro (hgt0.keep hb7) (hin0.keep hb7))
 clear HV hgt0 hin0
 cases hcb:circB p g.ins.length (crGs g) (crOs g) with
 | true =>
  simp only [ciV]
  have HE:Hid (cogB p g=true):=Lib.hid (by unfold cogB;rw [h1,h2,h3,h4,hcb];rfl)
  clear hcb HB
  go_wp2
  refine bodyPost_ret (v:=.tuple #[.agg #[.int .i64 g.ins.length,.slice a (crGs g).length c,.slice oa (crOs g).length oc],.bool true]) (by simp [results,Tryz.results66,go_sem,y0,y1,y2,yf,yz]) rfl ?_
  have hk:=kZ
  refine ⟨_,by rw [HE.out],((hB.setCell (by simp) _).setCell (by simp) _).setCell (by simp) _,fun hf=>(by rw [HE.out] at hf;cases hf),fun _=>⟨a,c,oa,oc,rfl,?_,?_⟩⟩
  ·exact GRw.at (show GRw _ w3.heap.size _ _ from owns_set3 HGT.out.1 hk (by decide) _ _ _)
  ·exact Rw.at (show Rw _ w3.heap.size _ _ from owns_set3 HGT.out.2 hk (by decide) _ _ _)
 | false =>
  simp only [ciV]
  have HE:Hid (cogB p g=false):=Lib.hid (by unfold cogB;rw [h1,h2,h3,h4,hcb];rfl)
  clear hcb HB
  go_wp2
  refine bodyPost_ret (v:=.tuple #[.agg #[.int .i64 0,.slice none 0 0,.slice none 0 0],.bool false]) (by simp [results,Tryz.results66,go_sem,y0,y1,y2,yf,yz]) rfl ?_
  exact CogP.no HE.out (((hB.setCell (by simp) _).setCell (by simp) _).setCell (by simp) _)
end Go.Proofs.YtbljmfcifljkaaaGreatDoor
