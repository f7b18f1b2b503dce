/-
  Valid graphs, the reference's hgValid and hgMono: walked. Own work.
-/
import Derived.Test.YtbljmfcifljkaaaGreatDoorXBI
import Derived.Test.YtbljmfcifljkaaaGreatDoorXBJ
import Derived.BigQuiet
set_option linter.all false
set_option maxRecDepth 100000
set_option maxHeartbeats 8000000
namespace Go.Proofs.YtbljmfcifljkaaaGreatDoor
open Go.RowKit
set_option maxRecDepth 100000
set_option maxHeartbeats 4000000
theorem hgEdB_len {e:EdI} {n:Int} (h:hgEdB e n=true):e.ins.length≤2∧e.outs.length≤2:=by
 unfold hgEdB at h
 rw [Bool.and_eq_true] at h
 exact edB_len h.1
theorem flat_le2 {α β:Type} (f:α → List β):∀ l:List α,(∀ x ∈ l,(f x).length≤2) → (l.flatMap f).length≤2 * l.length
 | [],_=>by simp
 | x :: l,h=>by
  have h1:=h x (by simp)
  have h2:=flat_le2 f l (fun y hy=>h y (by simp [hy]))
  rw [List.flatMap_cons,List.length_append,List.length_cons]
  omega
theorem lens_of {g:GrI} (h1:g.edges.length≤60) (h2:g.ins.length≤12) (h3:g.outs.length≤12) (he:∀ e ∈ g.edges,e.ins.length≤2∧e.outs.length≤2):g.origs.length≤1000000∧g.dests.length≤1000000:=by
 unfold GrI.origs GrI.dests
 have a:=flat_le2 EdI.outs g.edges (fun e h=>(he e h).2)
 have b:=flat_le2 EdI.ins g.edges (fun e h=>(he e h).1)
 rw [List.length_append,List.length_append]
 omega
theorem gr_lens {g:GrI} (h:grB g=true):g.origs.length≤1000000∧g.dests.length≤1000000:=by
 unfold grB gfitB at h
 simp only [Bool.and_eq_true,decide_eq_true_eq] at h
 obtain ⟨⟨h1,h2,h3,h4⟩,h5,-⟩:=h
 exact lens_of h2 h3 h4 (fun e he=>edB_len (List.all_eq_true.1 h5 e he))
theorem hgM_any:HgM:=by
 intro ve vi vo g u hR hok hg
 obtain ⟨⟨ae,ce,rfl⟩,⟨ai,ci,rfl⟩,ao,co,rfl⟩:=hR.slices
 obtain ⟨h1,h2⟩:=gr_range hg
 obtain ⟨h3,h4⟩:=gr_lens hg
 exact hgMono_any g ae ai ao ce ci co u hg fun u' hb=>hgCounts_any g _ _ _ _ _ _ u' (hR.keep hb) hok ⟨h1.1,by omega⟩ h2 h3 h4
theorem hgB_fit {g:GrI} (h:¬ (inB g.wires 0 100=true∧g.edges.length≤60∧g.ins.length≤12∧g.outs.length≤12∧inG g.wires g.ins=true∧inG g.wires g.outs=true)):grB g=false:=by
 rw [grB_hg]
 unfold hgFitB gfitB
 rw [Bool.and_eq_false_imp]
 intro h2
 simp only [Bool.and_eq_true,decide_eq_true_eq] at h2
 exact absurd ⟨h2.1.1,h2.1.2.1,h2.1.2.2.1,h2.1.2.2.2,h2.2.1,h2.2.2⟩ h
theorem hgB_ed {g:GrI} {k:Nat} (hk:k<g.edges.length) (h:hgEdB g.edges[k] g.wires=false):grB g=false:=by
 rw [grB_hg]
 have:(g.edges.all fun e=>hgEdB e g.wires)=false:=List.all_eq_false.2 ⟨_,List.getElem_mem hk,by simp [h]⟩
 rw [this];simp
theorem hgB_rest {g:GrI} (h:inB g.wires 0 100=true∧g.edges.length≤60∧g.ins.length≤12∧g.outs.length≤12∧inG g.wires g.ins=true∧inG g.wires g.outs=true) (he:∀ j,∀ h:j<g.edges.length,hgEdB (g.edges[j]'h) g.wires=true):grB g=allG g:=by
 rw [grB_hg]
 unfold hgFitB gfitB
 have h2:(g.edges.all fun e=>hgEdB e g.wires)=true:=List.all_eq_true.2 fun e hm=>by obtain ⟨j,hj,rfl⟩:=List.mem_iff_getElem.1 hm;exact he j hj
 rw [h2,h.1,decide_eq_true h.2.1,decide_eq_true h.2.2.1,decide_eq_true h.2.2.2.1,h.2.2.2.2.1,h.2.2.2.2.2]
 rfl
theorem places_in {g:GrI} (h1:inG g.wires g.ins=true) (h2:inG g.wires g.outs=true) (he:∀ j,∀ h:j<g.edges.length,hgEdB (g.edges[j]'h) g.wires=true):∀ x ∈ g.places,0≤x∧x<g.wires:=by
 refine (inG_iff _ _).1 ?_
 unfold GrI.places
 rw [inG_append,inG_append,inG_flat,h1,h2]
 have h3:(g.edges.all fun e=>inG g.wires e.ins && inG g.wires e.outs)=true:=List.all_eq_true.2 fun e hm=>by
  obtain ⟨j,hj,rfl⟩:=List.mem_iff_getElem.1 hm
  have:=he j hj
  unfold hgEdB at this
  rw [Bool.and_eq_true] at this
  exact this.2
 rw [h3];rfl
theorem cn_at {w:World} {v:Value} {n:Nat} {l:List Int} (h:IntsAt w v (cnW n l)):∃ a c,v=.slice a n c∧n≤c∧∀ i,i<n → ∃ b o,a=some ⟨b,o,none⟩∧w.cell? ⟨b,o+i,none⟩=some (.int .i64 (l.count (i:Int):Int)):=by
 obtain ⟨a,c,hv,hc,hat⟩:=h
 rw [cnW_length] at hv hc
 refine ⟨a,c,hv,hc,fun i hi=>?_⟩
 obtain ⟨b,o,e,hl,hcell⟩:=hat i (by rw [cnW_length];exact hi)
 rw [cnW_get,Nat.mul_one] at hcell
 exact ⟨b,o,e,hcell⟩
theorem allG_no {g:GrI} {k:Nat} (hk:(k:Int)<g.wires) (h:(g.origs.count (k:Int):Int)+(g.dests.count (k:Int):Int)=0):allG g=false:=by
 cases hg:allG g with
 | false=>rfl
 | true=>exact absurd h ((allG_counts g).1 hg k hk)
theorem hgValid_any:HgV:=by
 intro ve vi vo g w hR hok
 obtain ⟨⟨ae,ce,rfl⟩,⟨ai,ci,rfl⟩,ao,co,rfl⟩:=hR.slices
 have hA:=alloc_below w (.cells #[.int .i64 g.wires,.slice ae g.edges.length ce,.slice ai g.ins.length ci,.slice ao g.outs.length co] 53)
 have hi0:=hR.inn.keep hA
 have ho0:=hR.out.keep hA
 obtain ⟨b1,hb1⟩:∃ b,allB 0 (g.wires - 1) g.ins=b:=⟨_,rfl⟩
 obtain ⟨b2,hb2⟩:∃ b,allB 0 (g.wires - 1) g.outs=b:=⟨_,rfl⟩
 by_cases hfit:inB g.wires 0 100=true∧g.edges.length≤60∧g.ins.length≤12∧g.outs.length≤12∧inG g.wires g.ins=true∧inG g.wires g.outs=true
 ·have h1:=hfit.1
  have n0:0≤g.wires∧g.wires≤100:=by simpa [inB] using h1
  have n2:¬ (60:Int)<g.edges.length:=by omega
  have n3:¬ (12:Int)<g.ins.length:=by omega
  have n4:¬ (12:Int)<g.outs.length:=by omega
  have hw1:IntKind.i64.wrap (g.wires - 1)=g.wires - 1:=IntWalk.i64_in _ (by omega)
  have e1:b1=true:=by rw [← hb1,allB_inG];exact hfit.2.2.2.2.1
  have e2:b2=true:=by rw [← hb2,allB_inG];exact hfit.2.2.2.2.2
  subst e1 e2
  have HB1:=Lib.hid hb1
  have HB2:=Lib.hid hb2
  have HF:=Lib.hid (And.intro h1 True.intro)
  have HFIT:=Lib.hid hfit
  clear h1 hfit hb1 hb2
  have hN:∃ n:Int,g.wires=n:=⟨_,rfl⟩
  go_enter Tryz.func196,Tryz.ntmps196
  go_wp2_with (first|(go_at_call 80;refine (l1In_any _ _ _ _).mono ?_;rintro r w2 ⟨rfl,rfl⟩;rw [HF.out.1])|(go_at_call 198;refine (l1All_any _ _ _ _ _ (by first|exact hi0|exact ho0) (by first|exact hok.inn|exact hok.out)).mono ?_;rintro r w2 ⟨rfl,rfl⟩;first|rw [HB1.out]|rw [HB2.out]))
  have kG:=Bk.new w 53 #[.int .i64 g.wires,.slice ae g.edges.length ce,.slice ai g.ins.length ci,.slice ao g.outs.length co]
  generalize (w.alloc (.cells #[.int .i64 g.wires,.slice ae g.edges.length ce,.slice ai g.ins.length ci,.slice ao g.outs.length co] 53))=u0 at *
  clear n2 n3 n4 hi0 ho0 hw1
  obtain ⟨pe,cpe,he,hce,hat⟩:=hR.ed
  simp only [Value.slice.injEq] at he
  obtain ⟨rfl,-,rfl⟩:=he
  have hel:=hok.ed
  go_loopw [51] (fun i wr=>∃ k:Nat,k≤g.edges.length∧i=.int .i64 k∧Below u0.heap.size u0 wr∧∀ j,∀ h:j<g.edges.length,j<k → hgEdB (g.edges[j]'h) g.wires=true) (fun i _=>g.edges.length - (intOf i).toNat)
  case atStart=>exact ⟨0,Nat.zero_le _,rfl,Below.refl _ _,fun j h1 h2=>by omega⟩
  case round =>
   obtain ⟨k,hk,rfl,hbr,hall⟩:=hrel
   have HALL:=Lib.hid hall
   clear hall
   have hbw:=hA.trans (hbr.mono hA.size)
   replace kG:=kG.keep hbr
   by_cases hlt:k<g.edges.length
   ·obtain ⟨b,o,rfl,_,hnd⟩:=hat k hlt
    obtain ⟨c0,c1,x1,x2,c2,c3,hi,ho⟩:=hnd.keep hbw
    have hokE:=hok.eds _ (List.getElem_mem hlt)
    have HNO:=Lib.hid (fun h=>hgB_ed (g:=g) hlt h)
    obtain ⟨e,hee⟩:∃ e,g.edges[k]=e:=⟨_,rfl⟩
    rw [hee] at c0 c1 hi ho hokE HNO
    have HEE:=Lib.hid hee
    obtain ⟨a1,q1,rfl⟩:=hi.slice
    obtain ⟨a2,q2,rfl⟩:=ho.slice
    have bz:=cell_lt c0
    have hB2:=alloc_below wr (.cells #[.int .i64 e.kind,.int .i64 e.value,.slice a1 e.ins.length q1,.slice a2 e.outs.length q2] 189)
    have hE:=hgEdge_any e g.wires _ _ _ n0 (hi.keep hB2) (ho.keep hB2) hokE
    obtain ⟨iG,-,zG⟩:=kG.cell
    clear hee hat hnd
    cases hed:hgEdB e g.wires with
    | false =>
     have HG:=Lib.hid (HNO.out hed)
     rw [hed] at hE
     have HE:=Lib.hid hE
     clear hE hed HNO
     go_wp2_with (go_at_call 266;refine HE.out.mono ?_;rintro r w3 ⟨rfl,hb3⟩)
     go_ret
     exact ⟨by rw [HG.out];rfl,hbw.trans ((hB2.trans (hb3.mono hB2.size)).mono hbw.size)⟩
    | true =>
     have HED:=Lib.hid hed
     rw [hed] at hE
     have HE:=Lib.hid hE
     clear hE hed HNO
     go_wp2_with (go_at_call 266;refine HE.out.mono ?_;rintro r w3 ⟨rfl,hb3⟩)
     go_roundw
     case rel=>exact ⟨k+1,by omega,by go_num,hbr.trans ((hB2.trans (hb3.mono hB2.size)).mono hbr.size),fun j h1 h2=>by
      rcases Nat.lt_or_ge j k with h|h
      ·exact HALL.out j h1 h
      ·obtain rfl:j=k:=by omega
       rw [HEE.out];exact HED.out⟩
     case measure=>simp [intOf];omega
   ·obtain rfl:k=g.edges.length:=by omega
    have hall2:∀ j,∀ h:j<g.edges.length,hgEdB (g.edges[j]'h) g.wires=true:=fun j hj=>HALL.out j hj hj
    have hrest:=hgB_rest HFIT.out hall2
    have hpin:=places_in HFIT.out.2.2.2.2.1 HFIT.out.2.2.2.2.2 hall2
    have hlens:=lens_of HFIT.out.2.1 HFIT.out.2.2.1 HFIT.out.2.2.2.1 (fun e he=>by obtain ⟨j,hj,rfl⟩:=List.mem_iff_getElem.1 he;exact hgEdB_len (hall2 j hj))
    have hC:=hgCounts_any g _ _ _ _ _ _ wr (hR.keep hbw) hok ⟨n0.1,by omega⟩ hpin hlens.1 hlens.2
    have HC:=Lib.hid hC
    have HRS:=Lib.hid hrest
    have HLN:=Lib.hid hlens
    clear hat hC hrest hpin hall2 HALL hlens
    obtain ⟨iG,-,zG⟩:=kG.cell
    go_wp2_with fail
    refine HC.out.mono ?_
    rintro r w3 ⟨v1,v2,rfl,hv1,hv2,hb3⟩
    obtain ⟨n,hn⟩:∃ n:Nat,g.wires=n:=⟨g.wires.toNat,by omega⟩
    rw [show g.wires.toNat=n by omega] at hv1 hv2
    obtain ⟨p1,s1,rfl,hs1,hat1⟩:=cn_at hv1
    obtain ⟨p2,s2,rfl,hs2,hat2⟩:=cn_at hv2
    have hbw3:=hbw.trans (hb3.mono hbw.size)
    have HN:=Lib.hid hn
    have hn100:n≤100:=by omega
    clear iG zG kG hv1 hv2 hb3 hbr HC hn
    go_wp2_with fail
    go_loopw [68] (fun i wq=>∃ k:Nat,k≤n∧i=.int .i64 k∧Below w3.heap.size w3 wq∧∀ j,j<k → ¬ ((g.origs.count (j:Int):Int)+(g.dests.count (j:Int):Int)=0)) (fun i _=>n - (intOf i).toNat)
    case atStart=>exact ⟨0,Nat.zero_le _,rfl,Below.refl _ _,fun j h2=>by omega⟩
    case round =>
     obtain ⟨k,hk,rfl,hbq,hall⟩:=hrel
     have HALL:=Lib.hid hall
     clear hall
     have hbwq:=hbw3.trans (hbq.mono hbw3.size)
     by_cases hlt:k<n
     ·obtain ⟨b,o,rfl,c1⟩:=hat1 k hlt
      obtain ⟨b',o',rfl,c2⟩:=hat2 k hlt
      replace c1:=cell_keep hbq c1
      replace c2:=cell_keep hbq c2
      have z1:=cell_lt c1
      have z2:=cell_lt c2
      have l1:=cnt_le g.origs (k:Int)
      have l2:=cnt_le g.dests (k:Int)
      have HX:=Lib.hid (fun h=>allG_no (g:=g) (k:=k) (by rw [HN.out];omega) h)
      obtain ⟨x,hx⟩:∃ x,g.origs.count (k:Int)=x:=⟨_,rfl⟩
      obtain ⟨y,hy⟩:∃ y,g.dests.count (k:Int)=y:=⟨_,rfl⟩
      rw [hx] at c1 l1 HX
      rw [hy] at c2 l2 HX
      have hL:=HLN.out
      have ws:IntKind.i64.wrap ((x:Int)+y)=(x:Int)+y:=IntWalk.i64_in _ (by omega)
      have HXY:=Lib.hid (And.intro hx hy)
      clear hat1 hat2 hx hy hL l1 l2
      cases hz:((x:Int)+y == 0) with
      | true =>
       have HG:=Lib.hid (HX.out (by simpa using hz))
       clear HX
       go_wp2_with fail
       go_quiet (fail)
       go_wp2
       go_ret
       exact ⟨by rw [HRS.out,HG.out];rfl,below_drewN hbwq _⟩
      | false =>
       have HZ:=Lib.hid hz
       clear HX
       go_wp2_with fail
       go_quiet (fail)
       go_wp2
       go_roundw
       case rel=>exact ⟨k+1,by omega,by go_num,below_drewN hbq _,fun j h2=>by
        rcases Nat.lt_or_ge j k with h|h
        ·exact HALL.out j h
        ·obtain rfl:j=k:=by omega
         rw [HXY.out.1,HXY.out.2];simpa using HZ.out⟩
       case measure=>simp [intOf];omega
     ·obtain rfl:k=n:=by omega
      have hfin:allG g=true:=(allG_counts g).2 fun j hj=>HALL.out j (by rw [HN.out] at hj;omega)
      have HG:=Lib.hid hfin
      clear hfin hat1 hat2
      go_wp2
      go_ret
      exact ⟨by rw [HRS.out,HG.out];rfl,hbwq⟩
 ·have hG:=hgB_fit hfit
  have HG:=Lib.hid hG
  cases h1:inB g.wires 0 100 with
  | false =>
   have HF:=Lib.hid (And.intro h1 True.intro)
   clear h1 hfit hG hb1 hb2
   go_enter Tryz.func196,Tryz.ntmps196
   go_wp2_with (go_at_call 80;refine (l1In_any _ _ _ _).mono ?_;rintro r w2 ⟨rfl,rfl⟩;rw [HF.out.1])
   go_ret
   exact ⟨by rw [HG.out];rfl,hA⟩
  | true =>
   have n0:0≤g.wires∧g.wires≤100:=by simpa [inB] using h1
   have hw1:IntKind.i64.wrap (g.wires - 1)=g.wires - 1:=IntWalk.i64_in _ (by omega)
   have HF:=Lib.hid (And.intro h1 True.intro)
   by_cases h2:g.edges.length≤60
   ·have n2:¬ (60:Int)<g.edges.length:=by omega
    by_cases h3:g.ins.length≤12
    ·have n3:¬ (12:Int)<g.ins.length:=by omega
     by_cases h4:g.outs.length≤12
     ·have n4:¬ (12:Int)<g.outs.length:=by omega
      have h5:¬ (b1=true∧b2=true):=by
       rintro ⟨e1,e2⟩
       exact hfit ⟨h1,h2,h3,h4,by rw [← allB_inG,hb1];exact e1,by rw [← allB_inG,hb2];exact e2⟩
      have HB1:=Lib.hid hb1
      have HB2:=Lib.hid hb2
      clear h1 hfit hG h2 h3 h4 hb1 hb2
      cases b1
      ·go_enter Tryz.func196,Tryz.ntmps196
       go_wp2_with (first|(go_at_call 80;refine (l1In_any _ _ _ _).mono ?_;rintro r w2 ⟨rfl,rfl⟩;rw [HF.out.1])|(go_at_call 198;refine (l1All_any _ _ _ _ _ (by first|exact hi0|exact ho0) (by first|exact hok.inn|exact hok.out)).mono ?_;rintro r w2 ⟨rfl,rfl⟩;first|rw [HB1.out]|rw [HB2.out]))
       go_ret
       exact ⟨by rw [HG.out];rfl,hA⟩
      ·cases b2
       ·go_enter Tryz.func196,Tryz.ntmps196
        go_wp2_with (first|(go_at_call 80;refine (l1In_any _ _ _ _).mono ?_;rintro r w2 ⟨rfl,rfl⟩;rw [HF.out.1])|(go_at_call 198;refine (l1All_any _ _ _ _ _ (by first|exact hi0|exact ho0) (by first|exact hok.inn|exact hok.out)).mono ?_;rintro r w2 ⟨rfl,rfl⟩;first|rw [HB1.out]|rw [HB2.out]))
        go_ret
        exact ⟨by rw [HG.out];rfl,hA⟩
       ·exact absurd ⟨rfl,rfl⟩ h5
     ·have n4:(12:Int)<g.outs.length:=by omega
      clear h1 hfit hG h2 h3 h4 hb1 hb2
      go_enter Tryz.func196,Tryz.ntmps196
      go_wp2_with (go_at_call 80;refine (l1In_any _ _ _ _).mono ?_;rintro r w2 ⟨rfl,rfl⟩;rw [HF.out.1])
      go_ret
      exact ⟨by rw [HG.out];rfl,hA⟩
    ·have n3:(12:Int)<g.ins.length:=by omega
     clear h1 hfit hG h2 h3 hb1 hb2
     go_enter Tryz.func196,Tryz.ntmps196
     go_wp2_with (go_at_call 80;refine (l1In_any _ _ _ _).mono ?_;rintro r w2 ⟨rfl,rfl⟩;rw [HF.out.1])
     go_ret
     exact ⟨by rw [HG.out];rfl,hA⟩
   ·have n2:(60:Int)<g.edges.length:=by omega
    clear h1 hfit hG h2 hb1 hb2
    go_enter Tryz.func196,Tryz.ntmps196
    go_wp2_with (go_at_call 80;refine (l1In_any _ _ _ _).mono ?_;rintro r w2 ⟨rfl,rfl⟩;rw [HF.out.1])
    go_ret
    exact ⟨by rw [HG.out];rfl,hA⟩
end Go.Proofs.YtbljmfcifljkaaaGreatDoor
