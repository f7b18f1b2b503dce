/-
  The reference's sxPrint: the text of a term, with or without all parentheses. Own work.
-/
import Derived.Test.YtikgblkfmpecfaaGreatDoorKX
import Derived.Deep.DeepCutAuto
set_option linter.all false
set_option maxRecDepth 100000
set_option maxHeartbeats 8000000
namespace Go.Proofs.YtikgblkfmpecfaaGreatDoor
open Go.RowKit
def xCellF (full:Bool) (t:Tr):List Value:=[.string (prT full t)]
theorem xCellF_len (full:Bool) (t:Tr):(xCellF full t).length=1:=rfl
structure SxStF (full:Bool) (ns:List Nd) (w wr:World) (v5 v6:Value) (k:Nat) (st:List Tr):Prop where
 txt:wr.ownsRow w.heap.size 9 1 v5 st.length (st.flatMap (xCellF full))
 knd:wr.ownsRow w.heap.size 3 1 v6 st.length (st.flatMap kCell)
 go:Hid (treesGo ns []=treesGo (ns.drop k) st.reverse)
 bel:Below w.heap.size w wr
 len:st.length≤k
 ok:∀ t ∈ st,t.Ok
 cnt:∀ t ∈ st,t.count≤400
theorem sx_pushF {full:Bool} {ns:List Nd} {w wr:World} {v5 v6:Value} {k:Nat} {st0:List Tr} {x t:Tr} (ht:treesGo ns []=some [t]) (ho:t.Ok) (hc:t.count≤400)
  (h5:wr.ownsRow w.heap.size 9 1 v5 (st0.length+1) (st0.flatMap (xCellF full) ++ [.string (prT full x)])) (h6:wr.ownsRow w.heap.size 3 1 v6 (st0.length+1) (st0.flatMap kCell ++ [.int .i64 x.top]))
  (hgo:Hid (treesGo ns []=treesGo (ns.drop (k+1)) (x :: st0.reverse))) (hb:Below w.heap.size w wr) (hk:st0.length≤k):SxStF full ns w wr v5 v6 (k+1) (st0 ++ [x]):=by
 have hgo':treesGo ns []=treesGo (ns.drop (k+1)) (st0 ++ [x]).reverse:=by rw [List.reverse_append];exact hgo.out
 obtain ⟨q1,q2⟩:=stack_ok (hgo'.symm.trans ht) ho hc
 refine ⟨?_,?_,hgo',hb,by simp;omega,q1,q2⟩
 ·rw [List.length_append,List.flatMap_append];exact h5
 ·rw [List.length_append,List.flatMap_append];exact h6
theorem sxPrint_full (full:Bool) (v:Value) (ns:List Nd) (t:Tr) (w:World) (hv:NdsAt w v ns) (hn:ns.length≤1048576) (ht:treesGo ns []=some [t]) (ho:t.Ok) (hc4:t.count≤400)
  (hnum:∀ v w,0≤v → v≤96 → Calls Tryz.prog 106 #[.int .i64 v] w fun e w'=>e=.returned (.string (numT v))∧Below w.heap.size w w') :
  Calls Tryz.prog 45 #[.agg #[v],.bool full] w fun e w'=>e=.returned (.string (prT full t))∧Below w.heap.size w w':=by
 obtain ⟨a,cap,rfl,hc,hat⟩:=hv
 have HT:=Lib.hid ht
 have hlf:=(treesGo_ok ns [] ht (by simpa using ho)).2
 clear ht
 obtain ⟨i5,hi5,hz0,hz1,hz2⟩:=info_parts infoStr
 obtain ⟨i6,hi6,hy0,hy1,hy2⟩:=info_parts infoI64
 go_enter Tryz.func45,Tryz.ntmps45
 go_wp2
 go_loopw [5,6,18] (fun v5 v6 i wr=>∃ (k:Nat) (st:List Tr),k≤ns.length∧i=.int .i64 k∧SxStF full ns w wr v5 v6 k st) (fun _ _ i _=>ns.length - (intOf i).toNat)
 case atStart =>
  refine ⟨0,[],Nat.zero_le _,rfl,⟨by simp,.inl ⟨rfl,rfl⟩⟩,⟨by simp,.inl ⟨rfl,rfl⟩⟩,(by simp [Hid]:Hid (treesGo ns []=treesGo (ns.drop 0) ([]:List Tr).reverse)),alloc_below _ _,Nat.le_refl _,by simp,by simp⟩
 case round =>
  obtain ⟨k,st,hk,rfl,hst⟩:=hrel
  obtain ⟨hx5,hx6,hgo,hbel,hstk,hok,hcnt⟩:=hst
  have hsz:=hbel.size
  by_cases hlt:k<ns.length
  ·obtain ⟨b,o,rfl,_,hnd⟩:=hat k hlt
   obtain ⟨c0,c1,c2⟩:=hnd.keep hbel
   clear hat hnd
   have hdrop:=List.drop_eq_getElem_cons hlt
   by_cases hk1:ns[k].kind=15∨ns[k].kind=16
   ·have hlen:¬ st.length<2:=by
     intro hlen
     have h0:=hgo.out
     rw [HT.out,hdrop,treesGo_short hk1 (by simpa using hlen)] at h0
     cases h0
    obtain ⟨st0,p,q,rfl⟩:=last_two st hlen
    obtain ⟨g5,cp5,rfl,hgc5,hgm5,hgB5,hgs5⟩:=owns_some hx5 (by simp)
    obtain ⟨g6,cp6,rfl,hgc6,hgm6,hgB6,hgs6⟩:=owns_some hx6 (by simp)
    simp only [List.length_append,List.length_cons,List.length_nil,Nat.zero_add,Nat.reduceAdd] at hx5 hx6 hgc5 hgc6 hstk
    have d0:=owns_cell (xCellF_len full) hx5 st0.length 0 (by simp) (by omega)
    have d1:=owns_cell (xCellF_len full) hx5 (st0.length+1) 0 (by simp) (by omega)
    have d2:=owns_cell kCell_len hx6 st0.length 0 (by simp) (by omega)
    have d3:=owns_cell kCell_len hx6 (st0.length+1) 0 (by simp) (by omega)
    simp [xCellF,kCell] at d0 d1 d2 d3
    have hp:=hok p (by simp)
    have hq:=hok q (by simp)
    have hzp:=prT_size full p hp
    have hzq:=prT_size full q hq
    have hcp:=hcnt p (by simp)
    have hcq:=hcnt q (by simp)
    have hl0:st0.length≤1048576:=by omega
    have hg56:¬ g6=g5:=fun e=>owns_ne hx6 hx5 (by decide) g6 rfl (by rw [e];rfl)
    have hx5t:wr.ownsRow w.heap.size 9 1 (.slice (some ⟨g5,0,none⟩) st0.length cp5) st0.length (st0.flatMap (xCellF full)):=by
     have h0:=owns_take hx5 st0.length (by omega)
     rw [List.flatMap_append,List.take_left' (by have:=flat_length (xCellF_len full) st0;omega)] at h0
     exact h0
    have hx6t:wr.ownsRow w.heap.size 3 1 (.slice (some ⟨g6,0,none⟩) st0.length cp6) st0.length (st0.flatMap kCell):=by
     have h0:=owns_take hx6 st0.length (by omega)
     rw [List.flatMap_append,List.take_left' (by have:=flat_length kCell_len st0;omega)] at h0
     exact h0
    have e1:IntKind.i64.wrap ((st0.length:Int)+1)=(st0.length:Int)+1:=IntWalk.i64_in _ (by omega)
    have e2:((st0.length:Int)+1).toNat=st0.length+1:=by omega
    have e3:0≤(st0.length:Int)+1∧(st0.length:Int)+1<(st0.length:Int)+2:=by omega
    have e4:0≤(st0.length:Int)∧(st0.length:Int)<(st0.length:Int)+2:=by omega
    have e5:1≤(st0.length:Int)+2:=by omega
    have e6:0≤(st0.length:Int)∧(st0.length:Int)≤(cp6:Int):=by omega
    have e7:0≤(st0.length:Int)∧(st0.length:Int)≤(cp5:Int):=by omega
    have tp:=top_seq hp
    have tp2:=top_par hp
    have tq:=top_seq hq
    have tq2:=top_par hq
    obtain ⟨sp,hsp⟩:∃ b,p.isSeq=b:=⟨_,rfl⟩
    obtain ⟨pp,hpp⟩:∃ b,p.isPar=b:=⟨_,rfl⟩
    obtain ⟨sq,hsq⟩:∃ b,q.isSeq=b:=⟨_,rfl⟩
    obtain ⟨pq,hpq⟩:∃ b,q.isPar=b:=⟨_,rfl⟩
    rw [hsp] at tp
    rw [hpp] at tp2
    rw [hsq] at tq
    rw [hpq] at tq2
    obtain ⟨x,ca,cb,sg,hgoX,hxk,HX,hs15,hs16⟩:∃ (x:Tr) (ca cb:Bool) (sg:ByteArray),Hid (treesGo ns []=treesGo (ns.drop (k+1)) (x :: st0.reverse))∧Hid (x.top=ns[k].kind)∧Hid (prT full x=brk (prT full p) ca ++ sg ++ brk (prT full q) cb) ∧
      Hid (ns[k].kind=15 → ca=(full && (sp || pp))∧cb=(sq || full && pq)∧sg=(⟨#[32,59,32]⟩:ByteArray))∧Hid (ns[k].kind=16 → ca=(sp || full && pp)∧cb=(sq || pq)∧sg=(⟨#[32,42,32]⟩:ByteArray)):=by
     rcases hk1 with h|h
     ·exact ⟨.seq p q,_,_,_,(show _=_ by rw [hgo.out,hdrop,show (st0 ++ [p,q]).reverse=q :: p :: st0.reverse by simp,treesGo_seq h]),(show _=_ by rw [h];rfl),Lib.hid rfl,Lib.hid (fun _=>⟨by rw [hsp,hpp],by rw [hsq,hpq],rfl⟩),Lib.hid (fun h'=>by omega)⟩
     ·exact ⟨.par p q,_,_,_,(show _=_ by rw [hgo.out,hdrop,show (st0 ++ [p,q]).reverse=q :: p :: st0.reverse by simp,treesGo_par h]),(show _=_ by rw [h];rfl),Lib.hid rfl,Lib.hid (fun h'=>by omega),Lib.hid (fun _=>⟨by rw [hsp,hpp],by rw [hsq,hpq],rfl⟩)⟩
    clear hsp hpp hsq hpq
    have zA:=brk_size (prT full p) ca
    have zB:=brk_size (prT full q) cb
    have zS:sg.size=3:=by rcases hk1 with h|h;rw [(hs15.out h).2.2];rfl;rw [(hs16.out h).2.2];rfl
    have HK:=Lib.hid hk1
    clear hgo hdrop hlen hok hcnt hlf hp hq hx5 hx6 hk1
    go_upto_region 6 with fail
    go_cut [29] (fun s29 wx=>s29=.bool false∧wx=(wr.alloc (.cells #[.int .i64 ns[k].kind,.int .i64 ns[k].value,.string ns[k].name] 87)))
    case first =>
     rcases HK.out with hk1|hk1
     ·have g1:(ns[k].kind != 15)=false:=by simp [hk1]
      clear hk1
      go_wp2_with fail
      go_meet
      case rel=>exact ⟨rfl,rfl⟩
     ·have g1:(ns[k].kind != 15)=true:=by simp [hk1]
      have g2:(ns[k].kind != 16)=false:=by simp [hk1]
      clear hk1
      go_wp2_with fail
      go_meet
      case rel=>exact ⟨rfl,rfl⟩
    case rest =>
     obtain ⟨rfl,rfl⟩:=hcut
     go_wp2_with fail
     refine region_acts (C:=Exc (NoT) _) 4 [0,1,2,3,4,5,6,7,8,9,10] (by kernel_rfl) (by kernel_rfl) (Exc.grows _ _) (Exc.refl _ _) ?_
     iterate 11 (apply x_st rfl rfl rfl;(focus intro u hc' hf';go_simp <;> rfl);intro K hK;go_simp;apply hK;clear hK K)
     refine x_nil ?_
     go_wp2_with fail
     refine region_acts (C:=Exc (NoT) _) 4 [0,1,2,3,4,5,6,7,8,9,10,11] (by kernel_rfl) (by kernel_rfl) (Exc.grows _ _) (Exc.refl _ _) ?_
     iterate 12 (apply x_st rfl rfl rfl;(focus intro u hc' hf';go_simp <;> rfl);intro K hK;go_simp;apply hK;clear hK K)
     refine x_nil ?_
     go_upto_region 12 with fail
     go_cut [76] (fun s76 wx=>s76=.bool ca∧wx=(wr.alloc (.cells #[.int .i64 ns[k].kind,.int .i64 ns[k].value,.string ns[k].name] 87)).drew.drew)
     case first =>
      rcases HK.out with hk1|hk1
      ·have hc:=(hs15.out hk1).1
       have g3:(ns[k].kind == 16)=false:=by simp [hk1]
       clear hk1
       go_wp2_with fail
       all_goals
        first|(have hz:full=true:=(by assumption);subst hz)|(have hz:full=false:=(by rw [← Bool.not_eq_true];assumption);subst hz)|skip
        first|(have hz:sp=true:=(by assumption);subst hz)|(have hz:sp=false:=(by rw [← Bool.not_eq_true];assumption);subst hz)|skip
        first|(have hz:pp=true:=(by assumption);subst hz)|(have hz:pp=false:=(by rw [← Bool.not_eq_true];assumption);subst hz)|skip
        go_meet
        case rel=>exact ⟨by simp [hc],rfl⟩
      ·have hc:=(hs16.out hk1).1
       have g3:(ns[k].kind == 16)=true:=by simp [hk1]
       clear hk1
       go_wp2_with fail
       all_goals
        first|(have hz:full=true:=(by assumption);subst hz)|(have hz:full=false:=(by rw [← Bool.not_eq_true];assumption);subst hz)|skip
        first|(have hz:sp=true:=(by assumption);subst hz)|(have hz:sp=false:=(by rw [← Bool.not_eq_true];assumption);subst hz)|skip
        first|(have hz:pp=true:=(by assumption);subst hz)|(have hz:pp=false:=(by rw [← Bool.not_eq_true];assumption);subst hz)|skip
        go_meet
        case rel=>exact ⟨by simp [hc],rfl⟩
     case rest =>
      obtain ⟨rfl,rfl⟩:=hcut
      go_upto_if 76 with fail
      go_cut [10] (fun s10 wx=>s10=.string (brk (prT full p) ca)∧wx=(wr.alloc (.cells #[.int .i64 ns[k].kind,.int .i64 ns[k].value,.string ns[k].name] 87)).drew.drew)
      case first =>
       cases ca
       ·go_wp2_with fail
        go_meet
        case rel=>exact ⟨rfl,rfl⟩
       ·go_wp2_with fail
        go_meet
        case rel=>exact ⟨rfl,rfl⟩
      case rest =>
       obtain ⟨rfl,rfl⟩:=hcut
       go_wp2_with fail
       refine region_acts (C:=Exc (NoT) _) 4 [0,1,2,3,4,5,6,7,8,9,10,11,12,13] (by kernel_rfl) (by kernel_rfl) (Exc.grows _ _) (Exc.refl _ _) ?_
       iterate 14 (apply x_st rfl rfl rfl;(focus intro u hc' hf';go_simp <;> rfl);intro K hK;go_simp;apply hK;clear hK K)
       refine x_nil ?_
       go_upto_region 15 with fail
       go_cut [109] (fun s109 wx=>s109=.bool cb∧wx=(wr.alloc (.cells #[.int .i64 ns[k].kind,.int .i64 ns[k].value,.string ns[k].name] 87)).drew.drew.drew)
       case first =>
        rcases HK.out with hk1|hk1
        ·have hc:=(hs15.out hk1).2.1
         have g3:(ns[k].kind == 16)=false:=by simp [hk1]
         clear hk1
         go_wp2_with fail
         all_goals
          first|(have hz:full=true:=(by assumption);subst hz)|(have hz:full=false:=(by rw [← Bool.not_eq_true];assumption);subst hz)|skip
          first|(have hz:sq=true:=(by assumption);subst hz)|(have hz:sq=false:=(by rw [← Bool.not_eq_true];assumption);subst hz)|skip
          first|(have hz:pq=true:=(by assumption);subst hz)|(have hz:pq=false:=(by rw [← Bool.not_eq_true];assumption);subst hz)|skip
          go_meet
          case rel=>exact ⟨by simp [hc],rfl⟩
        ·have hc:=(hs16.out hk1).2.1
         have g3:(ns[k].kind == 16)=true:=by simp [hk1]
         clear hk1
         go_wp2_with fail
         all_goals
          first|(have hz:full=true:=(by assumption);subst hz)|(have hz:full=false:=(by rw [← Bool.not_eq_true];assumption);subst hz)|skip
          first|(have hz:sq=true:=(by assumption);subst hz)|(have hz:sq=false:=(by rw [← Bool.not_eq_true];assumption);subst hz)|skip
          first|(have hz:pq=true:=(by assumption);subst hz)|(have hz:pq=false:=(by rw [← Bool.not_eq_true];assumption);subst hz)|skip
          go_meet
          case rel=>exact ⟨by simp [hc],rfl⟩
       case rest =>
        obtain ⟨rfl,rfl⟩:=hcut
        go_upto_if 109 with fail
        go_cut [11] (fun s11 wx=>s11=.string (brk (prT full q) cb)∧wx=(wr.alloc (.cells #[.int .i64 ns[k].kind,.int .i64 ns[k].value,.string ns[k].name] 87)).drew.drew.drew)
        case first =>
         cases cb
         ·go_wp2_with fail
          go_meet
          case rel=>exact ⟨rfl,rfl⟩
         ·go_wp2_with fail
          go_meet
          case rel=>exact ⟨rfl,rfl⟩
        case rest =>
         obtain ⟨rfl,rfl⟩:=hcut
         go_upto_if 115 with fail
         go_cut [14] (fun s14 wx=>s14=.string sg∧wx=(wr.alloc (.cells #[.int .i64 ns[k].kind,.int .i64 ns[k].value,.string ns[k].name] 87)).drew.drew.drew)
         case first =>
          rcases HK.out with hk1|hk1
          ·have hc:=(hs15.out hk1).2.2
           have g3:(ns[k].kind == 16)=false:=by simp [hk1]
           clear hk1
           go_wp2_with fail
           go_meet
           case rel=>exact ⟨by rw [hc],rfl⟩
          ·have hc:=(hs16.out hk1).2.2
           have g3:(ns[k].kind == 16)=true:=by simp [hk1]
           clear hk1
           go_wp2_with fail
           go_meet
           case rel=>exact ⟨by rw [hc],rfl⟩
         case rest =>
          obtain ⟨rfl,rfl⟩:=hcut
          obtain ⟨A,hA⟩:∃ A,A=brk (prT full p) ca:=⟨_,rfl⟩
          obtain ⟨B,hB⟩:∃ B,B=brk (prT full q) cb:=⟨_,rfl⟩
          rw [← hA,← hB] at HX
          rw [← hA] at zA
          rw [← hB] at zB
          rw [← hA,← hB]
          obtain ⟨W,hW⟩:∃ W,W=(wr.alloc (.cells #[.int .i64 ns[k].kind,.int .i64 ns[k].value,.string ns[k].name] 87)).drew.drew.drew:=⟨_,rfl⟩
          have hbW:Below w.heap.size w W:=by rw [hW];exact (hbel.alloc (by omega) _).drew.drew.drew
          have hzW:wr.heap.size<W.heap.size:=by rw [hW];simp
          have n0:W.cell? ⟨wr.heap.size,0,none⟩=some (.int .i64 ns[k].kind):=by rw [hW];simp
          have hW5:W.ownsRow w.heap.size 9 1 (.slice (some ⟨g5,0,none⟩) st0.length cp5) st0.length (st0.flatMap (xCellF full)):=by rw [hW];exact (hx5t.alloc _).drew.drew.drew
          have hW6:W.ownsRow w.heap.size 3 1 (.slice (some ⟨g6,0,none⟩) st0.length cp6) st0.length (st0.flatMap kCell):=by rw [hW];exact (hx6t.alloc _).drew.drew.drew
          rw [← hW]
          clear hW d0 d1 d2 d3 c0 c1 c2 hx5t hx6t hA hB tp tp2 tq tq2 hs15 hs16
          go_wp2_with (at_builtin;refine wpList_append_own _ rfl _ _ 89 rfl w.heap.size 9 i5 _ 1 16 Tryz.underlying89 hi5 hz0 hz1 hz2 rfl (by decide) _ _ _ rfl (hW5.alloc _) ⟨W.heap.size,0,none⟩ 1 1 [.string (prT full x)] rfl rfl ?c1 ?c2 ?c3 ?c4 ?c5 ?_)
          case c1 =>
           intro j u hj
           match j,hj with
           | 0,hj=>simp at hj;subst hj;rw [HX.out];simp [Addr.add]
          case c2=>intro u hu;simp at hu;subst hu;rfl
          case c3=>unfold maxLen;omega
          case c4=>omega
          case c5=>have:=hbW.size;simp;omega
          intro v5 w3 hown3 hgrow _
          have n3:=hgrow.cell (alloc_keep n0 _) (fun hh=>by simp [Value.ownBlock] at hh;omega)
          have hx6':=World.ownsRow.kept (hW6.alloc _) hgrow (.inr (by simp [Value.ownBlock];exact hg56))
          have hb3:Below w.heap.size w w3:=(hbW.alloc hbW.size _).grown hgrow (by have:=hbW.size;simp;omega) (fun j hj=>by simp [Value.ownBlock] at hj;omega)
          have hz3:W.heap.size<w3.heap.size:=by have:=hgrow.size;simp at this;omega
          have hz3b:wr.heap.size<w3.heap.size:=by omega
          have hng:¬ wr.heap.size=g6:=by omega
          have hg6w:g6<w3.heap.size:=by omega
          clear hgrow hW5 hW6 n0
          go_wp2_with fail
          refine region_acts (C:=Exc ((fun j=>j=g6)) _) 4 [0,1,2,3,4,5,6,7] (by kernel_rfl) (by kernel_rfl) (Exc.grows _ _) (Exc.refl _ _) ?_
          iterate 5 (apply x_sT rfl rfl rfl;(focus intro u hc' hf';(try simp only [World.size_drew] at hc' hf');go_simp <;> rfl);intro K hK;go_simp;apply hK;clear hK K)
          refine x_make rfl rfl rfl (Exc.grows _ _) (Exc.refl _ _) (fun b=>.slice (some ⟨b,0,none⟩) 1 1) (fun K hK=>?_)
          apply Exists.intro
          refine ⟨fun w' hw'=>?_,fun b7 w7 hw7 hb7 hbo hNb hnb=>?_⟩
          ·go_simp
           rfl
          go_simp
          refine hK _ _ _ ?_
          clear hK K
          refine x_fits rfl rfl rfl hw7 _ _ 130 rfl w.heap.size 3 i6 1 Tryz.underlying130 hi6 hy1 g6 st0.length cp6 (st0.flatMap kCell) rfl (by simp;omega) rfl ⟨b7,0,none⟩ 1 1 [.int .i64 ns[k].kind] rfl rfl ?c1 (by omega) ?c2 ?_
          case c1=>intro u hu;simp at hu;subst hu;rfl
          case c2 =>
           intro w8 hw8 hb8
           refine ⟨owns_keep hb8 (owns_keep hb7 hx6'.drew),?_⟩
           obtain ⟨m0,m1,m2⟩:=made_cell ((hb8.block b7 (made_cell hbo).2.2).trans hbo)
           intro j u hj
           match j,hj with
           | 0,hj=>simp at hj;subst hj;simp [Addr.add,m0]
          intro K hK w8 w9 hw8 hb8 hown9 hgr9 hw9
          go_simp
          refine hK _ _ _ ?_
          clear hK K
          iterate 1 (apply x_sT rfl rfl rfl;(focus intro u hc' hf';(try simp only [World.size_drew] at hc' hf');go_simp <;> rfl);intro K hK;go_simp;apply hK;clear hK K)
          refine x_nil ?_
          have hb39:Below w3.heap.size w3.drew w8:=(hb7.trans (hb8.mono hb7.size)).mono (by simp)
          have hx5':w9.ownsRow w.heap.size 9 1 v5 (st0.length+1) (st0.flatMap (xCellF full) ++ [.string (prT full x)]):=World.ownsRow.kept (owns_keep (hb7.trans (hb8.mono hb7.size)) hown3.drew) hgr9 (apart_or (owns_ne (owns_keep (hb7.trans (hb8.mono hb7.size)) hown3.drew) (owns_keep (hb7.trans (hb8.mono hb7.size)) hx6'.drew) (by decide)))
          have hb9:Below w.heap.size w w9:=((hb3.drew.trans ((hb7.trans (hb8.mono hb7.size)).mono (by simp;have:=hb3.size;omega)))).grown hgr9 (by have:=hb3.size;have:=hb7.size;have:=hb8.size;simp at *;omega) (fun j hj=>by cases hj;omega)
          rw [← hxk.out] at hown9
          have hst9:=sx_pushF (full:=full) (x:=x) HT.out ho hc4 hx5' hown9 hgoX hb9 (by omega)
          clear hown3 hown9 hgr9 hw9 hw8 hb8 hw7 hb7 hbo hNb hnb hx6' hx5' hb9 hb39 hb3 hbW hgoX
          go_wp2
          go_roundw
          case rel=>exact ⟨k+1,_,by omega,by go_num,hst9⟩
          case measure=>simp [intOf];omega
   ·have g1:(ns[k].kind != 15)=true:=by simp;omega
    have g2:(ns[k].kind != 16)=true:=by simp;omega
    have hgo1:Hid (treesGo ns []=treesGo (ns.drop (k+1)) (.leaf ns[k] :: st.reverse)):=(show _=_ by rw [hgo.out,hdrop,treesGo_leaf hk1])
    have hlk:=hlf ns[k] (List.getElem_mem _) hk1
    have hlz:=leafTxt_size hlk
    obtain ⟨a5,cp5,rfl⟩:=owns_shape hx5
    obtain ⟨a6,cp6,rfl⟩:=owns_shape hx6
    clear hk1 hgo hdrop hok hcnt hlf
    go_wp2_with (first|(go_at_call 88;refine (sxWord_any ns[k] _ hlk hnum).mono ?_;rintro e w2 ⟨rfl,hb2⟩;have hown2:=owns_keep hb2 (hx5.alloc _);have hown6:=owns_keep hb2 (hx6.alloc _);have hz2':=hb2.size;obtain ⟨m0,m1,m2⟩:=(show w2.cell? ⟨wr.heap.size,0,none⟩=some (.int .i64 ns[k].kind)∧w2.cell? ⟨wr.heap.size,1,none⟩=some (.int .i64 ns[k].value)∧w2.cell? ⟨wr.heap.size,2,none⟩=some (.string ns[k].name) from ⟨(hb2.cell (p:=⟨wr.heap.size,0,none⟩) (by simp)).trans (by simp),(hb2.cell (p:=⟨wr.heap.size,1,none⟩) (by simp)).trans (by simp),(hb2.cell (p:=⟨wr.heap.size,2,none⟩) (by simp)).trans (by simp)⟩);simp only [World.size_alloc] at hz2')|(at_builtin;refine wpList_append_own _ rfl _ _ 89 rfl w.heap.size 9 i5 _ 1 16 Tryz.underlying89 hi5 hz0 hz1 hz2 rfl (by decide) _ _ _ rfl (hown2.alloc _) ⟨w2.heap.size,0,none⟩ 1 1 [.string (leafTxt ns[k])] rfl rfl ?c1 ?c2 ?c3 ?c4 ?c5 ?_))
    case c1 =>
     intro j u hj
     match j,hj with
     | 0,hj=>simp at hj;subst hj;simp [Addr.add]
    case c2=>intro u hu;simp at hu;subst hu;rfl
    case c3=>unfold maxLen;omega
    case c4=>omega
    case c5=>simp;omega
    intro v' w3 hown3 hgrow _
    have hne5:∀ k,(Value.slice a5 st.length cp5).ownBlock=some k → k<wr.heap.size:=fun k hk=>(World.ownsRow.lt hx5 k hk).2
    have hap:=owns_ne (hown6.alloc (.cells #[.string (leafTxt ns[k])] 9)) (hown2.alloc (.cells #[.string (leafTxt ns[k])] 9)) (by decide)
    have hx6':=World.ownsRow.kept (hown6.alloc _) hgrow (apart_or hap)
    have k0:=hgrow.cell (alloc_keep m0 (.cells #[.string (leafTxt ns[k])] 9)) (fun hh=>by have:=hne5 _ hh.symm;simp at this)
    have hb3:Below w.heap.size w w3:=(((hbel.alloc (by omega) _).trans (hb2.mono (by simp;omega))).alloc (by omega) _).grown hgrow (by simp;omega) (fun j hj=>(World.ownsRow.lt hx5 j hj).1)
    have hz3:=hb3.size
    have hz4:wr.heap.size<w3.heap.size:=by have:=hgrow.size;simp at this;omega
    clear hown2 hown6 hgrow hb2 m0 m1 m2 hap hx6
    go_wp2_with (at_builtin;refine wpList_append_own _ rfl _ _ 130 rfl w.heap.size 3 i6 _ 1 8 Tryz.underlying130 hi6 hy0 hy1 hy2 rfl (by decide) _ _ _ rfl (hx6'.alloc _) ⟨w3.heap.size,0,none⟩ 1 1 [.int .i64 ns[k].kind] rfl rfl ?d1 ?d2 ?d3 ?d4 ?d5 ?_)
    case d1 =>
     intro j u hj
     match j,hj with
     | 0,hj=>simp at hj;subst hj;simp [Addr.add]
    case d2=>intro u hu;simp at hu;subst hu;rfl
    case d3=>unfold maxLen;omega
    case d4=>omega
    case d5=>simp;omega
    intro v6 w4 hown4 hgrow4 _
    have hap4:=owns_ne (hown3.alloc (.cells #[.int .i64 ns[k].kind] 3)) (hx6'.alloc (.cells #[.int .i64 ns[k].kind] 3)) (by decide)
    have hx5':=World.ownsRow.kept (hown3.alloc _) hgrow4 (apart_or hap4)
    have hb4:Below w.heap.size w w4:=(hb3.alloc (by omega) _).grown hgrow4 (by simp;omega) (fun j hj=>(World.ownsRow.lt hx6' j hj).1)
    have hst4:=sx_pushF HT.out ho hc4 hx5' hown4 hgo1 hb4 (by omega)
    clear hown3 hown4 hgrow4 hx6' hx5' hx5 hb3 hb4 hap4 hgo1
    go_wp2
    go_roundw
    case rel=>exact ⟨k+1,_,by omega,by go_num,hst4⟩
    case measure=>simp [intOf];omega
  ·have hkn:k=ns.length:=by omega
   subst hkn
   have h0:=hgo.out
   rw [HT.out,List.drop_length,treesGo] at h0
   have hst1:st=[t]:=by
    have:=congrArg List.reverse (Option.some.inj h0).symm
    simpa using this
   subst hst1
   obtain ⟨g,cp,rfl,hgc,hgm,hgB,hgs⟩:=owns_some hx5 (by simp)
   have d0:=owns_cell (xCellF_len full) hx5 0 0 (by simp) (by omega)
   simp [xCellF] at d0
   clear h0 hgo hat HT hlf hok hcnt
   go_wp2
   go_ret
   exact ⟨rfl,hbel⟩
end Go.Proofs.YtikgblkfmpecfaaGreatDoor
