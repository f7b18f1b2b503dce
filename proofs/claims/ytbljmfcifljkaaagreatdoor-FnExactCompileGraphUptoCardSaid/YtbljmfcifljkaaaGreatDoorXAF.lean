/-
  Valid graphs over a field, the program's. Own work.
-/
import Derived.Test.YtbljmfcifljkaaaGreatDoorXAE
import Derived.Test.YtbljmfcifljkaaaGreatDoorXAC
import Derived.Test.YtbljmfcifljkaaaGreatDoorXAA
import Derived.Test.YtbljmfcifljkaaaGreatDoorXCB
set_option linter.all false
set_option maxRecDepth 100000
set_option maxHeartbeats 8000000
namespace Go.Proofs.YtbljmfcifljkaaaGreatDoor
open Go.RowKit
set_option maxRecDepth 100000
set_option maxHeartbeats 4000000
theorem overB_no {p:Int} {g:GrI} {k:Nat} (hk:k<g.edges.length) (h:(!valB g.edges[k].kind || decide (g.edges[k].value<p))=false):overB p g=false :=
 List.all_eq_false.2 ⟨_,List.getElem_mem hk,by simp only [h];decide⟩
theorem overB_yes {p:Int} {g:GrI} (h:∀ j,∀ hj:j<g.edges.length,(!valB (g.edges[j]'hj).kind || decide ((g.edges[j]'hj).value<p))=true):overB p g=true :=
 List.all_eq_true.2 fun e he=>by obtain ⟨j,hj,rfl⟩:=List.mem_iff_getElem.1 he;exact h j hj
theorem isGraphOver_any (p:Int) (ve vi vo:Value) (g:GrI) (w:World) (ht:PrimeTab w) (hR:GrR w ve vi vo g) (hok:GrOk g) :
  Calls Tryz.prog 123 #[.int .i64 p,.agg #[.int .i64 g.wires,ve,vi,vo]] w (FlP (primeB p && (grB g && overB p g)) w):=by
 obtain ⟨⟨ae,ce,rfl⟩,⟨ai,ci,rfl⟩,ao,co,rfl⟩:=hR.slices
 have hA:=alloc_below w (.cells #[.int .i64 g.wires,.slice ae g.edges.length ce,.slice ai g.ins.length ci,.slice ao g.outs.length co] 53)
 have hF:=isField_any p _ (ht.keep hA)
 cases hp:primeB p with
 | false =>
  rw [hp] at hF
  have HF:=Lib.hid hF
  clear hF hp
  go_enter Tryz.func123,Tryz.ntmps123
  go_wp2_with (go_at_call 89;refine HF.out.mono ?_;rintro r w1 ⟨rfl,hb1⟩)
  go_ret
  exact ⟨rfl,hA.trans (hb1.mono hA.size)⟩
 | true =>
  rw [hp] at hF
  have HF:=Lib.hid hF
  clear hF hp
  have hG:=fun (w1:World) (hb:Below w.heap.size w w1)=>isGraph_any _ _ _ g w1 (hR.keep hb) hok
  cases hg:grB g with
  | false =>
   rw [hg] at hG
   have HG:=Lib.hid hG
   clear hG hg
   go_enter Tryz.func123,Tryz.ntmps123
   have kG:=Bk.new w 53 #[.int .i64 g.wires,.slice ae g.edges.length ce,.slice ai g.ins.length ci,.slice ao g.outs.length co]
   go_wp2_with fail
   generalize (w.alloc (.cells #[.int .i64 g.wires,.slice ae g.edges.length ce,.slice ai g.ins.length ci,.slice ao g.outs.length co] 53))=u0 at *
   refine HF.out.mono ?_
   rintro r w1 ⟨rfl,hb1⟩
   replace kG:=kG.keep hb1
   have hB1:=hA.trans (hb1.mono hA.size)
   obtain ⟨iG,-,zG⟩:=kG.cell
   go_wp2_with fail
   refine (HG.out _ hB1).mono ?_
   rintro r w2 ⟨rfl,hb2⟩
   go_wp2
   go_ret
   exact ⟨rfl,hB1.trans (hb2.mono hB1.size)⟩
  | true =>
   rw [hg] at hG
   have HG:=Lib.hid hG
   clear hG hg
   go_enter Tryz.func123,Tryz.ntmps123
   have kG:=Bk.new w 53 #[.int .i64 g.wires,.slice ae g.edges.length ce,.slice ai g.ins.length ci,.slice ao g.outs.length co]
   go_wp2_with fail
   generalize (w.alloc (.cells #[.int .i64 g.wires,.slice ae g.edges.length ce,.slice ai g.ins.length ci,.slice ao g.outs.length co] 53))=u0 at *
   refine HF.out.mono ?_
   rintro r w1 ⟨rfl,hb1⟩
   replace kG:=kG.keep hb1
   have hB1:=hA.trans (hb1.mono hA.size)
   obtain ⟨iG,-,zG⟩:=kG.cell
   go_wp2_with fail
   refine (HG.out _ hB1).mono ?_
   rintro r w2 ⟨rfl,hb2⟩
   clear iG zG
   replace kG:=kG.keep hb2
   have hB2:=hB1.trans (hb2.mono hB1.size)
   obtain ⟨iG,-,zG⟩:=kG.cell
   go_wp2_with fail
   clear hb1 hb2 hB1 iG zG kG hA
   obtain ⟨pe,cpe,he,hce,hat⟩:=hR.ed
   simp only [Value.slice.injEq] at he
   obtain ⟨rfl,-,rfl⟩:=he
   have hel:=hok.ed
   go_loopw [18] (fun i wr=>∃ k:Nat,k≤g.edges.length∧i=.int .i64 k∧Below w.heap.size w wr∧∀ j,∀ h:j<g.edges.length,j<k → (!valB (g.edges[j]'h).kind || decide ((g.edges[j]'h).value<p))=true) (fun i _=>g.edges.length - (intOf i).toNat)
   case atStart=>exact ⟨0,Nat.zero_le _,rfl,hB2,fun j h1 h2=>by omega⟩
   case round =>
    clear hB2
    obtain ⟨k,hk,rfl,hbw,hall⟩:=hrel
    have HALL:=Lib.hid hall
    clear hall
    by_cases hlt:k<g.edges.length
    ·obtain ⟨b,o,rfl,_,hnd⟩:=hat k hlt
     obtain ⟨c0,c1,x1,x2,c2,c3,hi,ho⟩:=hnd.keep hbw
     obtain ⟨a1,q1,rfl⟩:=hi.slice
     obtain ⟨a2,q2,rfl⟩:=ho.slice
     have bz:=cell_lt c0
     have hB3:=hbw.trans ((alloc_below wr (.cells #[.int .i64 g.edges[k].kind,.int .i64 g.edges[k].value,.slice a1 g.edges[k].ins.length q1,.slice a2 g.edges[k].outs.length q2] 189)).mono hbw.size)
     cases hv:valB g.edges[k].kind with
     | false =>
      have HV:=Lib.hid hv
      have hnew:(!valB g.edges[k].kind || decide (g.edges[k].value<p))=true:=by rw [hv];rfl
      have HNEW:=Lib.hid hnew
      clear hv hnew hat hnd
      go_wp2_with (go_at_call 191;refine (hasValue_any _ _).mono ?_;rintro r w3 ⟨rfl,rfl⟩;rw [HV.out])
      go_roundw
      case rel=>exact ⟨k+1,by omega,by go_num,hB3,fun j h1 h2=>by
       rcases Nat.lt_or_ge j k with h|h
       ·exact HALL.out j h1 h
       ·obtain rfl:j=k:=by omega
        exact HNEW.out⟩
      case measure=>simp [intOf];omega
     | true =>
      have HV:=Lib.hid hv
      by_cases hlp:g.edges[k].value<p
      ·have hnew:(!valB g.edges[k].kind || decide (g.edges[k].value<p))=true:=by rw [hv,decide_eq_true hlp];rfl
       have HNEW:=Lib.hid hnew
       have hge:¬ p≤g.edges[k].value:=by omega
       clear hv hnew hat hnd
       go_wp2_with (go_at_call 191;refine (hasValue_any _ _).mono ?_;rintro r w3 ⟨rfl,rfl⟩;rw [HV.out])
       go_roundw
       case rel=>exact ⟨k+1,by omega,by go_num,hB3,fun j h1 h2=>by
        rcases Nat.lt_or_ge j k with h|h
        ·exact HALL.out j h1 h
        ·obtain rfl:j=k:=by omega
         exact HNEW.out⟩
       case measure=>simp [intOf];omega
      ·have hnew:(!valB g.edges[k].kind || decide (g.edges[k].value<p))=false:=by rw [hv,decide_eq_false hlp];rfl
       have HNEW:=Lib.hid (overB_no hlt hnew)
       have hge:p≤g.edges[k].value:=by omega
       clear hv hnew hat hnd
       go_wp2_with (go_at_call 191;refine (hasValue_any _ _).mono ?_;rintro r w3 ⟨rfl,rfl⟩;rw [HV.out])
       go_ret
       exact ⟨by rw [HNEW.out];rfl,hB3⟩
    ·obtain rfl:k=g.edges.length:=by omega
     have hfin:overB p g=true:=overB_yes fun j hj=>HALL.out j hj hj
     have HFIN:=Lib.hid hfin
     clear hfin hat
     go_wp2
     go_ret
     exact ⟨by rw [HFIN.out];rfl,hbw⟩
end Go.Proofs.YtbljmfcifljkaaaGreatDoor
/-
  Append of whatever source (nil too) to an owned row: the run, outside a drawn region and inside one. Own work.
-/
namespace Go.Proofs.YtbljmfcifljkaaaGreatDoor
open Go.RowKit
def SrcAt (w:World) (sz:Nat) (x:Value) (m:Nat) (news:List Value):Prop :=
 news.length=m * sz∧((m=0∧∃ c,x=.slice none 0 c)∨∃ ad c,x=.slice (some ad) m c∧∀ j u,news[j]?=some u → w.cell? (ad.add j)=some u)
theorem run_append_src {P:Program} (w:World) (base:Nat) (t ty e:TypeId) (i:TypeInfo) (z:Value) (size bytes:Nat) (ht:P.underlying t=some (.slice e)) (hi:P.info? e=some i) (hz:i.zero=some z)
  (hsize:i.size=size) (hby:i.bytes=bytes) (hzs:z.cells.size=size) (hsz:0<size)
  (v:Value) (n:Nat) (xs:List Value) (hown:w.ownsRow base e size v n xs) (x:Value) (m:Nat) (news:List Value) (hx:SrcAt w size x m news) (h1:∀ u ∈ news,u.oneCell'=true)
  (h63:n+m≤maxLen) (hbytes:(n+m) * bytes≤140737488355328) (hbase:base≤w.heap.size) :
  ∃ v' w',(Builtin.append_ #[t,t] ty #[v,x]).run P w=.ok v' w'∧w'.ownsRow base e size v' (n+m) (xs ++ news)∧w.grownBy w' v.ownBlock∧(v'.ownBlock=v.ownBlock∨v'.ownBlock=some w.heap.size):=by
 obtain ⟨hl,hx⟩:=hx
 rcases hx with ⟨rfl,c,rfl⟩|⟨ad,c,rfl,hc⟩
 ·have hn:news=[]:=List.eq_nil_of_length_eq_zero (by simpa using hl)
  subst hn
  have hgr:w.grownBy w v.ownBlock:=⟨rfl,rfl,rfl,Nat.le_refl _,fun _ _ _=>rfl⟩
  rcases hown.2 with ⟨rfl,rfl⟩|⟨g,cap,cur,rfl,hbg,hg,hnc,hcm,hcs,htake⟩
  ·refine ⟨.slice none 0 0,w,?_,by simpa using hown,hgr,.inl rfl⟩
   simp [Builtin.append_,run_underlying ht,sizeOf,typeInfo,hi,Builtin.lenOf,Builtin.firstCells]
  ·refine ⟨_,w,?_,by simpa using hown,hgr,.inl rfl⟩
   simp [Builtin.append_,run_underlying ht,sizeOf,typeInfo,hi,Builtin.lenOf,Builtin.firstCells,hnc,storeCells]
 ·obtain ⟨v',w',r1,r2,r3,_,r5⟩:=run_append_own_at (P:=P) w base t ty e i z size bytes ht hi hz hsize hby hzs hsz v n xs hown ad m c news hl hc h1 h63 hbytes hbase
  exact ⟨v',w',r1,r2,r3,r5⟩
theorem wpList_append_src {P:Program} {w:World} {ops:Array Oper} {rest:List Oper} {o:Oper} {a:Act} {Q:Exit → Act → World → Prop} (hgd:o.guard=none) (s x:Operand) (t:TypeId)
  (ho:o.op=.call { callee:=.builtin .append,args:=#[s,x],argTypes:=#[t,t] })
  (base:Nat) (e:TypeId) (i:TypeInfo) (z:Value) (size bytes:Nat) (ht:P.underlying t=some (.slice e)) (hi:P.info? e=some i) (hz:i.zero=some z)
  (hsize:i.size=size) (hby:i.bytes=bytes) (hzs:z.cells.size=size) (hsz:0<size)
  (v:Value) (n:Nat) (xs:List Value) (hs:a.eval s=v) (hown:w.ownsRow base e size v n xs) (u:Value) (m:Nat) (news:List Value) (hu:a.eval x=u) (hx:SrcAt w size u m news) (h1:∀ u ∈ news,u.oneCell'=true)
  (h63:n+m≤maxLen) (hbytes:(n+m) * bytes≤140737488355328) (hbase:base≤w.heap.size)
  (h:∀ v' w',w'.ownsRow base e size v' (n+m) (xs ++ news) → w.grownBy w' v.ownBlock → (v'.ownBlock=v.ownBlock∨v'.ownBlock=some w.heap.size) → wpList P ops Q rest (a.put o.dst v') w'):wpList P ops Q (o :: rest) a w:=by
 refine wpList_plain hgd fun K hK=>?_
 obtain ⟨v',w',hr,r2,r3,r5⟩:=run_append_src (P:=P) w base t o.type e i z size bytes ht hi hz hsize hby hzs hsz v n xs hown u m news hx h1 h63 hbytes hbase
 unfold Oper.wp execOp
 simp only [ho,resolve,invoke,builtin,Sem.run_bind,Sem.run_pure,Result.andThen_ok,List.map_toArray,List.map_cons,List.map_nil,hs,hu,hr]
 exact hK _ _ (h v' w' r2 r3 r5)
section
variable {P:Program} {ops:Array Oper} {Q:Exit → Act → World → Prop} {T:Nat → Prop} {w0:World}
def more (bs:Nat → Prop) (w1 w2:World):Nat → Prop:=fun k=>bs k∨(w1.heap.size≤k∧k<w2.heap.size)
theorem x_src {i:Nat} {l:List Nat} {bs:Nat → Prop} {a:Act} {w:World} {o:Oper} (ho:ops[i]?=some o) (hk:opKind o=.act) (hg:o.guard=none) (hC:Exc T w0 w) (s x:Operand) (t:TypeId)
  (hop:o.op=Op.call { callee:=Callee.builtin Builtin.append,args:=#[s,x],argTypes:=#[t,t] })
  (base:Nat) (e:TypeId) (inf:TypeInfo) (z:Value) (size bytes:Nat) (h1:P.underlying t=some (.slice e)) (h2:P.info? e=some inf) (hz:inf.zero=some z)
  (hsize:inf.size=size) (hby:inf.bytes=bytes) (hzs:z.cells.size=size) (hsz:0<size)
  (v:Value) (n:Nat) (xs:List Value) (hs:a.eval s=v) (hvT:∀ k,v.ownBlock=some k → (k<w0.heap.size∧T k)∨(w0.heap.size≤k∧bs k)) (u:Value) (m:Nat) (news:List Value) (hu:a.eval x=u)
  (h1c:∀ u ∈ news,u.oneCell'=true) (h63:n+m≤maxLen) (hbytes:(n+m) * bytes≤140737488355328) (hbase:base≤w.heap.size)
  (H:∀ w1,Exc T w0 w1 → Below w.heap.size w w1 → w1.ownsRow base e size v n xs∧SrcAt w1 size u m news)
  (h:∀ K:(Nat → Prop) → Act → World → Prop,(∀ bs a w,WX P ops (Exc T w0) w0.heap.size Q l bs a w → K bs a w) → ∀ w1 w2 v',Exc T w0 w1 → Below w.heap.size w w1 →
   w2.ownsRow base e size v' (n+m) (xs ++ news) → w1.grownBy w2 v.ownBlock → Exc T w0 w2 → (v'.ownBlock=v.ownBlock∨v'.ownBlock=some w1.heap.size) → K (more bs w1 w2) (a.put o.dst v') w2) :
  WX P ops (Exc T w0) w0.heap.size Q (i :: l) bs a w:=by
 intro o' ho'
 rw [ho] at ho'
 obtain rfl:=Option.some.inj ho'
 unfold atX stepX
 rw [if_pos (by simp [Region.wanted,hg])]
 simp only [hk]
 intro w1 hw1
 have hC1:=hC.below hw1
 obtain ⟨ha,hb⟩:=H w1 hC1 hw1
 obtain ⟨v',w2,hrun,r1,r2,r4⟩:=run_append_src (P:=P) w1 base t o.type e inf z size bytes h1 h2 hz hsize hby hzs hsz v n xs ha u m news hb h1c h63 hbytes (Nat.le_trans hbase hw1.size)
 have hr:(execOp a.eval o).run P w1=.ok (.value v') w2:=by
  simp [execOp,hop,resolve,invoke,builtin,hs,hu,hrun,Result.andThen]
 unfold ActAt
 rw [hr]
 have hC2:Exc T w0 w2:=hC1.grown r2 (fun k hk=>(hvT k hk).elim (fun h=>.inr h.2) (fun h=>.inl h.1))
 exact ⟨hC2,r2.size,fun k hN hnb hlt=>r2.block k hlt (fun e=>by rcases hvT k e.symm with h|h;omega;exact hnb h.2),more bs w1 w2,fun _ h=>.inl h,fun _ h=>h,h _ (fun _ _ _ h=>h) w1 w2 v' hC1 hw1 r1 r2 hC2 r4⟩
end
theorem slat_src {α:Type} {f:α → List Value} {sz:Nat} (hsz:0<sz) (hf:∀ x,(f x).length=sz) {w:World} {v:Value} {xs:List α} {R:Nat → Nat → Nat → Prop} (h:SlAt sz v xs.length R)
  (hr:∀ i b o,(hi:i<xs.length) → R i b (o) → ∀ j,j<sz → w.cell? ⟨b,o+j,none⟩=(f xs[i])[j]?):SrcAt w sz v xs.length (xs.flatMap f):=by
 obtain ⟨a,cap,rfl,hc,hat⟩:=h
 refine ⟨flat_length hf xs,?_⟩
 cases a with
 | none =>
  by_cases h0:xs.length=0
  ·exact .inl ⟨h0,cap,by rw [h0]⟩
  ·obtain ⟨b,o,h1,_⟩:=hat 0 (by omega)
   cases h1
 | some ad =>
  refine .inr ⟨ad,cap,rfl,fun j u hj=>?_⟩
  have hlt:j<(xs.flatMap f).length:=by
   rcases Nat.lt_or_ge j (xs.flatMap f).length with h|h
   ·exact h
   ·rw [List.getElem?_eq_none h] at hj;cases hj
  rw [flat_length hf] at hlt
  have hd:j=(j / sz) * sz+j % sz:=by rw [Nat.mul_comm];exact (Nat.div_add_mod j sz).symm
  have hq:j / sz<xs.length:=Nat.div_lt_of_lt_mul (by rw [Nat.mul_comm];exact hlt)
  have hm:j % sz<sz:=Nat.mod_lt _ hsz
  obtain ⟨b,o,h1,h2⟩:=hat (j / sz) hq
  obtain rfl:=Option.some.inj h1
  have h3:=hr _ _ _ hq h2 (j % sz) hm
  rw [← flat_get hf xs (j / sz) (j % sz) hq hm,← hd,hj] at h3
  rw [← h3]
  have hadd:({ block:=b,off:=o }:Addr).add j=⟨b,o+j,none⟩:=by
   unfold Addr.add
   split
   ·rename_i h0;subst h0;rfl
   ·rfl
  rw [hadd,show o+j / sz * sz+j % sz=o+j by omega]
def DfsVals (w:World) (v:Value) (xs:List (Df × Value)):Prop :=
 SlAt 4 v xs.length (fun i b o=>∃ h:i<xs.length,∀ j,j<4 → w.cell? ⟨b,o+j,none⟩=(dfCells xs[i])[j]?)∧∀ x ∈ xs,NdsAt w x.2 x.1.body
theorem DfsVals.src {w:World} {v:Value} {xs:List (Df × Value)} (h:DfsVals w v xs):SrcAt w 4 v xs.length (xs.flatMap dfCells) :=
 slat_src (by omega) dfCells_len h.1 fun i b o hi ⟨_,h⟩=>h
theorem DfsVals.at {w:World} {v:Value} {xs:List (Df × Value)} (h:DfsVals w v xs):DfsAt w v (xs.map Prod.fst):=by
 obtain ⟨⟨a,cap,rfl,hc,hat⟩,hb⟩:=h
 refine ⟨a,cap,by simp,by simpa using hc,fun i hi=>?_⟩
 have hi':i<xs.length:=by simpa using hi
 obtain ⟨b,o,h1,_,h2⟩:=hat i hi'
 refine ⟨b,o,h1,hi,?_⟩
 rw [List.getElem_map]
 exact ⟨h2 0 (by omega),h2 1 (by omega),h2 2 (by omega),xs[i].2,h2 3 (by omega),hb _ (List.getElem_mem _)⟩
end Go.Proofs.YtbljmfcifljkaaaGreatDoor
/-
  Rows of lists of numbers; each wire once: the program's joined, isPermutation, occursOnce. Own work.
-/
namespace Go.Proofs.YtbljmfcifljkaaaGreatDoor
open Go.RowKit
set_option maxRecDepth 100000
set_option maxHeartbeats 4000000
theorem ints_src {w:World} {v:Value} {zs:List Int} (h:IntsAt w v zs):SrcAt w 1 v zs.length (zs.flatMap iCell):=by
 refine slat_src (by omega) iCell_len h ?_
 rintro i b o hi ⟨_,h0⟩ j hj
 obtain rfl:j=0:=by omega
 exact h0
theorem iCell_one (zs:List Int):∀ u ∈ zs.flatMap iCell,u.oneCell'=true:=by
 intro u hu
 obtain ⟨d,_,hd⟩:=List.mem_flatMap.1 hu
 simp [iCell] at hd
 subst hd;rfl
theorem ints_append {w:World} {v:Value} {zs:List Int} (h:IntsAt w v zs) {ops:Array Oper} {rest:List Oper} {o:Oper} {a:Act} {Q:Exit → Act → World → Prop} (hgd:o.guard=none) (s x:Operand)
  (ho:o.op=.call { callee:=.builtin .append,args:=#[s,x],argTypes:=#[40,40] })
  (B:Nat) (u:Value) (xs:List Int) (hs:a.eval s=u) (hx:a.eval x=v) (hown:Rw w B u xs) (hB:B≤w.heap.size) (hl:xs.length+zs.length≤1048576)
  (H:∀ v' w',Rw w' B v' (xs ++ zs) → w.grownBy w' u.ownBlock → (v'.ownBlock=u.ownBlock∨v'.ownBlock=some w.heap.size) → wpList Tryz.prog ops Q rest (a.put o.dst v') w'):wpList Tryz.prog ops Q (o :: rest) a w:=by
 obtain ⟨i0,hi,hz0,hz1,hz2⟩:=info_parts infoInt
 refine wpList_append_src hgd s x 40 ho B 3 i0 _ 1 8 Tryz.underlying40 hi hz0 hz1 hz2 rfl (by decide) u xs.length _ hs hown v zs.length _ hx (ints_src h) (iCell_one zs) (by unfold maxLen;omega) (by omega) hB ?_
 intro v' w' h1 h2 h3
 refine H v' w' ?_ h2 h3
 unfold Rw
 rw [List.length_append,List.flatMap_append]
 exact h1
theorem ints_empty (w:World) (g B:Nat) (hg:g=w.heap.size) (hB:B≤w.heap.size):Rw (w.alloc (.cells #[] 3)) B (.slice (some ⟨g,0,none⟩) 0 0) []:=by
 subst hg
 have:=World.ownsRow_made (base:=B) (size:=1) (e:=3) w #[] 0 hB (by unfold maxLen;omega) rfl
 simpa [Rw] using this
def LsAt (w:World) (v:Value) (Ls:List (List Int)):Prop:=SlAt 1 v Ls.length fun i b o=>∃ h:i<Ls.length,∃ u,w.cell? ⟨b,o,none⟩=some u∧IntsAt w u Ls[i]
theorem LsAt.keep {w w':World} (hb:Below w.heap.size w w') {v:Value} {Ls:List (List Int)} (h:LsAt w v Ls):LsAt w' v Ls :=
 SlAt.mono h fun _ _ _ ⟨hi,u,h1,h2⟩=>⟨hi,u,cell_keep hb h1,h2.keep hb⟩
theorem LsAt.slice {w:World} {v:Value} {Ls:List (List Int)} (h:LsAt w v Ls):∃ a c,v=.slice a Ls.length c:=by
 obtain ⟨a,cap,rfl,_⟩:=h;exact ⟨a,cap,rfl⟩
theorem flat_snoc (Ls:List (List Int)) (k:Nat) (h:k<Ls.length):(Ls.take (k+1)).flatten=(Ls.take k).flatten ++ Ls[k]:=by
 rw [List.take_succ_eq_append_getElem h,List.flatten_append]
 simp only [List.flatten_cons,List.flatten_nil,List.append_nil]
theorem flat_le (Ls:List (List Int)) (k:Nat) (h:k<Ls.length):(Ls.take (k+1)).flatten.length=(Ls.take k).flatten.length+Ls[k].length∧(Ls.take (k+1)).flatten.length≤Ls.flatten.length:=by
 refine ⟨by rw [flat_snoc Ls k h,List.length_append],?_⟩
 have h2:Ls.flatten=(Ls.take (k+1)).flatten ++ (Ls.drop (k+1)).flatten:=by rw [← List.flatten_append,List.take_append_drop]
 rw [h2,List.length_append]
 omega
theorem joined_any (v:Value) (Ls:List (List Int)) (w:World) (hv:LsAt w v Ls) (hn:Ls.length≤1000) (hm:Ls.flatten.length≤1000) :
  Calls Tryz.prog 251 #[v] w fun e w'=>∃ v',e=.returned v'∧Rw w' w.heap.size v' Ls.flatten∧Below w.heap.size w w':=by
 obtain ⟨a,cap,rfl,hc,hat⟩:=hv
 go_enter Tryz.func251,Tryz.ntmps251
 go_wp2
 have hr0:=ints_empty w w.heap.size w.heap.size rfl (Nat.le_refl _)
 have hb0:=alloc_below w (.cells #[] 3)
 go_loopw [3,9] (fun rv i wr=>∃ k:Nat,k≤Ls.length∧i=.int .i64 k∧Rw wr w.heap.size rv (Ls.take k).flatten∧Below w.heap.size w wr) (fun _ i _=>Ls.length - (intOf i).toNat)
 case atStart=>exact ⟨0,Nat.zero_le _,rfl,hr0,hb0⟩
 case round =>
  clear hr0 hb0
  obtain ⟨k,hk,rfl,hrow,hbel⟩:=hrel
  by_cases hlt:k<Ls.length
  ·obtain ⟨b,o,rfl,_,u,c0,hu⟩:=hat k hlt
   rw [Nat.mul_one] at c0
   replace c0:=cell_keep hbel c0
   replace hu:=hu.keep hbel
   have bz:=cell_lt c0
   obtain ⟨f1,f2⟩:=flat_le Ls k hlt
   have hwz:=hbel.size
   have hT:=flat_snoc Ls k hlt
   have HT:=Lib.hid hT
   obtain ⟨au,cu,rfl⟩:=hu.slice
   obtain ⟨ar,cr,rfl⟩:=hrow.slice
   clear hat hT
   go_wp2_with (at_builtin;refine ints_append hu rfl (.tmp 13) (.tmp 14) rfl w.heap.size (.slice ar (Ls.take k).flatten.length cr) (Ls.take k).flatten rfl rfl hrow hwz (by omega) ?_;intro v2 w2 h1 h2 h3)
   have hb2:Below w.heap.size w w2:=hbel.grown h2 hwz (fun j hj=>(World.ownsRow.lt hrow j hj).1)
   go_roundw
   case rel=>exact ⟨k+1,by omega,by go_num,by rw [HT.out];exact h1,hb2⟩
   case measure=>simp [intOf];omega
  ·obtain rfl:k=Ls.length:=by omega
   rw [List.take_length] at hrow
   go_wp2
   go_ret
   exact ⟨_,rfl,hrow,hbel⟩
theorem permB_no1 {l:List Int} {n:Int} (h:¬ (l.length:Int)=n):permB l n=false:=by unfold permB;rw [decide_eq_false h];rfl
theorem permB_no2 {l:List Int} {n:Int} {k:Nat} (hk:k<l.length) (h:inB l[k] 0 (n - 1)=false):permB l n=false:=by
 unfold permB
 have:inG n l=false:=List.all_eq_false.2 ⟨_,List.getElem_mem hk,by simp [h]⟩
 rw [this];simp
theorem permB_no3 {l:List Int} {n:Int} {k:Nat} (hk:k<l.length) (h:l[k] ∈ l.take k):permB l n=false:=by
 unfold permB
 have:¬ l.Nodup:=by
  intro hd
  have h2:l=l.take k ++ l.drop k:=(List.take_append_drop k l).symm
  rw [h2,List.nodup_append] at hd
  exact hd.2.2 _ h _ (by rw [List.drop_eq_getElem_cons hk];exact List.mem_cons.2 (Or.inl rfl)) rfl
 rw [decide_eq_false this];simp
theorem permB_yes {l:List Int} {n:Int} (h1:(l.length:Int)=n) (h2:inG n l=true) (h3:l.Nodup):permB l n=true:=by
 unfold permB;rw [decide_eq_true h1,h2,decide_eq_true h3];rfl
theorem nodup_snoc {l:List Int} {x:Int} (h:l.Nodup) (hx:x ∉ l):(l ++ [x]).Nodup:=by
 rw [List.nodup_append]
 exact ⟨h,by simp,fun a ha b hb=>by simp at hb;subst hb;exact fun e=>hx (e ▸ ha)⟩
theorem isPermutation_any (v:Value) (zs:List Int) (z:Int) (w:World) (hv:IntsAt w v zs) (hn:zs.length≤1000) :
  Calls Tryz.prog 257 #[v,.int .i64 z] w (FlP (permB zs z) w):=by
 obtain ⟨a,cap,rfl,hc,hat⟩:=hv
 by_cases hz:(zs.length:Int)=z
 ·subst hz
  obtain ⟨i0,hi,hz0,hz1,hz2⟩:=info_parts infoBool
  have hbe:((zs.length:Int) != zs.length)=false:=by simp
  obtain ⟨n,hnn⟩:∃ n,zs.length=n:=⟨_,rfl⟩
  replace hat:=fun (i:Nat) (hi:i<n)=>hat i (by rw [hnn];exact hi)
  rw [hnn] at hn hc hbe ⊢
  have HNN:=Lib.hid hnn.symm
  clear hnn
  go_enter Tryz.func257,Tryz.ntmps257
  go_wp2_with (at_make;refine wpList_make_full _ rfl _ _ _ rfl w.heap.size 4 i0 _ 1 Tryz.underlying307 hi hz0 hz1 _ _ _ _ n rfl rfl rfl rfl (by rw [hz2];omega) (by unfold maxLen;omega) (Nat.le_refl _) ?_;intro w1 hown hgr)
  have hzm:=made_flat (f:=bCell) false n (sz:=1) (by omega) rfl
  have hrow:w1.ownsRow w.heap.size 4 1 (.slice (some ⟨w.heap.size,0,none⟩) n n) n ((seenL n []).flatMap bCell):=by rw [seenL_nil,← hzm];exact hown
  have hb1:Below w.heap.size w w1:=(Below.refl _ _).grown hgr (Nat.le_refl _) (by simp)
  clear hown hzm hgr hi hz0 hz1 hz2
  go_loopw [16] (fun i wr=>∃ k:Nat,k≤n∧i=.int .i64 k∧wr.ownsRow w.heap.size 4 1 (.slice (some ⟨w.heap.size,0,none⟩) n n) n ((seenL n (zs.take k)).flatMap bCell)∧Below w.heap.size w wr∧inG n (zs.take k)=true∧(zs.take k).Nodup) (fun i _=>n - (intOf i).toNat)
  case atStart=>exact ⟨0,Nat.zero_le _,rfl,hrow,hb1,rfl,by simp⟩
  case round =>
   clear hrow hb1
   obtain ⟨k,hk,rfl,hrow,hbel,hin,hnd⟩:=hrel
   by_cases hlt:k<n
   ·have hlz:k<zs.length:=by rw [← HNN.out];exact hlt
    obtain ⟨b,o,rfl,_,c0⟩:=hat k hlt
    rw [Nat.mul_one] at c0
    replace c0:=cell_keep hbel c0
    have bz:=cell_lt c0
    obtain ⟨x,hx⟩:∃ x,zs[k]=x:=⟨_,rfl⟩
    have hT1:zs.take (k+1)=zs.take k ++ [x]:=by rw [List.take_succ_eq_append_getElem hlz,hx]
    rw [hx] at c0
    have w1:IntKind.i64.wrap ((n:Int) - 1)=(n:Int) - 1:=IntWalk.i64_in _ (by omega)
    have HS:=Lib.hid (And.intro hin (And.intro hnd hT1))
    clear hat hin hnd hT1
    cases hib:inB x 0 ((n:Int) - 1) with
    | false =>
     have hfin:permB zs n=false:=permB_no2 hlz (by rw [hx];exact hib)
     have HB:=Lib.hid hib
     have HFIN:=Lib.hid hfin
     clear hib hfin hx
     go_wp2_with (go_at_call 128;refine (within_any _ _ _ _).mono ?_;rintro r w2 ⟨rfl,rfl⟩;rw [HB.out])
     go_ret
     exact ⟨by rw [HFIN.out];rfl,hbel⟩
    | true =>
     have hz2:0≤x∧x<n:=by simp [inB] at hib;omega
     obtain ⟨m,rfl⟩:∃ m:Nat,x=m:=⟨x.toNat,by omega⟩
     have hmn:m<n:=by omega
     have HB:=Lib.hid hib
     clear hib hz2
     have s0:=owns_cell bCell_len hrow m 0 (by rw [seenL_len];exact hmn) (by omega)
     rw [seenL_get] at s0
     have f0:=hrow.frozenAt m
     simp only [bCell,Nat.mul_one,Nat.add_zero,List.getElem?_cons_zero] at s0
     have zg2:=cell_lt s0
     cases hs:(zs.take k).contains (m:Int) with
     | true =>
      rw [hs] at s0
      have hfin:permB zs n=false:=permB_no3 hlz (by rw [hx];simpa using hs)
      have HFIN:=Lib.hid hfin
      clear hs hfin hx hrow
      go_wp2_with (go_at_call 128;refine (within_any _ _ _ _).mono ?_;rintro r w2 ⟨rfl,rfl⟩;rw [HB.out])
      go_ret
      exact ⟨by rw [HFIN.out];rfl,hbel⟩
     | false =>
      rw [hs] at s0
      have hrow2:=owns_set bCell_len hrow m 0 m (by rw [seenL_len];exact hmn) (by omega) (by omega) (.bool true) true rfl
      rw [← seenL_in n (zs.take k) m hmn,← HS.out.2.2] at hrow2
      have hnm:(m:Int) ∉ zs.take k:=by simpa using hs
      have hin2:inG n (zs.take (k+1))=true:=by rw [HS.out.2.2,inG_snoc,HS.out.1,HB.out];rfl
      have hnd2:(zs.take (k+1)).Nodup:=by rw [HS.out.2.2];exact nodup_snoc HS.out.2.1 hnm
      have HN2:=Lib.hid (And.intro hin2 hnd2)
      clear hs hx hrow hnm hin2 hnd2
      go_wp2_with (go_at_call 128;refine (within_any _ _ _ _).mono ?_;rintro r w2 ⟨rfl,rfl⟩;rw [HB.out])
      go_roundw
      case rel=>exact ⟨k+1,by omega,by go_num,hrow2,hbel.setCell (Nat.le_refl _) _,HN2.out.1,HN2.out.2⟩
      case measure=>simp [intOf];omega
   ·obtain rfl:k=n:=by omega
    rw [List.take_of_length_le (by rw [← HNN.out];exact Nat.le_refl _)] at hin hnd
    have hfin:permB zs k=true:=permB_yes (by rw [← HNN.out]) hin hnd
    have HFIN:=Lib.hid hfin
    clear hfin hat hin hnd hrow
    go_wp2
    go_ret
    exact ⟨by rw [HFIN.out];rfl,hbel⟩
 ·have hfin:=permB_no1 hz
  have HFIN:=Lib.hid hfin
  have hbe:((zs.length:Int) != z)=true:=by simpa using hz
  clear hfin hat hz
  go_enter Tryz.func257,Tryz.ntmps257
  go_wp2
  go_ret
  exact ⟨by rw [HFIN.out];rfl,Below.refl _ _⟩
theorem occursOnce_any (v:Value) (Ls:List (List Int)) (z:Int) (w:World) (hv:LsAt w v Ls) (hn:Ls.length≤1000) (hm:Ls.flatten.length≤1000) :
  Calls Tryz.prog 192 #[.int .i64 z,v] w (FlP (permB Ls.flatten z) w):=by
 have hj:=joined_any v Ls w hv hn hm
 obtain ⟨a,c,rfl⟩:=hv.slice
 obtain ⟨F,hF⟩:∃ F,Ls.flatten=F:=⟨_,rfl⟩
 rw [hF] at hj hm ⊢
 have HJ:=Lib.hid hj
 clear hj hF hv
 go_enter Tryz.func192,Tryz.ntmps192
 go_wp2_with fail
 refine HJ.out.mono ?_
 rintro r w1 ⟨v1,rfl,hr,hb⟩
 obtain ⟨a1,c1,rfl⟩:=hr.slice
 go_wp2_with fail
 refine (isPermutation_any _ F z _ hr.at hm).mono ?_
 rintro r w2 ⟨rfl,hb2⟩
 go_wp2
 go_ret
 exact ⟨rfl,hb.trans (hb2.mono hb.size)⟩
end Go.Proofs.YtbljmfcifljkaaaGreatDoor
