/-
  The reference's sxWord: the text of a leaf. Own work.
-/
import Derived.Test.YtldhpaflmnlcaaaGreatDoorQU
import Derived.Test.YtldhpaflmnlcaaaGreatDoorQE
import Derived.Test.YtldhpaflmnlcaaaGreatDoorQW
set_option linter.all false
set_option maxRecDepth 100000
set_option maxHeartbeats 8000000
namespace Go.Proofs.YtldhpaflmnlcaaaGreatDoor
open Go.RowKit
theorem res_cell {w:World} {v:Value} {j:Nat} {b:Nat} {n c:Nat} (h:StrsAt w v reserved) (hv:v=.slice (some ⟨b,0,none⟩) n c) (hk:j<14):w.cell? ⟨b,j,none⟩=some (.string (word ((j:Int)+1))):=by
 subst hv
 obtain ⟨a,cap,ha,hc,hat⟩:=h
 simp only [Value.slice.injEq,Option.some.injEq] at ha
 obtain ⟨rfl,_,_⟩:=ha
 obtain ⟨b',o',hb,hl,hx⟩:=hat j hk
 simp only [Option.some.injEq,Addr.mk.injEq] at hb
 obtain ⟨rfl,rfl,_⟩:=hb
 have e:(⟨b,0+j * 1,none⟩:Addr)=⟨b,j,none⟩:=by simp
 rw [e] at hx
 rw [hx]
 unfold word kwords
 have e2:((j:Int)+1).toNat=j+1:=by omega
 rw [List.getD_eq_getElem?_getD,e2,List.getElem?_cons_succ,List.getElem?_eq_getElem hl]
 rfl
theorem lbRes_any (j:Nat) (hk:j<14) (w:World):Calls Tryz.prog 153 #[] w fun e w'=>∃ n:Nat,e=.returned (.slice (some ⟨w.heap.size,0,none⟩) n n)∧j<n∧w'.cell? ⟨w.heap.size,j,none⟩=some (.string (word ((j:Int)+1)))∧Below w.heap.size w w'∧w.heap.size<w'.heap.size :=
 (lbReserved_any w).mono fun e w' ⟨n,q1,q2,q3,q4,q5,q6⟩=>⟨n,q1,by omega,res_cell q4 rfl hk,q5,q6⟩
theorem lbRes_1 (w:World):Calls Tryz.prog 153 #[] w fun e w'=>∃ n:Nat,e=.returned (.slice (some ⟨w.heap.size,0,none⟩) n n)∧0<n∧w'.cell? ⟨w.heap.size,0,none⟩=some (.string (word 1))∧Below w.heap.size w w'∧w.heap.size<w'.heap.size:=lbRes_any 0 (by omega) w
theorem sxWord_1 (nv:Int) (nn:ByteArray) (w:World) (h3:0≤nv) (h4:nv≤96) (hnum:∀ w,Calls Tryz.prog 128 #[.int .i64 nv] w fun e w'=>e=.returned (.string (numT nv))∧Below w.heap.size w w') :
  Calls Tryz.prog 181 #[.agg #[.int .i64 1,.int .i64 nv,.string nn]] w fun e w'=>e=.returned (.string (word 1 ++ bSp ++ numT nv))∧Below w.heap.size w w':=by
 have hsz:=word_size 1
 have hsz2:=numT_size h3 h4
 have hbz:(bSp ++ numT nv).size≤3:=by rw [bsize];have:bSp.size=1:=rfl;omega
 have e1:IntKind.i64.wrap (1 - 1)=0:=by decide
 have e2:IntKind.i64.wrap 0=0:=by decide
 go_enter Tryz.func181,Tryz.ntmps181
 go_wp2_with fail
 go_region_with ((go_at_call 153;refine (lbRes_1 _).mono ?_;rintro e w3 ⟨n3,rfl,hkn,hc0,hb3,hz3⟩;obtain ⟨hc3,hf3,hs3⟩:=bcell hb3;simp only [World.size_alloc,World.size_drew] at hc0 hz3 hs3 hb3 hc3 hf3))
 all_goals
  clear e1 e2
  go_wp2_with (go_at_call 128;refine (hnum _).mono ?_;rintro e w4 ⟨rfl,hb4⟩)
  go_ret
  refine ⟨by rw [ByteArray.append_assoc];rfl,?_⟩
  first|(refine Below.trans ?_ (Below.mono hb4 (by omega));refine Below.trans ?_ (Below.mono hb3 (by omega));repeat (first|exact Below.refl _ _|with_reducible refine Below.drew ?_|refine Below.alloc ?_ (by simp <;> omega) _))|(refine Below.trans ?_ (Below.mono hb3 (by omega));repeat (first|exact Below.refl _ _|with_reducible refine Below.drew ?_|refine Below.alloc ?_ (by simp <;> omega) _))
theorem lbRes_7 (w:World):Calls Tryz.prog 153 #[] w fun e w'=>∃ n:Nat,e=.returned (.slice (some ⟨w.heap.size,0,none⟩) n n)∧6<n∧w'.cell? ⟨w.heap.size,6,none⟩=some (.string (word 7))∧Below w.heap.size w w'∧w.heap.size<w'.heap.size:=lbRes_any 6 (by omega) w
theorem sxWord_7 (nv:Int) (nn:ByteArray) (w:World) (h3:0≤nv) (h4:nv≤96) (hnum:∀ w,Calls Tryz.prog 128 #[.int .i64 nv] w fun e w'=>e=.returned (.string (numT nv))∧Below w.heap.size w w') :
  Calls Tryz.prog 181 #[.agg #[.int .i64 7,.int .i64 nv,.string nn]] w fun e w'=>e=.returned (.string (word 7 ++ bSp ++ numT nv))∧Below w.heap.size w w':=by
 have hsz:=word_size 7
 have hsz2:=numT_size h3 h4
 have hbz:(bSp ++ numT nv).size≤3:=by rw [bsize];have:bSp.size=1:=rfl;omega
 have e1:IntKind.i64.wrap (7 - 1)=6:=by decide
 have e2:IntKind.i64.wrap 6=6:=by decide
 go_enter Tryz.func181,Tryz.ntmps181
 go_wp2_with fail
 go_region_with ((go_at_call 153;refine (lbRes_7 _).mono ?_;rintro e w3 ⟨n3,rfl,hkn,hc0,hb3,hz3⟩;obtain ⟨hc3,hf3,hs3⟩:=bcell hb3;simp only [World.size_alloc,World.size_drew] at hc0 hz3 hs3 hb3 hc3 hf3))
 all_goals
  clear e1 e2
  go_wp2_with (go_at_call 128;refine (hnum _).mono ?_;rintro e w4 ⟨rfl,hb4⟩)
  go_ret
  refine ⟨by rw [ByteArray.append_assoc];rfl,?_⟩
  first|(refine Below.trans ?_ (Below.mono hb4 (by omega));refine Below.trans ?_ (Below.mono hb3 (by omega));repeat (first|exact Below.refl _ _|with_reducible refine Below.drew ?_|refine Below.alloc ?_ (by simp <;> omega) _))|(refine Below.trans ?_ (Below.mono hb3 (by omega));repeat (first|exact Below.refl _ _|with_reducible refine Below.drew ?_|refine Below.alloc ?_ (by simp <;> omega) _))
theorem lbRes_13 (w:World):Calls Tryz.prog 153 #[] w fun e w'=>∃ n:Nat,e=.returned (.slice (some ⟨w.heap.size,0,none⟩) n n)∧12<n∧w'.cell? ⟨w.heap.size,12,none⟩=some (.string (word 13))∧Below w.heap.size w w'∧w.heap.size<w'.heap.size:=lbRes_any 12 (by omega) w
theorem sxWord_13 (nv:Int) (nn:ByteArray) (w:World) (h3:0≤nv) (h4:nv≤96) (hnum:∀ w,Calls Tryz.prog 128 #[.int .i64 nv] w fun e w'=>e=.returned (.string (numT nv))∧Below w.heap.size w w') :
  Calls Tryz.prog 181 #[.agg #[.int .i64 13,.int .i64 nv,.string nn]] w fun e w'=>e=.returned (.string (word 13 ++ bSp ++ numT nv))∧Below w.heap.size w w':=by
 have hsz:=word_size 13
 have hsz2:=numT_size h3 h4
 have hbz:(bSp ++ numT nv).size≤3:=by rw [bsize];have:bSp.size=1:=rfl;omega
 have e1:IntKind.i64.wrap (13 - 1)=12:=by decide
 have e2:IntKind.i64.wrap 12=12:=by decide
 go_enter Tryz.func181,Tryz.ntmps181
 go_wp2_with fail
 go_region_with ((go_at_call 153;refine (lbRes_13 _).mono ?_;rintro e w3 ⟨n3,rfl,hkn,hc0,hb3,hz3⟩;obtain ⟨hc3,hf3,hs3⟩:=bcell hb3;simp only [World.size_alloc,World.size_drew] at hc0 hz3 hs3 hb3 hc3 hf3))
 all_goals
  clear e1 e2
  go_wp2_with (go_at_call 128;refine (hnum _).mono ?_;rintro e w4 ⟨rfl,hb4⟩)
  go_ret
  refine ⟨by rw [ByteArray.append_assoc];rfl,?_⟩
  first|(refine Below.trans ?_ (Below.mono hb4 (by omega));refine Below.trans ?_ (Below.mono hb3 (by omega));repeat (first|exact Below.refl _ _|with_reducible refine Below.drew ?_|refine Below.alloc ?_ (by simp <;> omega) _))|(refine Below.trans ?_ (Below.mono hb3 (by omega));repeat (first|exact Below.refl _ _|with_reducible refine Below.drew ?_|refine Below.alloc ?_ (by simp <;> omega) _))
theorem sxWord_bare (j:Nat) (nv:Int) (nn:ByteArray) (w:World) (h2:j<14) (hv:¬ ((j:Int)+1=1∨(j:Int)+1=7∨(j:Int)+1=13)) :
  Calls Tryz.prog 181 #[.agg #[.int .i64 ((j:Int)+1),.int .i64 nv,.string nn]] w fun e w'=>e=.returned (.string (word ((j:Int)+1)))∧Below w.heap.size w w':=by
 have g1:((j:Int)+1 == 17)=false:=by simp;omega
 have g2:((j:Int)+1 == 1)=false:=by simp;omega
 have g3:((j:Int)+1 == 7)=false:=by simp;omega
 have g4:((j:Int)+1 == 13)=false:=by simp;omega
 have e1:IntKind.i64.wrap ((j:Int)+1 - 1)=j:=by rw [show (j:Int)+1 - 1=j by omega];exact IntWalk.i64_in _ (by omega)
 have e2:IntKind.i64.wrap (j:Int)=j:=IntWalk.i64_in _ (by omega)
 have hj0:(0:Int)≤j:=by omega
 clear hv
 go_enter Tryz.func181,Tryz.ntmps181
 go_wp2_with fail
 go_region_with ((go_at_call 153;refine (lbRes_any j (by omega) _).mono ?_;rintro e w3 ⟨n3,rfl,hkn,hc0,hb3,hz3⟩;obtain ⟨hc3,hf3,hs3⟩:=bcell hb3;simp only [World.size_alloc,World.size_drew] at hc0 hz3 hs3 hb3 hc3 hf3))
 all_goals
  clear e1 e2
  go_wp2
  go_ret
  refine ⟨rfl,?_⟩
  first|(refine Below.trans ?_ (Below.mono hb4 (by omega));refine Below.trans ?_ (Below.mono hb3 (by omega));repeat (first|exact Below.refl _ _|with_reducible refine Below.drew ?_|refine Below.alloc ?_ (by simp <;> omega) _))|(refine Below.trans ?_ (Below.mono hb3 (by omega));repeat (first|exact Below.refl _ _|with_reducible refine Below.drew ?_|refine Below.alloc ?_ (by simp <;> omega) _))
theorem sxWord_any (n:Nd) (w:World) (hok:LeafOk n) (hnum:∀ v w,0≤v → v≤96 → Calls Tryz.prog 128 #[.int .i64 v] w fun e w'=>e=.returned (.string (numT v))∧Below w.heap.size w w') :
  Calls Tryz.prog 181 #[.agg #[.int .i64 n.kind,.int .i64 n.value,.string n.name]] w fun e w'=>e=.returned (.string (leafTxt n))∧Below w.heap.size w w':=by
 by_cases h17:n.kind=17
 ·have g1:(n.kind == 17)=true:=by simp [h17]
  have HR:Hid (leafTxt n=n.name):=(show _=_ by simp [leafTxt,h17])
  clear h17 hok hnum
  go_enter Tryz.func181,Tryz.ntmps181
  go_wp2
  go_ret
  exact ⟨by rw [HR.out];rfl,alloc_below _ _⟩
 ·obtain ⟨h1,h2,h3,h4⟩:1≤n.kind∧n.kind≤14∧0≤n.value∧n.value≤96:=by
   rcases hok with ⟨h,_⟩|h
   ·exact absurd h h17
   ·exact h
  obtain ⟨nk,nv,nn⟩:=n
  simp only at h17 h1 h2 h3 h4
  by_cases hv:nk=1∨nk=7∨nk=13
  ·rw [show leafTxt ⟨nk,nv,nn⟩=word nk ++ bSp ++ numT nv by unfold leafTxt;rw [if_neg h17,if_pos hv]]
   rcases hv with rfl|rfl|rfl
   ·exact sxWord_1 nv nn w h3 h4 fun w=>hnum nv w h3 h4
   ·exact sxWord_7 nv nn w h3 h4 fun w=>hnum nv w h3 h4
   ·exact sxWord_13 nv nn w h3 h4 fun w=>hnum nv w h3 h4
  ·rw [show leafTxt ⟨nk,nv,nn⟩=word nk by unfold leafTxt;rw [if_neg h17,if_neg hv]]
   obtain ⟨j,hj⟩:=Int.eq_ofNat_of_zero_le (show 0≤nk - 1 by omega)
   obtain rfl:nk=(j:Int)+1:=by omega
   exact sxWord_bare j nv nn w (by omega) hv
end Go.Proofs.YtldhpaflmnlcaaaGreatDoor
/-
  The reference's sxPrint: the text of a term, without all parentheses. Own work.
-/
namespace Go.Proofs.YtldhpaflmnlcaaaGreatDoor
open Go.RowKit
theorem infoStr:(Tryz.prog.info? 9).map (fun i=>(i.zero,i.size,i.bytes))=some (some (.string ⟨#[]⟩),1,16):=by kernel_rfl
theorem infoI64:(Tryz.prog.info? 3).map (fun i=>(i.zero,i.size,i.bytes))=some (some (.int .i64 0),1,8):=by kernel_rfl
def xCell (t:Tr):List Value:=[.string (prT false t)]
def kCell (t:Tr):List Value:=[.int .i64 t.top]
theorem xCell_len (t:Tr):(xCell t).length=1:=rfl
theorem kCell_len (t:Tr):(kCell t).length=1:=rfl
theorem top_seq {t:Tr} (h:t.Ok):(t.top == 15)=t.isSeq:=by
 cases t with
 | leaf n=>simp only [Tr.Ok,LeafOk] at h;simp [Tr.top,Tr.isSeq];omega
 | seq a b=>rfl
 | par a b=>rfl
theorem top_par {t:Tr} (h:t.Ok):(t.top == 16)=t.isPar:=by
 cases t with
 | leaf n=>simp only [Tr.Ok,LeafOk] at h;simp [Tr.top,Tr.isPar];omega
 | seq a b=>rfl
 | par a b=>rfl
structure SxSt (ns:List Nd) (w wr:World) (v5 v6:Value) (k:Nat) (st:List Tr):Prop where
 txt:wr.ownsRow w.heap.size 9 1 v5 st.length (st.flatMap xCell)
 knd:wr.ownsRow w.heap.size 3 1 v6 st.length (st.flatMap kCell)
 go:Hid (treesGo ns []=treesGo (ns.drop k) st.reverse)
 bel:Below w.heap.size w wr
 len:st.length≤k
 ok:∀ t ∈ st,t.Ok
 cnt:∀ t ∈ st,t.count≤400
theorem treesGo_ok:∀ (ns:List Nd) (st:List Tr) {ts:List Tr},treesGo ns st=some ts → (∀ t ∈ ts,t.Ok) → (∀ t ∈ st,t.Ok)∧∀ n ∈ ns,¬ (n.kind=15∨n.kind=16) → LeafOk n
 | [],st,ts,h,ho=>by
  simp only [treesGo,Option.some.injEq] at h
  subst h
  exact ⟨ho,by simp⟩
 | n :: r,st,ts,h,ho=>by
  by_cases h15:n.kind=15
  ·match st,h with
   | b :: a :: st',h =>
    rw [treesGo_seq h15] at h
    obtain ⟨h1,h2⟩:=treesGo_ok r _ h ho
    have hs:=h1 (.seq a b) (by simp)
    refine ⟨fun t ht=>?_,fun m hm hk=>?_⟩
    ·rcases List.mem_cons.1 ht with rfl|ht
     ·exact hs.2
     ·rcases List.mem_cons.1 ht with rfl|ht
      ·exact hs.1
      ·exact h1 t (by simp [ht])
    ·rcases List.mem_cons.1 hm with rfl|hm
     ·exact absurd (.inl h15) hk
     ·exact h2 m hm hk
   | [],h=>rw [treesGo_short (.inl h15) (by simp)] at h;cases h
   | [a],h=>rw [treesGo_short (.inl h15) (by simp)] at h;cases h
  ·by_cases h16:n.kind=16
   ·match st,h with
    | b :: a :: st',h =>
     rw [treesGo_par h16] at h
     obtain ⟨h1,h2⟩:=treesGo_ok r _ h ho
     have hs:=h1 (.par a b) (by simp)
     refine ⟨fun t ht=>?_,fun m hm hk=>?_⟩
     ·rcases List.mem_cons.1 ht with rfl|ht
      ·exact hs.2
      ·rcases List.mem_cons.1 ht with rfl|ht
       ·exact hs.1
       ·exact h1 t (by simp [ht])
     ·rcases List.mem_cons.1 hm with rfl|hm
      ·exact absurd (.inr h16) hk
      ·exact h2 m hm hk
    | [],h=>rw [treesGo_short (.inr h16) (by simp)] at h;cases h
    | [a],h=>rw [treesGo_short (.inr h16) (by simp)] at h;cases h
   ·rw [treesGo_leaf (by omega)] at h
    obtain ⟨h1,h2⟩:=treesGo_ok r _ h ho
    refine ⟨fun t ht=>h1 t (by simp [ht]),fun m hm hk=>?_⟩
    rcases List.mem_cons.1 hm with rfl|hm
    ·exact h1 (.leaf m) (by simp)
    ·exact h2 m hm hk
theorem treesGo_cnt:∀ (ns:List Nd) (st:List Tr) {ts:List Tr},treesGo ns st=some ts → sumC ts=sumC st+ns.length
 | [],st,ts,h=>by simp only [treesGo,Option.some.injEq] at h;subst h;simp
 | n :: r,st,ts,h=>by
  by_cases h15:n.kind=15
  ·match st,h with
   | b :: a :: st',h=>rw [treesGo_seq h15] at h;rw [treesGo_cnt r _ h];simp [sumC,Tr.count];omega
   | [],h=>rw [treesGo_short (.inl h15) (by simp)] at h;cases h
   | [a],h=>rw [treesGo_short (.inl h15) (by simp)] at h;cases h
  ·by_cases h16:n.kind=16
   ·match st,h with
    | b :: a :: st',h=>rw [treesGo_par h16] at h;rw [treesGo_cnt r _ h];simp [sumC,Tr.count];omega
    | [],h=>rw [treesGo_short (.inr h16) (by simp)] at h;cases h
    | [a],h=>rw [treesGo_short (.inr h16) (by simp)] at h;cases h
   ·rw [treesGo_leaf (by omega)] at h;rw [treesGo_cnt r _ h];simp [sumC,Tr.count];omega
theorem mem_sumC {st:List Tr} {t:Tr} (h:t ∈ st):t.count≤sumC st:=by
 induction st with
 | nil=>cases h
 | cons x r ih =>
  simp only [sumC,List.map_cons,List.sum_cons]
  rcases List.mem_cons.1 h with rfl|h
  ·omega
  ·have:=ih h;simp only [sumC] at this;omega
theorem stack_ok {ns:List Nd} {k:Nat} {st:List Tr} {t:Tr} (h:treesGo (ns.drop k) st.reverse=some [t]) (ho:t.Ok) (hc:t.count≤400):(∀ x ∈ st,x.Ok)∧∀ x ∈ st,x.count≤400:=by
 obtain ⟨h1,_⟩:=treesGo_ok _ _ h (by simpa using ho)
 have h2:=treesGo_cnt _ _ h
 have h3:sumC [t]=t.count:=by simp [sumC]
 refine ⟨fun x hx=>h1 x (by simpa using hx),fun x hx=>?_⟩
 have:=mem_sumC (st:=st.reverse) (by simpa using hx)
 omega
theorem apart_or {a b:Value} (h:Apart a b):a.ownBlock=none∨a.ownBlock ≠ b.ownBlock:=by
 cases ha:a.ownBlock with
 | none=>exact .inl rfl
 | some k=>exact .inr fun e=>h k ha e.symm
theorem sx_push {ns:List Nd} {w wr:World} {v5 v6:Value} {k:Nat} {st0:List Tr} {x t:Tr} (ht:treesGo ns []=some [t]) (ho:t.Ok) (hc:t.count≤400)
  (h5:wr.ownsRow w.heap.size 9 1 v5 (st0.length+1) (st0.flatMap xCell ++ [.string (prT false x)])) (h6:wr.ownsRow w.heap.size 3 1 v6 (st0.length+1) (st0.flatMap kCell ++ [.int .i64 x.top]))
  (hgo:Hid (treesGo ns []=treesGo (ns.drop (k+1)) (x :: st0.reverse))) (hb:Below w.heap.size w wr) (hk:st0.length≤k):SxSt ns w wr v5 v6 (k+1) (st0 ++ [x]):=by
 have hgo':treesGo ns []=treesGo (ns.drop (k+1)) (st0 ++ [x]).reverse:=by rw [List.reverse_append];exact hgo.out
 obtain ⟨q1,q2⟩:=stack_ok (hgo'.symm.trans ht) ho hc
 refine ⟨?_,?_,hgo',hb,by simp;omega,q1,q2⟩
 ·rw [List.length_append,List.flatMap_append];exact h5
 ·rw [List.length_append,List.flatMap_append];exact h6
theorem sxPrint_any (v:Value) (ns:List Nd) (t:Tr) (w:World) (hv:NdsAt w v ns) (hn:ns.length≤1048576) (ht:treesGo ns []=some [t]) (ho:t.Ok) (hc4:t.count≤400)
  (hnum:∀ v w,0≤v → v≤96 → Calls Tryz.prog 128 #[.int .i64 v] w fun e w'=>e=.returned (.string (numT v))∧Below w.heap.size w w') :
  Calls Tryz.prog 124 #[.agg #[v],.bool false] w fun e w'=>e=.returned (.string (prT false t))∧Below w.heap.size w w':=by
 obtain ⟨a,cap,rfl,hc,hat⟩:=hv
 have HT:=Lib.hid ht
 have hlf:=(treesGo_ok ns [] ht (by simpa using ho)).2
 clear ht
 obtain ⟨i5,hi5,hz0,hz1,hz2⟩:=info_parts infoStr
 obtain ⟨i6,hi6,hy0,hy1,hy2⟩:=info_parts infoI64
 go_enter Tryz.func124,Tryz.ntmps124
 go_wp2
 go_loopw [5,6,18] (fun v5 v6 i wr=>∃ (k:Nat) (st:List Tr),k≤ns.length∧i=.int .i64 k∧SxSt ns w wr v5 v6 k st) (fun _ _ i _=>ns.length - (intOf i).toNat)
 case atStart =>
  refine ⟨0,[],Nat.zero_le _,rfl,⟨by simp,.inl ⟨rfl,rfl⟩⟩,⟨by simp,.inl ⟨rfl,rfl⟩⟩,(by simp [Hid]:Hid (treesGo ns []=treesGo (ns.drop 0) ([]:List Tr).reverse)),alloc_below _ _,Nat.le_refl _,by simp,by simp⟩
 case round =>
  obtain ⟨k,st,hk,rfl,hst⟩:=hrel
  obtain ⟨hx5,hx6,hgo,hbel,hstk,hok,hcnt⟩:=hst
  have hsz:=hbel.size
  by_cases hlt:k<ns.length
  ·obtain ⟨b,o,rfl,_,hnd⟩:=hat k hlt
   obtain ⟨c0,c1,c2⟩:=hnd.keep hbel
   clear hat hnd
   have hdrop:=List.drop_eq_getElem_cons hlt
   by_cases hk1:ns[k].kind=15∨ns[k].kind=16
   ·have hlen:¬ st.length<2:=by
     intro hlen
     have h0:=hgo.out
     rw [HT.out,hdrop,treesGo_short hk1 (by simpa using hlen)] at h0
     cases h0
    obtain ⟨st0,p,q,rfl⟩:=last_two st hlen
    obtain ⟨g5,cp5,rfl,hgc5,hgm5,hgB5,hgs5⟩:=owns_some hx5 (by simp)
    obtain ⟨g6,cp6,rfl,hgc6,hgm6,hgB6,hgs6⟩:=owns_some hx6 (by simp)
    simp only [List.length_append,List.length_cons,List.length_nil,Nat.zero_add,Nat.reduceAdd] at hx5 hx6 hgc5 hgc6 hstk
    have d0:=owns_cell xCell_len hx5 st0.length 0 (by simp) (by omega)
    have d1:=owns_cell xCell_len hx5 (st0.length+1) 0 (by simp) (by omega)
    have d2:=owns_cell kCell_len hx6 st0.length 0 (by simp) (by omega)
    have d3:=owns_cell kCell_len hx6 (st0.length+1) 0 (by simp) (by omega)
    simp [xCell,kCell] at d0 d1 d2 d3
    have hp:=hok p (by simp)
    have hq:=hok q (by simp)
    have hzp:=prT_size false p hp
    have hzq:=prT_size false q hq
    have hcp:=hcnt p (by simp)
    have hcq:=hcnt q (by simp)
    have hl0:st0.length≤1048576:=by omega
    have hg56:¬ g6=g5:=fun e=>owns_ne hx6 hx5 (by decide) g6 rfl (by rw [e];rfl)
    have hx5t:wr.ownsRow w.heap.size 9 1 (.slice (some ⟨g5,0,none⟩) st0.length cp5) st0.length (st0.flatMap xCell):=by
     have h0:=owns_take hx5 st0.length (by omega)
     rw [List.flatMap_append,List.take_left' (by have:=flat_length xCell_len st0;omega)] at h0
     exact h0
    have hx6t:wr.ownsRow w.heap.size 3 1 (.slice (some ⟨g6,0,none⟩) st0.length cp6) st0.length (st0.flatMap kCell):=by
     have h0:=owns_take hx6 st0.length (by omega)
     rw [List.flatMap_append,List.take_left' (by have:=flat_length kCell_len st0;omega)] at h0
     exact h0
    have e1:IntKind.i64.wrap ((st0.length:Int)+1)=(st0.length:Int)+1:=IntWalk.i64_in _ (by omega)
    have e2:((st0.length:Int)+1).toNat=st0.length+1:=by omega
    have e3:0≤(st0.length:Int)+1∧(st0.length:Int)+1<(st0.length:Int)+2:=by omega
    have e4:0≤(st0.length:Int)∧(st0.length:Int)<(st0.length:Int)+2:=by omega
    have e5:1≤(st0.length:Int)+2:=by omega
    have e6:0≤(st0.length:Int)∧(st0.length:Int)≤(cp6:Int):=by omega
    have e7:0≤(st0.length:Int)∧(st0.length:Int)≤(cp5:Int):=by omega
    have hgo15:ns[k].kind=15 → Hid (treesGo ns []=treesGo (ns.drop (k+1)) (.seq p q :: st0.reverse)):=fun hk1=>(show _=_ by
     rw [hgo.out,hdrop,show (st0 ++ [p,q]).reverse=q :: p :: st0.reverse by simp,treesGo_seq hk1])
    have hgo16:ns[k].kind=16 → Hid (treesGo ns []=treesGo (ns.drop (k+1)) (.par p q :: st0.reverse)):=fun hk1=>(show _=_ by
     rw [hgo.out,hdrop,show (st0 ++ [p,q]).reverse=q :: p :: st0.reverse by simp,treesGo_par hk1])
    have tp:=top_seq hp
    have tq:=top_seq hq
    have tq2:=top_par hq
    clear hgo hdrop hlen hok hcnt hlf hp hq hx5 hx6
    rcases hk1 with hk1|hk1
    ·cases hqs:q.isSeq
     ·have HX:Hid (prT false (.seq p q)=prT false p ++ (⟨#[32,59,32]⟩:ByteArray) ++ prT false q):=(show _=_ by rw [prT];simp only [hqs,Bool.false_and,Bool.true_and,Bool.false_or,Bool.true_or,Bool.or_false,Bool.or_true,Bool.and_false,Bool.and_true,brk];rfl)
      rw [hqs] at tq
      clear hqs
      clear tp
      clear tq2
      have hgoX:=hgo15 hk1
      clear hgo15 hgo16
      have g1:(ns[k].kind != 15)=false:=by simp [hk1]
      have g3:(ns[k].kind == 16)=false:=by simp [hk1]
      have HK:=Lib.hid hk1
      clear hk1
      go_wp2_with fail
      refine region_acts (C:=Exc (NoT) _) 4 [0,1,2,3,4,5,6,7,8,9,10] (by kernel_rfl) (by kernel_rfl) (Exc.grows _ _) (Exc.refl _ _) ?_
      iterate 11 (apply x_st rfl rfl rfl;(focus intro u hc' hf';go_simp <;> rfl);intro K hK;go_simp;apply hK;clear hK K)
      refine x_nil ?_
      go_wp2_with fail
      refine region_acts (C:=Exc (NoT) _) 4 [0,1,2,3,4,5,6,7,8,9,10,11] (by kernel_rfl) (by kernel_rfl) (Exc.grows _ _) (Exc.refl _ _) ?_
      iterate 12 (apply x_st rfl rfl rfl;(focus intro u hc' hf';go_simp <;> rfl);intro K hK;go_simp;apply hK;clear hK K)
      refine x_nil ?_
      go_wp2_with fail
      refine region_acts (C:=Exc (NoT) _) 4 [0,1,2,3,4,5,6,7,8,9,10,11,12,13] (by kernel_rfl) (by kernel_rfl) (Exc.grows _ _) (Exc.refl _ _) ?_
      iterate 14 (apply x_st rfl rfl rfl;(focus intro u hc' hf';go_simp <;> rfl);intro K hK;go_simp;apply hK;clear hK K)
      refine x_nil ?_
      obtain ⟨W,hW⟩:∃ W,W=(wr.alloc (.cells #[.int .i64 ns[k].kind,.int .i64 ns[k].value,.string ns[k].name] 170)).drew.drew.drew:=⟨_,rfl⟩
      have hbW:Below w.heap.size w W:=by rw [hW];exact (hbel.alloc (by omega) _).drew.drew.drew
      have hzW:wr.heap.size<W.heap.size:=by rw [hW];simp
      have n0:W.cell? ⟨wr.heap.size,0,none⟩=some (.int .i64 ns[k].kind):=by rw [hW];simp
      have hW5:W.ownsRow w.heap.size 9 1 (.slice (some ⟨g5,0,none⟩) st0.length cp5) st0.length (st0.flatMap xCell):=by rw [hW];exact (hx5t.alloc _).drew.drew.drew
      have hW6:W.ownsRow w.heap.size 3 1 (.slice (some ⟨g6,0,none⟩) st0.length cp6) st0.length (st0.flatMap kCell):=by rw [hW];exact (hx6t.alloc _).drew.drew.drew
      rw [← hW]
      clear hW d0 d1 d2 d3 c0 c1 c2 hx5t hx6t
      go_wp2_with (at_builtin;refine wpList_append_own _ rfl _ _ 98 rfl w.heap.size 9 i5 _ 1 16 Tryz.underlying98 hi5 hz0 hz1 hz2 rfl (by decide) _ _ _ rfl (hW5.alloc _) ⟨W.heap.size,0,none⟩ 1 1 [.string (prT false (.seq p q))] rfl rfl ?c1 ?c2 ?c3 ?c4 ?c5 ?_)
      case c1 =>
       intro j u hj
       match j,hj with
       | 0,hj=>simp at hj;subst hj;rw [HX.out];simp [Addr.add]
      case c2=>intro u hu;simp at hu;subst hu;rfl
      case c3=>unfold maxLen;omega
      case c4=>omega
      case c5=>have:=hbW.size;simp;omega
      intro v5 w3 hown3 hgrow _
      have n3:=hgrow.cell (alloc_keep n0 _) (fun hh=>by simp [Value.ownBlock] at hh;omega)
      have hx6':=World.ownsRow.kept (hW6.alloc _) hgrow (.inr (by simp [Value.ownBlock];exact hg56))
      have hb3:Below w.heap.size w w3:=(hbW.alloc hbW.size _).grown hgrow (by have:=hbW.size;simp;omega) (fun j hj=>by simp [Value.ownBlock] at hj;omega)
      have hz3:W.heap.size<w3.heap.size:=by have:=hgrow.size;simp at this;omega
      have hz3b:wr.heap.size<w3.heap.size:=by omega
      have hng:¬ wr.heap.size=g6:=by omega
      have hg6w:g6<w3.heap.size:=by omega
      clear hgrow hW5 hW6 n0
      go_wp2_with fail
      refine region_acts (C:=Exc ((fun j=>j=g6)) _) 4 [0,1,2,3,4,5,6,7] (by kernel_rfl) (by kernel_rfl) (Exc.grows _ _) (Exc.refl _ _) ?_
      iterate 5 (apply x_sT rfl rfl rfl;(focus intro u hc' hf';(try simp only [World.size_drew] at hc' hf');go_simp <;> rfl);intro K hK;go_simp;apply hK;clear hK K)
      refine x_make rfl rfl rfl (Exc.grows _ _) (Exc.refl _ _) (fun b=>.slice (some ⟨b,0,none⟩) 1 1) (fun K hK=>?_)
      apply Exists.intro
      refine ⟨fun w' hw'=>?_,fun b7 w7 hw7 hb7 hbo hNb hnb=>?_⟩
      ·go_simp
       rfl
      go_simp
      refine hK _ _ _ ?_
      clear hK K
      refine x_fits rfl rfl rfl hw7 _ _ 141 rfl w.heap.size 3 i6 1 Tryz.underlying141 hi6 hy1 g6 st0.length cp6 (st0.flatMap kCell) rfl (by simp;omega) rfl ⟨b7,0,none⟩ 1 1 [.int .i64 ns[k].kind] rfl rfl ?c1 (by omega) ?c2 ?_
      case c1=>intro u hu;simp at hu;subst hu;rfl
      case c2 =>
       intro w8 hw8 hb8
       refine ⟨owns_keep hb8 (owns_keep hb7 hx6'.drew),?_⟩
       obtain ⟨m0,m1,m2⟩:=made_cell ((hb8.block b7 (made_cell hbo).2.2).trans hbo)
       intro j u hj
       match j,hj with
       | 0,hj=>simp at hj;subst hj;simp [Addr.add,m0]
      intro K hK w8 w9 hw8 hb8 hown9 hgr9 hw9
      go_simp
      refine hK _ _ _ ?_
      clear hK K
      iterate 1 (apply x_sT rfl rfl rfl;(focus intro u hc' hf';(try simp only [World.size_drew] at hc' hf');go_simp <;> rfl);intro K hK;go_simp;apply hK;clear hK K)
      refine x_nil ?_
      have hb39:Below w3.heap.size w3.drew w8:=(hb7.trans (hb8.mono hb7.size)).mono (by simp)
      have hx5':w9.ownsRow w.heap.size 9 1 v5 (st0.length+1) (st0.flatMap xCell ++ [.string (prT false (.seq p q))]):=World.ownsRow.kept (owns_keep (hb7.trans (hb8.mono hb7.size)) hown3.drew) hgr9 (apart_or (owns_ne (owns_keep (hb7.trans (hb8.mono hb7.size)) hown3.drew) (owns_keep (hb7.trans (hb8.mono hb7.size)) hx6'.drew) (by decide)))
      have hb9:Below w.heap.size w w9:=((hb3.drew.trans ((hb7.trans (hb8.mono hb7.size)).mono (by simp;have:=hb3.size;omega)))).grown hgr9 (by have:=hb3.size;have:=hb7.size;have:=hb8.size;simp at *;omega) (fun j hj=>by cases hj;omega)
      rw [HK.out] at hown9
      have hst9:=sx_push (x:=.seq p q) HT.out ho hc4 hx5' hown9 hgoX hb9 (by omega)
      clear hown3 hown9 hgr9 hw9 hw8 hb8 hw7 hb7 hbo hNb hnb hx6' hx5' hb9 hb39 hb3 hbW hgoX
      go_wp2
      go_roundw
      case rel=>exact ⟨k+1,_,by omega,by go_num,hst9⟩
      case measure=>simp [intOf];omega
     ·have HX:Hid (prT false (.seq p q)=prT false p ++ (⟨#[32,59,32]⟩:ByteArray) ++ ((⟨#[40]⟩:ByteArray) ++ prT false q ++ ⟨#[41]⟩)):=(show _=_ by rw [prT];simp only [hqs,Bool.false_and,Bool.true_and,Bool.false_or,Bool.true_or,Bool.or_false,Bool.or_true,Bool.and_false,Bool.and_true,brk];rfl)
      rw [hqs] at tq
      clear hqs
      clear tp
      clear tq2
      have hgoX:=hgo15 hk1
      clear hgo15 hgo16
      have g1:(ns[k].kind != 15)=false:=by simp [hk1]
      have g3:(ns[k].kind == 16)=false:=by simp [hk1]
      have HK:=Lib.hid hk1
      clear hk1
      go_wp2_with fail
      refine region_acts (C:=Exc (NoT) _) 4 [0,1,2,3,4,5,6,7,8,9,10] (by kernel_rfl) (by kernel_rfl) (Exc.grows _ _) (Exc.refl _ _) ?_
      iterate 11 (apply x_st rfl rfl rfl;(focus intro u hc' hf';go_simp <;> rfl);intro K hK;go_simp;apply hK;clear hK K)
      refine x_nil ?_
      go_wp2_with fail
      refine region_acts (C:=Exc (NoT) _) 4 [0,1,2,3,4,5,6,7,8,9,10,11] (by kernel_rfl) (by kernel_rfl) (Exc.grows _ _) (Exc.refl _ _) ?_
      iterate 12 (apply x_st rfl rfl rfl;(focus intro u hc' hf';go_simp <;> rfl);intro K hK;go_simp;apply hK;clear hK K)
      refine x_nil ?_
      go_wp2_with fail
      refine region_acts (C:=Exc (NoT) _) 4 [0,1,2,3,4,5,6,7,8,9,10,11,12,13] (by kernel_rfl) (by kernel_rfl) (Exc.grows _ _) (Exc.refl _ _) ?_
      iterate 14 (apply x_st rfl rfl rfl;(focus intro u hc' hf';go_simp <;> rfl);intro K hK;go_simp;apply hK;clear hK K)
      refine x_nil ?_
      obtain ⟨W,hW⟩:∃ W,W=(wr.alloc (.cells #[.int .i64 ns[k].kind,.int .i64 ns[k].value,.string ns[k].name] 170)).drew.drew.drew:=⟨_,rfl⟩
      have hbW:Below w.heap.size w W:=by rw [hW];exact (hbel.alloc (by omega) _).drew.drew.drew
      have hzW:wr.heap.size<W.heap.size:=by rw [hW];simp
      have n0:W.cell? ⟨wr.heap.size,0,none⟩=some (.int .i64 ns[k].kind):=by rw [hW];simp
      have hW5:W.ownsRow w.heap.size 9 1 (.slice (some ⟨g5,0,none⟩) st0.length cp5) st0.length (st0.flatMap xCell):=by rw [hW];exact (hx5t.alloc _).drew.drew.drew
      have hW6:W.ownsRow w.heap.size 3 1 (.slice (some ⟨g6,0,none⟩) st0.length cp6) st0.length (st0.flatMap kCell):=by rw [hW];exact (hx6t.alloc _).drew.drew.drew
      rw [← hW]
      clear hW d0 d1 d2 d3 c0 c1 c2 hx5t hx6t
      go_wp2_with (at_builtin;refine wpList_append_own _ rfl _ _ 98 rfl w.heap.size 9 i5 _ 1 16 Tryz.underlying98 hi5 hz0 hz1 hz2 rfl (by decide) _ _ _ rfl (hW5.alloc _) ⟨W.heap.size,0,none⟩ 1 1 [.string (prT false (.seq p q))] rfl rfl ?c1 ?c2 ?c3 ?c4 ?c5 ?_)
      case c1 =>
       intro j u hj
       match j,hj with
       | 0,hj=>simp at hj;subst hj;rw [HX.out];simp [Addr.add]
      case c2=>intro u hu;simp at hu;subst hu;rfl
      case c3=>unfold maxLen;omega
      case c4=>omega
      case c5=>have:=hbW.size;simp;omega
      intro v5 w3 hown3 hgrow _
      have n3:=hgrow.cell (alloc_keep n0 _) (fun hh=>by simp [Value.ownBlock] at hh;omega)
      have hx6':=World.ownsRow.kept (hW6.alloc _) hgrow (.inr (by simp [Value.ownBlock];exact hg56))
      have hb3:Below w.heap.size w w3:=(hbW.alloc hbW.size _).grown hgrow (by have:=hbW.size;simp;omega) (fun j hj=>by simp [Value.ownBlock] at hj;omega)
      have hz3:W.heap.size<w3.heap.size:=by have:=hgrow.size;simp at this;omega
      have hz3b:wr.heap.size<w3.heap.size:=by omega
      have hng:¬ wr.heap.size=g6:=by omega
      have hg6w:g6<w3.heap.size:=by omega
      clear hgrow hW5 hW6 n0
      go_wp2_with fail
      refine region_acts (C:=Exc ((fun j=>j=g6)) _) 4 [0,1,2,3,4,5,6,7] (by kernel_rfl) (by kernel_rfl) (Exc.grows _ _) (Exc.refl _ _) ?_
      iterate 5 (apply x_sT rfl rfl rfl;(focus intro u hc' hf';(try simp only [World.size_drew] at hc' hf');go_simp <;> rfl);intro K hK;go_simp;apply hK;clear hK K)
      refine x_make rfl rfl rfl (Exc.grows _ _) (Exc.refl _ _) (fun b=>.slice (some ⟨b,0,none⟩) 1 1) (fun K hK=>?_)
      apply Exists.intro
      refine ⟨fun w' hw'=>?_,fun b7 w7 hw7 hb7 hbo hNb hnb=>?_⟩
      ·go_simp
       rfl
      go_simp
      refine hK _ _ _ ?_
      clear hK K
      refine x_fits rfl rfl rfl hw7 _ _ 141 rfl w.heap.size 3 i6 1 Tryz.underlying141 hi6 hy1 g6 st0.length cp6 (st0.flatMap kCell) rfl (by simp;omega) rfl ⟨b7,0,none⟩ 1 1 [.int .i64 ns[k].kind] rfl rfl ?c1 (by omega) ?c2 ?_
      case c1=>intro u hu;simp at hu;subst hu;rfl
      case c2 =>
       intro w8 hw8 hb8
       refine ⟨owns_keep hb8 (owns_keep hb7 hx6'.drew),?_⟩
       obtain ⟨m0,m1,m2⟩:=made_cell ((hb8.block b7 (made_cell hbo).2.2).trans hbo)
       intro j u hj
       match j,hj with
       | 0,hj=>simp at hj;subst hj;simp [Addr.add,m0]
      intro K hK w8 w9 hw8 hb8 hown9 hgr9 hw9
      go_simp
      refine hK _ _ _ ?_
      clear hK K
      iterate 1 (apply x_sT rfl rfl rfl;(focus intro u hc' hf';(try simp only [World.size_drew] at hc' hf');go_simp <;> rfl);intro K hK;go_simp;apply hK;clear hK K)
      refine x_nil ?_
      have hb39:Below w3.heap.size w3.drew w8:=(hb7.trans (hb8.mono hb7.size)).mono (by simp)
      have hx5':w9.ownsRow w.heap.size 9 1 v5 (st0.length+1) (st0.flatMap xCell ++ [.string (prT false (.seq p q))]):=World.ownsRow.kept (owns_keep (hb7.trans (hb8.mono hb7.size)) hown3.drew) hgr9 (apart_or (owns_ne (owns_keep (hb7.trans (hb8.mono hb7.size)) hown3.drew) (owns_keep (hb7.trans (hb8.mono hb7.size)) hx6'.drew) (by decide)))
      have hb9:Below w.heap.size w w9:=((hb3.drew.trans ((hb7.trans (hb8.mono hb7.size)).mono (by simp;have:=hb3.size;omega)))).grown hgr9 (by have:=hb3.size;have:=hb7.size;have:=hb8.size;simp at *;omega) (fun j hj=>by cases hj;omega)
      rw [HK.out] at hown9
      have hst9:=sx_push (x:=.seq p q) HT.out ho hc4 hx5' hown9 hgoX hb9 (by omega)
      clear hown3 hown9 hgr9 hw9 hw8 hb8 hw7 hb7 hbo hNb hnb hx6' hx5' hb9 hb39 hb3 hbW hgoX
      go_wp2
      go_roundw
      case rel=>exact ⟨k+1,_,by omega,by go_num,hst9⟩
      case measure=>simp [intOf];omega
    ·cases hps:p.isSeq <;> cases hqs:q.isSeq
     ·cases hqp:q.isPar
      ·have HX:Hid (prT false (.par p q)=prT false p ++ (⟨#[32,42,32]⟩:ByteArray) ++ prT false q):=(show _=_ by rw [prT];simp only [hps,hqs,hqp,Bool.false_and,Bool.true_and,Bool.false_or,Bool.true_or,Bool.or_false,Bool.or_true,Bool.and_false,Bool.and_true,brk];rfl)
       rw [hps] at tp
       rw [hqs] at tq
       rw [hqp] at tq2
       clear hps hqs hqp
       have hgoX:=hgo16 hk1
       clear hgo15 hgo16
       have g1:(ns[k].kind != 15)=true:=by simp [hk1]
       have g2:(ns[k].kind != 16)=false:=by simp [hk1]
       have g3:(ns[k].kind == 16)=true:=by simp [hk1]
       have HK:=Lib.hid hk1
       clear hk1
       go_wp2_with fail
       refine region_acts (C:=Exc (NoT) _) 4 [0,1,2,3,4,5,6,7,8,9,10] (by kernel_rfl) (by kernel_rfl) (Exc.grows _ _) (Exc.refl _ _) ?_
       iterate 11 (apply x_st rfl rfl rfl;(focus intro u hc' hf';go_simp <;> rfl);intro K hK;go_simp;apply hK;clear hK K)
       refine x_nil ?_
       go_wp2_with fail
       refine region_acts (C:=Exc (NoT) _) 4 [0,1,2,3,4,5,6,7,8,9,10,11] (by kernel_rfl) (by kernel_rfl) (Exc.grows _ _) (Exc.refl _ _) ?_
       iterate 12 (apply x_st rfl rfl rfl;(focus intro u hc' hf';go_simp <;> rfl);intro K hK;go_simp;apply hK;clear hK K)
       refine x_nil ?_
       go_wp2_with fail
       refine region_acts (C:=Exc (NoT) _) 4 [0,1,2,3,4,5,6,7,8,9,10,11,12,13] (by kernel_rfl) (by kernel_rfl) (Exc.grows _ _) (Exc.refl _ _) ?_
       iterate 14 (apply x_st rfl rfl rfl;(focus intro u hc' hf';go_simp <;> rfl);intro K hK;go_simp;apply hK;clear hK K)
       refine x_nil ?_
       obtain ⟨W,hW⟩:∃ W,W=(wr.alloc (.cells #[.int .i64 ns[k].kind,.int .i64 ns[k].value,.string ns[k].name] 170)).drew.drew.drew:=⟨_,rfl⟩
       have hbW:Below w.heap.size w W:=by rw [hW];exact (hbel.alloc (by omega) _).drew.drew.drew
       have hzW:wr.heap.size<W.heap.size:=by rw [hW];simp
       have n0:W.cell? ⟨wr.heap.size,0,none⟩=some (.int .i64 ns[k].kind):=by rw [hW];simp
       have hW5:W.ownsRow w.heap.size 9 1 (.slice (some ⟨g5,0,none⟩) st0.length cp5) st0.length (st0.flatMap xCell):=by rw [hW];exact (hx5t.alloc _).drew.drew.drew
       have hW6:W.ownsRow w.heap.size 3 1 (.slice (some ⟨g6,0,none⟩) st0.length cp6) st0.length (st0.flatMap kCell):=by rw [hW];exact (hx6t.alloc _).drew.drew.drew
       rw [← hW]
       clear hW d0 d1 d2 d3 c0 c1 c2 hx5t hx6t
       go_wp2_with (at_builtin;refine wpList_append_own _ rfl _ _ 98 rfl w.heap.size 9 i5 _ 1 16 Tryz.underlying98 hi5 hz0 hz1 hz2 rfl (by decide) _ _ _ rfl (hW5.alloc _) ⟨W.heap.size,0,none⟩ 1 1 [.string (prT false (.par p q))] rfl rfl ?c1 ?c2 ?c3 ?c4 ?c5 ?_)
       case c1 =>
        intro j u hj
        match j,hj with
        | 0,hj=>simp at hj;subst hj;rw [HX.out];simp [Addr.add]
       case c2=>intro u hu;simp at hu;subst hu;rfl
       case c3=>unfold maxLen;omega
       case c4=>omega
       case c5=>have:=hbW.size;simp;omega
       intro v5 w3 hown3 hgrow _
       have n3:=hgrow.cell (alloc_keep n0 _) (fun hh=>by simp [Value.ownBlock] at hh;omega)
       have hx6':=World.ownsRow.kept (hW6.alloc _) hgrow (.inr (by simp [Value.ownBlock];exact hg56))
       have hb3:Below w.heap.size w w3:=(hbW.alloc hbW.size _).grown hgrow (by have:=hbW.size;simp;omega) (fun j hj=>by simp [Value.ownBlock] at hj;omega)
       have hz3:W.heap.size<w3.heap.size:=by have:=hgrow.size;simp at this;omega
       have hz3b:wr.heap.size<w3.heap.size:=by omega
       have hng:¬ wr.heap.size=g6:=by omega
       have hg6w:g6<w3.heap.size:=by omega
       clear hgrow hW5 hW6 n0
       go_wp2_with fail
       refine region_acts (C:=Exc ((fun j=>j=g6)) _) 4 [0,1,2,3,4,5,6,7] (by kernel_rfl) (by kernel_rfl) (Exc.grows _ _) (Exc.refl _ _) ?_
       iterate 5 (apply x_sT rfl rfl rfl;(focus intro u hc' hf';(try simp only [World.size_drew] at hc' hf');go_simp <;> rfl);intro K hK;go_simp;apply hK;clear hK K)
       refine x_make rfl rfl rfl (Exc.grows _ _) (Exc.refl _ _) (fun b=>.slice (some ⟨b,0,none⟩) 1 1) (fun K hK=>?_)
       apply Exists.intro
       refine ⟨fun w' hw'=>?_,fun b7 w7 hw7 hb7 hbo hNb hnb=>?_⟩
       ·go_simp
        rfl
       go_simp
       refine hK _ _ _ ?_
       clear hK K
       refine x_fits rfl rfl rfl hw7 _ _ 141 rfl w.heap.size 3 i6 1 Tryz.underlying141 hi6 hy1 g6 st0.length cp6 (st0.flatMap kCell) rfl (by simp;omega) rfl ⟨b7,0,none⟩ 1 1 [.int .i64 ns[k].kind] rfl rfl ?c1 (by omega) ?c2 ?_
       case c1=>intro u hu;simp at hu;subst hu;rfl
       case c2 =>
        intro w8 hw8 hb8
        refine ⟨owns_keep hb8 (owns_keep hb7 hx6'.drew),?_⟩
        obtain ⟨m0,m1,m2⟩:=made_cell ((hb8.block b7 (made_cell hbo).2.2).trans hbo)
        intro j u hj
        match j,hj with
        | 0,hj=>simp at hj;subst hj;simp [Addr.add,m0]
       intro K hK w8 w9 hw8 hb8 hown9 hgr9 hw9
       go_simp
       refine hK _ _ _ ?_
       clear hK K
       iterate 1 (apply x_sT rfl rfl rfl;(focus intro u hc' hf';(try simp only [World.size_drew] at hc' hf');go_simp <;> rfl);intro K hK;go_simp;apply hK;clear hK K)
       refine x_nil ?_
       have hb39:Below w3.heap.size w3.drew w8:=(hb7.trans (hb8.mono hb7.size)).mono (by simp)
       have hx5':w9.ownsRow w.heap.size 9 1 v5 (st0.length+1) (st0.flatMap xCell ++ [.string (prT false (.par p q))]):=World.ownsRow.kept (owns_keep (hb7.trans (hb8.mono hb7.size)) hown3.drew) hgr9 (apart_or (owns_ne (owns_keep (hb7.trans (hb8.mono hb7.size)) hown3.drew) (owns_keep (hb7.trans (hb8.mono hb7.size)) hx6'.drew) (by decide)))
       have hb9:Below w.heap.size w w9:=((hb3.drew.trans ((hb7.trans (hb8.mono hb7.size)).mono (by simp;have:=hb3.size;omega)))).grown hgr9 (by have:=hb3.size;have:=hb7.size;have:=hb8.size;simp at *;omega) (fun j hj=>by cases hj;omega)
       rw [HK.out] at hown9
       have hst9:=sx_push (x:=.par p q) HT.out ho hc4 hx5' hown9 hgoX hb9 (by omega)
       clear hown3 hown9 hgr9 hw9 hw8 hb8 hw7 hb7 hbo hNb hnb hx6' hx5' hb9 hb39 hb3 hbW hgoX
       go_wp2
       go_roundw
       case rel=>exact ⟨k+1,_,by omega,by go_num,hst9⟩
       case measure=>simp [intOf];omega
      ·have HX:Hid (prT false (.par p q)=prT false p ++ (⟨#[32,42,32]⟩:ByteArray) ++ ((⟨#[40]⟩:ByteArray) ++ prT false q ++ ⟨#[41]⟩)):=(show _=_ by rw [prT];simp only [hps,hqs,hqp,Bool.false_and,Bool.true_and,Bool.false_or,Bool.true_or,Bool.or_false,Bool.or_true,Bool.and_false,Bool.and_true,brk];rfl)
       rw [hps] at tp
       rw [hqs] at tq
       rw [hqp] at tq2
       clear hps hqs hqp
       have hgoX:=hgo16 hk1
       clear hgo15 hgo16
       have g1:(ns[k].kind != 15)=true:=by simp [hk1]
       have g2:(ns[k].kind != 16)=false:=by simp [hk1]
       have g3:(ns[k].kind == 16)=true:=by simp [hk1]
       have HK:=Lib.hid hk1
       clear hk1
       go_wp2_with fail
       refine region_acts (C:=Exc (NoT) _) 4 [0,1,2,3,4,5,6,7,8,9,10] (by kernel_rfl) (by kernel_rfl) (Exc.grows _ _) (Exc.refl _ _) ?_
       iterate 11 (apply x_st rfl rfl rfl;(focus intro u hc' hf';go_simp <;> rfl);intro K hK;go_simp;apply hK;clear hK K)
       refine x_nil ?_
       go_wp2_with fail
       refine region_acts (C:=Exc (NoT) _) 4 [0,1,2,3,4,5,6,7,8,9,10,11] (by kernel_rfl) (by kernel_rfl) (Exc.grows _ _) (Exc.refl _ _) ?_
       iterate 12 (apply x_st rfl rfl rfl;(focus intro u hc' hf';go_simp <;> rfl);intro K hK;go_simp;apply hK;clear hK K)
       refine x_nil ?_
       go_wp2_with fail
       refine region_acts (C:=Exc (NoT) _) 4 [0,1,2,3,4,5,6,7,8,9,10,11,12,13] (by kernel_rfl) (by kernel_rfl) (Exc.grows _ _) (Exc.refl _ _) ?_
       iterate 14 (apply x_st rfl rfl rfl;(focus intro u hc' hf';go_simp <;> rfl);intro K hK;go_simp;apply hK;clear hK K)
       refine x_nil ?_
       obtain ⟨W,hW⟩:∃ W,W=(wr.alloc (.cells #[.int .i64 ns[k].kind,.int .i64 ns[k].value,.string ns[k].name] 170)).drew.drew.drew:=⟨_,rfl⟩
       have hbW:Below w.heap.size w W:=by rw [hW];exact (hbel.alloc (by omega) _).drew.drew.drew
       have hzW:wr.heap.size<W.heap.size:=by rw [hW];simp
       have n0:W.cell? ⟨wr.heap.size,0,none⟩=some (.int .i64 ns[k].kind):=by rw [hW];simp
       have hW5:W.ownsRow w.heap.size 9 1 (.slice (some ⟨g5,0,none⟩) st0.length cp5) st0.length (st0.flatMap xCell):=by rw [hW];exact (hx5t.alloc _).drew.drew.drew
       have hW6:W.ownsRow w.heap.size 3 1 (.slice (some ⟨g6,0,none⟩) st0.length cp6) st0.length (st0.flatMap kCell):=by rw [hW];exact (hx6t.alloc _).drew.drew.drew
       rw [← hW]
       clear hW d0 d1 d2 d3 c0 c1 c2 hx5t hx6t
       go_wp2_with (at_builtin;refine wpList_append_own _ rfl _ _ 98 rfl w.heap.size 9 i5 _ 1 16 Tryz.underlying98 hi5 hz0 hz1 hz2 rfl (by decide) _ _ _ rfl (hW5.alloc _) ⟨W.heap.size,0,none⟩ 1 1 [.string (prT false (.par p q))] rfl rfl ?c1 ?c2 ?c3 ?c4 ?c5 ?_)
       case c1 =>
        intro j u hj
        match j,hj with
        | 0,hj=>simp at hj;subst hj;rw [HX.out];simp [Addr.add]
       case c2=>intro u hu;simp at hu;subst hu;rfl
       case c3=>unfold maxLen;omega
       case c4=>omega
       case c5=>have:=hbW.size;simp;omega
       intro v5 w3 hown3 hgrow _
       have n3:=hgrow.cell (alloc_keep n0 _) (fun hh=>by simp [Value.ownBlock] at hh;omega)
       have hx6':=World.ownsRow.kept (hW6.alloc _) hgrow (.inr (by simp [Value.ownBlock];exact hg56))
       have hb3:Below w.heap.size w w3:=(hbW.alloc hbW.size _).grown hgrow (by have:=hbW.size;simp;omega) (fun j hj=>by simp [Value.ownBlock] at hj;omega)
       have hz3:W.heap.size<w3.heap.size:=by have:=hgrow.size;simp at this;omega
       have hz3b:wr.heap.size<w3.heap.size:=by omega
       have hng:¬ wr.heap.size=g6:=by omega
       have hg6w:g6<w3.heap.size:=by omega
       clear hgrow hW5 hW6 n0
       go_wp2_with fail
       refine region_acts (C:=Exc ((fun j=>j=g6)) _) 4 [0,1,2,3,4,5,6,7] (by kernel_rfl) (by kernel_rfl) (Exc.grows _ _) (Exc.refl _ _) ?_
       iterate 5 (apply x_sT rfl rfl rfl;(focus intro u hc' hf';(try simp only [World.size_drew] at hc' hf');go_simp <;> rfl);intro K hK;go_simp;apply hK;clear hK K)
       refine x_make rfl rfl rfl (Exc.grows _ _) (Exc.refl _ _) (fun b=>.slice (some ⟨b,0,none⟩) 1 1) (fun K hK=>?_)
       apply Exists.intro
       refine ⟨fun w' hw'=>?_,fun b7 w7 hw7 hb7 hbo hNb hnb=>?_⟩
       ·go_simp
        rfl
       go_simp
       refine hK _ _ _ ?_
       clear hK K
       refine x_fits rfl rfl rfl hw7 _ _ 141 rfl w.heap.size 3 i6 1 Tryz.underlying141 hi6 hy1 g6 st0.length cp6 (st0.flatMap kCell) rfl (by simp;omega) rfl ⟨b7,0,none⟩ 1 1 [.int .i64 ns[k].kind] rfl rfl ?c1 (by omega) ?c2 ?_
       case c1=>intro u hu;simp at hu;subst hu;rfl
       case c2 =>
        intro w8 hw8 hb8
        refine ⟨owns_keep hb8 (owns_keep hb7 hx6'.drew),?_⟩
        obtain ⟨m0,m1,m2⟩:=made_cell ((hb8.block b7 (made_cell hbo).2.2).trans hbo)
        intro j u hj
        match j,hj with
        | 0,hj=>simp at hj;subst hj;simp [Addr.add,m0]
       intro K hK w8 w9 hw8 hb8 hown9 hgr9 hw9
       go_simp
       refine hK _ _ _ ?_
       clear hK K
       iterate 1 (apply x_sT rfl rfl rfl;(focus intro u hc' hf';(try simp only [World.size_drew] at hc' hf');go_simp <;> rfl);intro K hK;go_simp;apply hK;clear hK K)
       refine x_nil ?_
       have hb39:Below w3.heap.size w3.drew w8:=(hb7.trans (hb8.mono hb7.size)).mono (by simp)
       have hx5':w9.ownsRow w.heap.size 9 1 v5 (st0.length+1) (st0.flatMap xCell ++ [.string (prT false (.par p q))]):=World.ownsRow.kept (owns_keep (hb7.trans (hb8.mono hb7.size)) hown3.drew) hgr9 (apart_or (owns_ne (owns_keep (hb7.trans (hb8.mono hb7.size)) hown3.drew) (owns_keep (hb7.trans (hb8.mono hb7.size)) hx6'.drew) (by decide)))
       have hb9:Below w.heap.size w w9:=((hb3.drew.trans ((hb7.trans (hb8.mono hb7.size)).mono (by simp;have:=hb3.size;omega)))).grown hgr9 (by have:=hb3.size;have:=hb7.size;have:=hb8.size;simp at *;omega) (fun j hj=>by cases hj;omega)
       rw [HK.out] at hown9
       have hst9:=sx_push (x:=.par p q) HT.out ho hc4 hx5' hown9 hgoX hb9 (by omega)
       clear hown3 hown9 hgr9 hw9 hw8 hb8 hw7 hb7 hbo hNb hnb hx6' hx5' hb9 hb39 hb3 hbW hgoX
       go_wp2
       go_roundw
       case rel=>exact ⟨k+1,_,by omega,by go_num,hst9⟩
       case measure=>simp [intOf];omega
     ·have HX:Hid (prT false (.par p q)=prT false p ++ (⟨#[32,42,32]⟩:ByteArray) ++ ((⟨#[40]⟩:ByteArray) ++ prT false q ++ ⟨#[41]⟩)):=(show _=_ by rw [prT];simp only [hps,hqs,Bool.false_and,Bool.true_and,Bool.false_or,Bool.true_or,Bool.or_false,Bool.or_true,Bool.and_false,Bool.and_true,brk];rfl)
      rw [hps] at tp
      rw [hqs] at tq
      clear hps hqs
      clear tq2
      have hgoX:=hgo16 hk1
      clear hgo15 hgo16
      have g1:(ns[k].kind != 15)=true:=by simp [hk1]
      have g2:(ns[k].kind != 16)=false:=by simp [hk1]
      have g3:(ns[k].kind == 16)=true:=by simp [hk1]
      have HK:=Lib.hid hk1
      clear hk1
      go_wp2_with fail
      refine region_acts (C:=Exc (NoT) _) 4 [0,1,2,3,4,5,6,7,8,9,10] (by kernel_rfl) (by kernel_rfl) (Exc.grows _ _) (Exc.refl _ _) ?_
      iterate 11 (apply x_st rfl rfl rfl;(focus intro u hc' hf';go_simp <;> rfl);intro K hK;go_simp;apply hK;clear hK K)
      refine x_nil ?_
      go_wp2_with fail
      refine region_acts (C:=Exc (NoT) _) 4 [0,1,2,3,4,5,6,7,8,9,10,11] (by kernel_rfl) (by kernel_rfl) (Exc.grows _ _) (Exc.refl _ _) ?_
      iterate 12 (apply x_st rfl rfl rfl;(focus intro u hc' hf';go_simp <;> rfl);intro K hK;go_simp;apply hK;clear hK K)
      refine x_nil ?_
      go_wp2_with fail
      refine region_acts (C:=Exc (NoT) _) 4 [0,1,2,3,4,5,6,7,8,9,10,11,12,13] (by kernel_rfl) (by kernel_rfl) (Exc.grows _ _) (Exc.refl _ _) ?_
      iterate 14 (apply x_st rfl rfl rfl;(focus intro u hc' hf';go_simp <;> rfl);intro K hK;go_simp;apply hK;clear hK K)
      refine x_nil ?_
      obtain ⟨W,hW⟩:∃ W,W=(wr.alloc (.cells #[.int .i64 ns[k].kind,.int .i64 ns[k].value,.string ns[k].name] 170)).drew.drew.drew:=⟨_,rfl⟩
      have hbW:Below w.heap.size w W:=by rw [hW];exact (hbel.alloc (by omega) _).drew.drew.drew
      have hzW:wr.heap.size<W.heap.size:=by rw [hW];simp
      have n0:W.cell? ⟨wr.heap.size,0,none⟩=some (.int .i64 ns[k].kind):=by rw [hW];simp
      have hW5:W.ownsRow w.heap.size 9 1 (.slice (some ⟨g5,0,none⟩) st0.length cp5) st0.length (st0.flatMap xCell):=by rw [hW];exact (hx5t.alloc _).drew.drew.drew
      have hW6:W.ownsRow w.heap.size 3 1 (.slice (some ⟨g6,0,none⟩) st0.length cp6) st0.length (st0.flatMap kCell):=by rw [hW];exact (hx6t.alloc _).drew.drew.drew
      rw [← hW]
      clear hW d0 d1 d2 d3 c0 c1 c2 hx5t hx6t
      go_wp2_with (at_builtin;refine wpList_append_own _ rfl _ _ 98 rfl w.heap.size 9 i5 _ 1 16 Tryz.underlying98 hi5 hz0 hz1 hz2 rfl (by decide) _ _ _ rfl (hW5.alloc _) ⟨W.heap.size,0,none⟩ 1 1 [.string (prT false (.par p q))] rfl rfl ?c1 ?c2 ?c3 ?c4 ?c5 ?_)
      case c1 =>
       intro j u hj
       match j,hj with
       | 0,hj=>simp at hj;subst hj;rw [HX.out];simp [Addr.add]
      case c2=>intro u hu;simp at hu;subst hu;rfl
      case c3=>unfold maxLen;omega
      case c4=>omega
      case c5=>have:=hbW.size;simp;omega
      intro v5 w3 hown3 hgrow _
      have n3:=hgrow.cell (alloc_keep n0 _) (fun hh=>by simp [Value.ownBlock] at hh;omega)
      have hx6':=World.ownsRow.kept (hW6.alloc _) hgrow (.inr (by simp [Value.ownBlock];exact hg56))
      have hb3:Below w.heap.size w w3:=(hbW.alloc hbW.size _).grown hgrow (by have:=hbW.size;simp;omega) (fun j hj=>by simp [Value.ownBlock] at hj;omega)
      have hz3:W.heap.size<w3.heap.size:=by have:=hgrow.size;simp at this;omega
      have hz3b:wr.heap.size<w3.heap.size:=by omega
      have hng:¬ wr.heap.size=g6:=by omega
      have hg6w:g6<w3.heap.size:=by omega
      clear hgrow hW5 hW6 n0
      go_wp2_with fail
      refine region_acts (C:=Exc ((fun j=>j=g6)) _) 4 [0,1,2,3,4,5,6,7] (by kernel_rfl) (by kernel_rfl) (Exc.grows _ _) (Exc.refl _ _) ?_
      iterate 5 (apply x_sT rfl rfl rfl;(focus intro u hc' hf';(try simp only [World.size_drew] at hc' hf');go_simp <;> rfl);intro K hK;go_simp;apply hK;clear hK K)
      refine x_make rfl rfl rfl (Exc.grows _ _) (Exc.refl _ _) (fun b=>.slice (some ⟨b,0,none⟩) 1 1) (fun K hK=>?_)
      apply Exists.intro
      refine ⟨fun w' hw'=>?_,fun b7 w7 hw7 hb7 hbo hNb hnb=>?_⟩
      ·go_simp
       rfl
      go_simp
      refine hK _ _ _ ?_
      clear hK K
      refine x_fits rfl rfl rfl hw7 _ _ 141 rfl w.heap.size 3 i6 1 Tryz.underlying141 hi6 hy1 g6 st0.length cp6 (st0.flatMap kCell) rfl (by simp;omega) rfl ⟨b7,0,none⟩ 1 1 [.int .i64 ns[k].kind] rfl rfl ?c1 (by omega) ?c2 ?_
      case c1=>intro u hu;simp at hu;subst hu;rfl
      case c2 =>
       intro w8 hw8 hb8
       refine ⟨owns_keep hb8 (owns_keep hb7 hx6'.drew),?_⟩
       obtain ⟨m0,m1,m2⟩:=made_cell ((hb8.block b7 (made_cell hbo).2.2).trans hbo)
       intro j u hj
       match j,hj with
       | 0,hj=>simp at hj;subst hj;simp [Addr.add,m0]
      intro K hK w8 w9 hw8 hb8 hown9 hgr9 hw9
      go_simp
      refine hK _ _ _ ?_
      clear hK K
      iterate 1 (apply x_sT rfl rfl rfl;(focus intro u hc' hf';(try simp only [World.size_drew] at hc' hf');go_simp <;> rfl);intro K hK;go_simp;apply hK;clear hK K)
      refine x_nil ?_
      have hb39:Below w3.heap.size w3.drew w8:=(hb7.trans (hb8.mono hb7.size)).mono (by simp)
      have hx5':w9.ownsRow w.heap.size 9 1 v5 (st0.length+1) (st0.flatMap xCell ++ [.string (prT false (.par p q))]):=World.ownsRow.kept (owns_keep (hb7.trans (hb8.mono hb7.size)) hown3.drew) hgr9 (apart_or (owns_ne (owns_keep (hb7.trans (hb8.mono hb7.size)) hown3.drew) (owns_keep (hb7.trans (hb8.mono hb7.size)) hx6'.drew) (by decide)))
      have hb9:Below w.heap.size w w9:=((hb3.drew.trans ((hb7.trans (hb8.mono hb7.size)).mono (by simp;have:=hb3.size;omega)))).grown hgr9 (by have:=hb3.size;have:=hb7.size;have:=hb8.size;simp at *;omega) (fun j hj=>by cases hj;omega)
      rw [HK.out] at hown9
      have hst9:=sx_push (x:=.par p q) HT.out ho hc4 hx5' hown9 hgoX hb9 (by omega)
      clear hown3 hown9 hgr9 hw9 hw8 hb8 hw7 hb7 hbo hNb hnb hx6' hx5' hb9 hb39 hb3 hbW hgoX
      go_wp2
      go_roundw
      case rel=>exact ⟨k+1,_,by omega,by go_num,hst9⟩
      case measure=>simp [intOf];omega
     ·cases hqp:q.isPar
      ·have HX:Hid (prT false (.par p q)=((⟨#[40]⟩:ByteArray) ++ prT false p ++ ⟨#[41]⟩) ++ (⟨#[32,42,32]⟩:ByteArray) ++ prT false q):=(show _=_ by rw [prT];simp only [hps,hqs,hqp,Bool.false_and,Bool.true_and,Bool.false_or,Bool.true_or,Bool.or_false,Bool.or_true,Bool.and_false,Bool.and_true,brk];rfl)
       rw [hps] at tp
       rw [hqs] at tq
       rw [hqp] at tq2
       clear hps hqs hqp
       have hgoX:=hgo16 hk1
       clear hgo15 hgo16
       have g1:(ns[k].kind != 15)=true:=by simp [hk1]
       have g2:(ns[k].kind != 16)=false:=by simp [hk1]
       have g3:(ns[k].kind == 16)=true:=by simp [hk1]
       have HK:=Lib.hid hk1
       clear hk1
       go_wp2_with fail
       refine region_acts (C:=Exc (NoT) _) 4 [0,1,2,3,4,5,6,7,8,9,10] (by kernel_rfl) (by kernel_rfl) (Exc.grows _ _) (Exc.refl _ _) ?_
       iterate 11 (apply x_st rfl rfl rfl;(focus intro u hc' hf';go_simp <;> rfl);intro K hK;go_simp;apply hK;clear hK K)
       refine x_nil ?_
       go_wp2_with fail
       refine region_acts (C:=Exc (NoT) _) 4 [0,1,2,3,4,5,6,7,8,9,10,11] (by kernel_rfl) (by kernel_rfl) (Exc.grows _ _) (Exc.refl _ _) ?_
       iterate 12 (apply x_st rfl rfl rfl;(focus intro u hc' hf';go_simp <;> rfl);intro K hK;go_simp;apply hK;clear hK K)
       refine x_nil ?_
       go_wp2_with fail
       refine region_acts (C:=Exc (NoT) _) 4 [0,1,2,3,4,5,6,7,8,9,10,11,12,13] (by kernel_rfl) (by kernel_rfl) (Exc.grows _ _) (Exc.refl _ _) ?_
       iterate 14 (apply x_st rfl rfl rfl;(focus intro u hc' hf';go_simp <;> rfl);intro K hK;go_simp;apply hK;clear hK K)
       refine x_nil ?_
       obtain ⟨W,hW⟩:∃ W,W=(wr.alloc (.cells #[.int .i64 ns[k].kind,.int .i64 ns[k].value,.string ns[k].name] 170)).drew.drew.drew:=⟨_,rfl⟩
       have hbW:Below w.heap.size w W:=by rw [hW];exact (hbel.alloc (by omega) _).drew.drew.drew
       have hzW:wr.heap.size<W.heap.size:=by rw [hW];simp
       have n0:W.cell? ⟨wr.heap.size,0,none⟩=some (.int .i64 ns[k].kind):=by rw [hW];simp
       have hW5:W.ownsRow w.heap.size 9 1 (.slice (some ⟨g5,0,none⟩) st0.length cp5) st0.length (st0.flatMap xCell):=by rw [hW];exact (hx5t.alloc _).drew.drew.drew
       have hW6:W.ownsRow w.heap.size 3 1 (.slice (some ⟨g6,0,none⟩) st0.length cp6) st0.length (st0.flatMap kCell):=by rw [hW];exact (hx6t.alloc _).drew.drew.drew
       rw [← hW]
       clear hW d0 d1 d2 d3 c0 c1 c2 hx5t hx6t
       go_wp2_with (at_builtin;refine wpList_append_own _ rfl _ _ 98 rfl w.heap.size 9 i5 _ 1 16 Tryz.underlying98 hi5 hz0 hz1 hz2 rfl (by decide) _ _ _ rfl (hW5.alloc _) ⟨W.heap.size,0,none⟩ 1 1 [.string (prT false (.par p q))] rfl rfl ?c1 ?c2 ?c3 ?c4 ?c5 ?_)
       case c1 =>
        intro j u hj
        match j,hj with
        | 0,hj=>simp at hj;subst hj;rw [HX.out];simp [Addr.add]
       case c2=>intro u hu;simp at hu;subst hu;rfl
       case c3=>unfold maxLen;omega
       case c4=>omega
       case c5=>have:=hbW.size;simp;omega
       intro v5 w3 hown3 hgrow _
       have n3:=hgrow.cell (alloc_keep n0 _) (fun hh=>by simp [Value.ownBlock] at hh;omega)
       have hx6':=World.ownsRow.kept (hW6.alloc _) hgrow (.inr (by simp [Value.ownBlock];exact hg56))
       have hb3:Below w.heap.size w w3:=(hbW.alloc hbW.size _).grown hgrow (by have:=hbW.size;simp;omega) (fun j hj=>by simp [Value.ownBlock] at hj;omega)
       have hz3:W.heap.size<w3.heap.size:=by have:=hgrow.size;simp at this;omega
       have hz3b:wr.heap.size<w3.heap.size:=by omega
       have hng:¬ wr.heap.size=g6:=by omega
       have hg6w:g6<w3.heap.size:=by omega
       clear hgrow hW5 hW6 n0
       go_wp2_with fail
       refine region_acts (C:=Exc ((fun j=>j=g6)) _) 4 [0,1,2,3,4,5,6,7] (by kernel_rfl) (by kernel_rfl) (Exc.grows _ _) (Exc.refl _ _) ?_
       iterate 5 (apply x_sT rfl rfl rfl;(focus intro u hc' hf';(try simp only [World.size_drew] at hc' hf');go_simp <;> rfl);intro K hK;go_simp;apply hK;clear hK K)
       refine x_make rfl rfl rfl (Exc.grows _ _) (Exc.refl _ _) (fun b=>.slice (some ⟨b,0,none⟩) 1 1) (fun K hK=>?_)
       apply Exists.intro
       refine ⟨fun w' hw'=>?_,fun b7 w7 hw7 hb7 hbo hNb hnb=>?_⟩
       ·go_simp
        rfl
       go_simp
       refine hK _ _ _ ?_
       clear hK K
       refine x_fits rfl rfl rfl hw7 _ _ 141 rfl w.heap.size 3 i6 1 Tryz.underlying141 hi6 hy1 g6 st0.length cp6 (st0.flatMap kCell) rfl (by simp;omega) rfl ⟨b7,0,none⟩ 1 1 [.int .i64 ns[k].kind] rfl rfl ?c1 (by omega) ?c2 ?_
       case c1=>intro u hu;simp at hu;subst hu;rfl
       case c2 =>
        intro w8 hw8 hb8
        refine ⟨owns_keep hb8 (owns_keep hb7 hx6'.drew),?_⟩
        obtain ⟨m0,m1,m2⟩:=made_cell ((hb8.block b7 (made_cell hbo).2.2).trans hbo)
        intro j u hj
        match j,hj with
        | 0,hj=>simp at hj;subst hj;simp [Addr.add,m0]
       intro K hK w8 w9 hw8 hb8 hown9 hgr9 hw9
       go_simp
       refine hK _ _ _ ?_
       clear hK K
       iterate 1 (apply x_sT rfl rfl rfl;(focus intro u hc' hf';(try simp only [World.size_drew] at hc' hf');go_simp <;> rfl);intro K hK;go_simp;apply hK;clear hK K)
       refine x_nil ?_
       have hb39:Below w3.heap.size w3.drew w8:=(hb7.trans (hb8.mono hb7.size)).mono (by simp)
       have hx5':w9.ownsRow w.heap.size 9 1 v5 (st0.length+1) (st0.flatMap xCell ++ [.string (prT false (.par p q))]):=World.ownsRow.kept (owns_keep (hb7.trans (hb8.mono hb7.size)) hown3.drew) hgr9 (apart_or (owns_ne (owns_keep (hb7.trans (hb8.mono hb7.size)) hown3.drew) (owns_keep (hb7.trans (hb8.mono hb7.size)) hx6'.drew) (by decide)))
       have hb9:Below w.heap.size w w9:=((hb3.drew.trans ((hb7.trans (hb8.mono hb7.size)).mono (by simp;have:=hb3.size;omega)))).grown hgr9 (by have:=hb3.size;have:=hb7.size;have:=hb8.size;simp at *;omega) (fun j hj=>by cases hj;omega)
       rw [HK.out] at hown9
       have hst9:=sx_push (x:=.par p q) HT.out ho hc4 hx5' hown9 hgoX hb9 (by omega)
       clear hown3 hown9 hgr9 hw9 hw8 hb8 hw7 hb7 hbo hNb hnb hx6' hx5' hb9 hb39 hb3 hbW hgoX
       go_wp2
       go_roundw
       case rel=>exact ⟨k+1,_,by omega,by go_num,hst9⟩
       case measure=>simp [intOf];omega
      ·have HX:Hid (prT false (.par p q)=((⟨#[40]⟩:ByteArray) ++ prT false p ++ ⟨#[41]⟩) ++ (⟨#[32,42,32]⟩:ByteArray) ++ ((⟨#[40]⟩:ByteArray) ++ prT false q ++ ⟨#[41]⟩)):=(show _=_ by rw [prT];simp only [hps,hqs,hqp,Bool.false_and,Bool.true_and,Bool.false_or,Bool.true_or,Bool.or_false,Bool.or_true,Bool.and_false,Bool.and_true,brk];rfl)
       rw [hps] at tp
       rw [hqs] at tq
       rw [hqp] at tq2
       clear hps hqs hqp
       have hgoX:=hgo16 hk1
       clear hgo15 hgo16
       have g1:(ns[k].kind != 15)=true:=by simp [hk1]
       have g2:(ns[k].kind != 16)=false:=by simp [hk1]
       have g3:(ns[k].kind == 16)=true:=by simp [hk1]
       have HK:=Lib.hid hk1
       clear hk1
       go_wp2_with fail
       refine region_acts (C:=Exc (NoT) _) 4 [0,1,2,3,4,5,6,7,8,9,10] (by kernel_rfl) (by kernel_rfl) (Exc.grows _ _) (Exc.refl _ _) ?_
       iterate 11 (apply x_st rfl rfl rfl;(focus intro u hc' hf';go_simp <;> rfl);intro K hK;go_simp;apply hK;clear hK K)
       refine x_nil ?_
       go_wp2_with fail
       refine region_acts (C:=Exc (NoT) _) 4 [0,1,2,3,4,5,6,7,8,9,10,11] (by kernel_rfl) (by kernel_rfl) (Exc.grows _ _) (Exc.refl _ _) ?_
       iterate 12 (apply x_st rfl rfl rfl;(focus intro u hc' hf';go_simp <;> rfl);intro K hK;go_simp;apply hK;clear hK K)
       refine x_nil ?_
       go_wp2_with fail
       refine region_acts (C:=Exc (NoT) _) 4 [0,1,2,3,4,5,6,7,8,9,10,11,12,13] (by kernel_rfl) (by kernel_rfl) (Exc.grows _ _) (Exc.refl _ _) ?_
       iterate 14 (apply x_st rfl rfl rfl;(focus intro u hc' hf';go_simp <;> rfl);intro K hK;go_simp;apply hK;clear hK K)
       refine x_nil ?_
       obtain ⟨W,hW⟩:∃ W,W=(wr.alloc (.cells #[.int .i64 ns[k].kind,.int .i64 ns[k].value,.string ns[k].name] 170)).drew.drew.drew:=⟨_,rfl⟩
       have hbW:Below w.heap.size w W:=by rw [hW];exact (hbel.alloc (by omega) _).drew.drew.drew
       have hzW:wr.heap.size<W.heap.size:=by rw [hW];simp
       have n0:W.cell? ⟨wr.heap.size,0,none⟩=some (.int .i64 ns[k].kind):=by rw [hW];simp
       have hW5:W.ownsRow w.heap.size 9 1 (.slice (some ⟨g5,0,none⟩) st0.length cp5) st0.length (st0.flatMap xCell):=by rw [hW];exact (hx5t.alloc _).drew.drew.drew
       have hW6:W.ownsRow w.heap.size 3 1 (.slice (some ⟨g6,0,none⟩) st0.length cp6) st0.length (st0.flatMap kCell):=by rw [hW];exact (hx6t.alloc _).drew.drew.drew
       rw [← hW]
       clear hW d0 d1 d2 d3 c0 c1 c2 hx5t hx6t
       go_wp2_with (at_builtin;refine wpList_append_own _ rfl _ _ 98 rfl w.heap.size 9 i5 _ 1 16 Tryz.underlying98 hi5 hz0 hz1 hz2 rfl (by decide) _ _ _ rfl (hW5.alloc _) ⟨W.heap.size,0,none⟩ 1 1 [.string (prT false (.par p q))] rfl rfl ?c1 ?c2 ?c3 ?c4 ?c5 ?_)
       case c1 =>
        intro j u hj
        match j,hj with
        | 0,hj=>simp at hj;subst hj;rw [HX.out];simp [Addr.add]
       case c2=>intro u hu;simp at hu;subst hu;rfl
       case c3=>unfold maxLen;omega
       case c4=>omega
       case c5=>have:=hbW.size;simp;omega
       intro v5 w3 hown3 hgrow _
       have n3:=hgrow.cell (alloc_keep n0 _) (fun hh=>by simp [Value.ownBlock] at hh;omega)
       have hx6':=World.ownsRow.kept (hW6.alloc _) hgrow (.inr (by simp [Value.ownBlock];exact hg56))
       have hb3:Below w.heap.size w w3:=(hbW.alloc hbW.size _).grown hgrow (by have:=hbW.size;simp;omega) (fun j hj=>by simp [Value.ownBlock] at hj;omega)
       have hz3:W.heap.size<w3.heap.size:=by have:=hgrow.size;simp at this;omega
       have hz3b:wr.heap.size<w3.heap.size:=by omega
       have hng:¬ wr.heap.size=g6:=by omega
       have hg6w:g6<w3.heap.size:=by omega
       clear hgrow hW5 hW6 n0
       go_wp2_with fail
       refine region_acts (C:=Exc ((fun j=>j=g6)) _) 4 [0,1,2,3,4,5,6,7] (by kernel_rfl) (by kernel_rfl) (Exc.grows _ _) (Exc.refl _ _) ?_
       iterate 5 (apply x_sT rfl rfl rfl;(focus intro u hc' hf';(try simp only [World.size_drew] at hc' hf');go_simp <;> rfl);intro K hK;go_simp;apply hK;clear hK K)
       refine x_make rfl rfl rfl (Exc.grows _ _) (Exc.refl _ _) (fun b=>.slice (some ⟨b,0,none⟩) 1 1) (fun K hK=>?_)
       apply Exists.intro
       refine ⟨fun w' hw'=>?_,fun b7 w7 hw7 hb7 hbo hNb hnb=>?_⟩
       ·go_simp
        rfl
       go_simp
       refine hK _ _ _ ?_
       clear hK K
       refine x_fits rfl rfl rfl hw7 _ _ 141 rfl w.heap.size 3 i6 1 Tryz.underlying141 hi6 hy1 g6 st0.length cp6 (st0.flatMap kCell) rfl (by simp;omega) rfl ⟨b7,0,none⟩ 1 1 [.int .i64 ns[k].kind] rfl rfl ?c1 (by omega) ?c2 ?_
       case c1=>intro u hu;simp at hu;subst hu;rfl
       case c2 =>
        intro w8 hw8 hb8
        refine ⟨owns_keep hb8 (owns_keep hb7 hx6'.drew),?_⟩
        obtain ⟨m0,m1,m2⟩:=made_cell ((hb8.block b7 (made_cell hbo).2.2).trans hbo)
        intro j u hj
        match j,hj with
        | 0,hj=>simp at hj;subst hj;simp [Addr.add,m0]
       intro K hK w8 w9 hw8 hb8 hown9 hgr9 hw9
       go_simp
       refine hK _ _ _ ?_
       clear hK K
       iterate 1 (apply x_sT rfl rfl rfl;(focus intro u hc' hf';(try simp only [World.size_drew] at hc' hf');go_simp <;> rfl);intro K hK;go_simp;apply hK;clear hK K)
       refine x_nil ?_
       have hb39:Below w3.heap.size w3.drew w8:=(hb7.trans (hb8.mono hb7.size)).mono (by simp)
       have hx5':w9.ownsRow w.heap.size 9 1 v5 (st0.length+1) (st0.flatMap xCell ++ [.string (prT false (.par p q))]):=World.ownsRow.kept (owns_keep (hb7.trans (hb8.mono hb7.size)) hown3.drew) hgr9 (apart_or (owns_ne (owns_keep (hb7.trans (hb8.mono hb7.size)) hown3.drew) (owns_keep (hb7.trans (hb8.mono hb7.size)) hx6'.drew) (by decide)))
       have hb9:Below w.heap.size w w9:=((hb3.drew.trans ((hb7.trans (hb8.mono hb7.size)).mono (by simp;have:=hb3.size;omega)))).grown hgr9 (by have:=hb3.size;have:=hb7.size;have:=hb8.size;simp at *;omega) (fun j hj=>by cases hj;omega)
       rw [HK.out] at hown9
       have hst9:=sx_push (x:=.par p q) HT.out ho hc4 hx5' hown9 hgoX hb9 (by omega)
       clear hown3 hown9 hgr9 hw9 hw8 hb8 hw7 hb7 hbo hNb hnb hx6' hx5' hb9 hb39 hb3 hbW hgoX
       go_wp2
       go_roundw
       case rel=>exact ⟨k+1,_,by omega,by go_num,hst9⟩
       case measure=>simp [intOf];omega
     ·have HX:Hid (prT false (.par p q)=((⟨#[40]⟩:ByteArray) ++ prT false p ++ ⟨#[41]⟩) ++ (⟨#[32,42,32]⟩:ByteArray) ++ ((⟨#[40]⟩:ByteArray) ++ prT false q ++ ⟨#[41]⟩)):=(show _=_ by rw [prT];simp only [hps,hqs,Bool.false_and,Bool.true_and,Bool.false_or,Bool.true_or,Bool.or_false,Bool.or_true,Bool.and_false,Bool.and_true,brk];rfl)
      rw [hps] at tp
      rw [hqs] at tq
      clear hps hqs
      clear tq2
      have hgoX:=hgo16 hk1
      clear hgo15 hgo16
      have g1:(ns[k].kind != 15)=true:=by simp [hk1]
      have g2:(ns[k].kind != 16)=false:=by simp [hk1]
      have g3:(ns[k].kind == 16)=true:=by simp [hk1]
      have HK:=Lib.hid hk1
      clear hk1
      go_wp2_with fail
      refine region_acts (C:=Exc (NoT) _) 4 [0,1,2,3,4,5,6,7,8,9,10] (by kernel_rfl) (by kernel_rfl) (Exc.grows _ _) (Exc.refl _ _) ?_
      iterate 11 (apply x_st rfl rfl rfl;(focus intro u hc' hf';go_simp <;> rfl);intro K hK;go_simp;apply hK;clear hK K)
      refine x_nil ?_
      go_wp2_with fail
      refine region_acts (C:=Exc (NoT) _) 4 [0,1,2,3,4,5,6,7,8,9,10,11] (by kernel_rfl) (by kernel_rfl) (Exc.grows _ _) (Exc.refl _ _) ?_
      iterate 12 (apply x_st rfl rfl rfl;(focus intro u hc' hf';go_simp <;> rfl);intro K hK;go_simp;apply hK;clear hK K)
      refine x_nil ?_
      go_wp2_with fail
      refine region_acts (C:=Exc (NoT) _) 4 [0,1,2,3,4,5,6,7,8,9,10,11,12,13] (by kernel_rfl) (by kernel_rfl) (Exc.grows _ _) (Exc.refl _ _) ?_
      iterate 14 (apply x_st rfl rfl rfl;(focus intro u hc' hf';go_simp <;> rfl);intro K hK;go_simp;apply hK;clear hK K)
      refine x_nil ?_
      obtain ⟨W,hW⟩:∃ W,W=(wr.alloc (.cells #[.int .i64 ns[k].kind,.int .i64 ns[k].value,.string ns[k].name] 170)).drew.drew.drew:=⟨_,rfl⟩
      have hbW:Below w.heap.size w W:=by rw [hW];exact (hbel.alloc (by omega) _).drew.drew.drew
      have hzW:wr.heap.size<W.heap.size:=by rw [hW];simp
      have n0:W.cell? ⟨wr.heap.size,0,none⟩=some (.int .i64 ns[k].kind):=by rw [hW];simp
      have hW5:W.ownsRow w.heap.size 9 1 (.slice (some ⟨g5,0,none⟩) st0.length cp5) st0.length (st0.flatMap xCell):=by rw [hW];exact (hx5t.alloc _).drew.drew.drew
      have hW6:W.ownsRow w.heap.size 3 1 (.slice (some ⟨g6,0,none⟩) st0.length cp6) st0.length (st0.flatMap kCell):=by rw [hW];exact (hx6t.alloc _).drew.drew.drew
      rw [← hW]
      clear hW d0 d1 d2 d3 c0 c1 c2 hx5t hx6t
      go_wp2_with (at_builtin;refine wpList_append_own _ rfl _ _ 98 rfl w.heap.size 9 i5 _ 1 16 Tryz.underlying98 hi5 hz0 hz1 hz2 rfl (by decide) _ _ _ rfl (hW5.alloc _) ⟨W.heap.size,0,none⟩ 1 1 [.string (prT false (.par p q))] rfl rfl ?c1 ?c2 ?c3 ?c4 ?c5 ?_)
      case c1 =>
       intro j u hj
       match j,hj with
       | 0,hj=>simp at hj;subst hj;rw [HX.out];simp [Addr.add]
      case c2=>intro u hu;simp at hu;subst hu;rfl
      case c3=>unfold maxLen;omega
      case c4=>omega
      case c5=>have:=hbW.size;simp;omega
      intro v5 w3 hown3 hgrow _
      have n3:=hgrow.cell (alloc_keep n0 _) (fun hh=>by simp [Value.ownBlock] at hh;omega)
      have hx6':=World.ownsRow.kept (hW6.alloc _) hgrow (.inr (by simp [Value.ownBlock];exact hg56))
      have hb3:Below w.heap.size w w3:=(hbW.alloc hbW.size _).grown hgrow (by have:=hbW.size;simp;omega) (fun j hj=>by simp [Value.ownBlock] at hj;omega)
      have hz3:W.heap.size<w3.heap.size:=by have:=hgrow.size;simp at this;omega
      have hz3b:wr.heap.size<w3.heap.size:=by omega
      have hng:¬ wr.heap.size=g6:=by omega
      have hg6w:g6<w3.heap.size:=by omega
      clear hgrow hW5 hW6 n0
      go_wp2_with fail
      refine region_acts (C:=Exc ((fun j=>j=g6)) _) 4 [0,1,2,3,4,5,6,7] (by kernel_rfl) (by kernel_rfl) (Exc.grows _ _) (Exc.refl _ _) ?_
      iterate 5 (apply x_sT rfl rfl rfl;(focus intro u hc' hf';(try simp only [World.size_drew] at hc' hf');go_simp <;> rfl);intro K hK;go_simp;apply hK;clear hK K)
      refine x_make rfl rfl rfl (Exc.grows _ _) (Exc.refl _ _) (fun b=>.slice (some ⟨b,0,none⟩) 1 1) (fun K hK=>?_)
      apply Exists.intro
      refine ⟨fun w' hw'=>?_,fun b7 w7 hw7 hb7 hbo hNb hnb=>?_⟩
      ·go_simp
       rfl
      go_simp
      refine hK _ _ _ ?_
      clear hK K
      refine x_fits rfl rfl rfl hw7 _ _ 141 rfl w.heap.size 3 i6 1 Tryz.underlying141 hi6 hy1 g6 st0.length cp6 (st0.flatMap kCell) rfl (by simp;omega) rfl ⟨b7,0,none⟩ 1 1 [.int .i64 ns[k].kind] rfl rfl ?c1 (by omega) ?c2 ?_
      case c1=>intro u hu;simp at hu;subst hu;rfl
      case c2 =>
       intro w8 hw8 hb8
       refine ⟨owns_keep hb8 (owns_keep hb7 hx6'.drew),?_⟩
       obtain ⟨m0,m1,m2⟩:=made_cell ((hb8.block b7 (made_cell hbo).2.2).trans hbo)
       intro j u hj
       match j,hj with
       | 0,hj=>simp at hj;subst hj;simp [Addr.add,m0]
      intro K hK w8 w9 hw8 hb8 hown9 hgr9 hw9
      go_simp
      refine hK _ _ _ ?_
      clear hK K
      iterate 1 (apply x_sT rfl rfl rfl;(focus intro u hc' hf';(try simp only [World.size_drew] at hc' hf');go_simp <;> rfl);intro K hK;go_simp;apply hK;clear hK K)
      refine x_nil ?_
      have hb39:Below w3.heap.size w3.drew w8:=(hb7.trans (hb8.mono hb7.size)).mono (by simp)
      have hx5':w9.ownsRow w.heap.size 9 1 v5 (st0.length+1) (st0.flatMap xCell ++ [.string (prT false (.par p q))]):=World.ownsRow.kept (owns_keep (hb7.trans (hb8.mono hb7.size)) hown3.drew) hgr9 (apart_or (owns_ne (owns_keep (hb7.trans (hb8.mono hb7.size)) hown3.drew) (owns_keep (hb7.trans (hb8.mono hb7.size)) hx6'.drew) (by decide)))
      have hb9:Below w.heap.size w w9:=((hb3.drew.trans ((hb7.trans (hb8.mono hb7.size)).mono (by simp;have:=hb3.size;omega)))).grown hgr9 (by have:=hb3.size;have:=hb7.size;have:=hb8.size;simp at *;omega) (fun j hj=>by cases hj;omega)
      rw [HK.out] at hown9
      have hst9:=sx_push (x:=.par p q) HT.out ho hc4 hx5' hown9 hgoX hb9 (by omega)
      clear hown3 hown9 hgr9 hw9 hw8 hb8 hw7 hb7 hbo hNb hnb hx6' hx5' hb9 hb39 hb3 hbW hgoX
      go_wp2
      go_roundw
      case rel=>exact ⟨k+1,_,by omega,by go_num,hst9⟩
      case measure=>simp [intOf];omega
   ·have g1:(ns[k].kind != 15)=true:=by simp;omega
    have g2:(ns[k].kind != 16)=true:=by simp;omega
    have hgo1:Hid (treesGo ns []=treesGo (ns.drop (k+1)) (.leaf ns[k] :: st.reverse)):=(show _=_ by rw [hgo.out,hdrop,treesGo_leaf hk1])
    have hlk:=hlf ns[k] (List.getElem_mem _) hk1
    have hlz:=leafTxt_size hlk
    obtain ⟨a5,cp5,rfl⟩:=owns_shape hx5
    obtain ⟨a6,cp6,rfl⟩:=owns_shape hx6
    clear hk1 hgo hdrop hok hcnt hlf
    go_wp2_with (first|(go_at_call 181;refine (sxWord_any ns[k] _ hlk hnum).mono ?_;rintro e w2 ⟨rfl,hb2⟩;have hown2:=owns_keep hb2 (hx5.alloc _);have hown6:=owns_keep hb2 (hx6.alloc _);have hz2':=hb2.size;obtain ⟨m0,m1,m2⟩:=(show w2.cell? ⟨wr.heap.size,0,none⟩=some (.int .i64 ns[k].kind)∧w2.cell? ⟨wr.heap.size,1,none⟩=some (.int .i64 ns[k].value)∧w2.cell? ⟨wr.heap.size,2,none⟩=some (.string ns[k].name) from ⟨(hb2.cell (p:=⟨wr.heap.size,0,none⟩) (by simp)).trans (by simp),(hb2.cell (p:=⟨wr.heap.size,1,none⟩) (by simp)).trans (by simp),(hb2.cell (p:=⟨wr.heap.size,2,none⟩) (by simp)).trans (by simp)⟩);simp only [World.size_alloc] at hz2')|(at_builtin;refine wpList_append_own _ rfl _ _ 98 rfl w.heap.size 9 i5 _ 1 16 Tryz.underlying98 hi5 hz0 hz1 hz2 rfl (by decide) _ _ _ rfl (hown2.alloc _) ⟨w2.heap.size,0,none⟩ 1 1 [.string (leafTxt ns[k])] rfl rfl ?c1 ?c2 ?c3 ?c4 ?c5 ?_))
    case c1 =>
     intro j u hj
     match j,hj with
     | 0,hj=>simp at hj;subst hj;simp [Addr.add]
    case c2=>intro u hu;simp at hu;subst hu;rfl
    case c3=>unfold maxLen;omega
    case c4=>omega
    case c5=>simp;omega
    intro v' w3 hown3 hgrow _
    have hne5:∀ k,(Value.slice a5 st.length cp5).ownBlock=some k → k<wr.heap.size:=fun k hk=>(World.ownsRow.lt hx5 k hk).2
    have hap:=owns_ne (hown6.alloc (.cells #[.string (leafTxt ns[k])] 9)) (hown2.alloc (.cells #[.string (leafTxt ns[k])] 9)) (by decide)
    have hx6':=World.ownsRow.kept (hown6.alloc _) hgrow (apart_or hap)
    have k0:=hgrow.cell (alloc_keep m0 (.cells #[.string (leafTxt ns[k])] 9)) (fun hh=>by have:=hne5 _ hh.symm;simp at this)
    have hb3:Below w.heap.size w w3:=(((hbel.alloc (by omega) _).trans (hb2.mono (by simp;omega))).alloc (by omega) _).grown hgrow (by simp;omega) (fun j hj=>(World.ownsRow.lt hx5 j hj).1)
    have hz3:=hb3.size
    have hz4:wr.heap.size<w3.heap.size:=by have:=hgrow.size;simp at this;omega
    clear hown2 hown6 hgrow hb2 m0 m1 m2 hap hx6
    go_wp2_with (at_builtin;refine wpList_append_own _ rfl _ _ 141 rfl w.heap.size 3 i6 _ 1 8 Tryz.underlying141 hi6 hy0 hy1 hy2 rfl (by decide) _ _ _ rfl (hx6'.alloc _) ⟨w3.heap.size,0,none⟩ 1 1 [.int .i64 ns[k].kind] rfl rfl ?d1 ?d2 ?d3 ?d4 ?d5 ?_)
    case d1 =>
     intro j u hj
     match j,hj with
     | 0,hj=>simp at hj;subst hj;simp [Addr.add]
    case d2=>intro u hu;simp at hu;subst hu;rfl
    case d3=>unfold maxLen;omega
    case d4=>omega
    case d5=>simp;omega
    intro v6 w4 hown4 hgrow4 _
    have hap4:=owns_ne (hown3.alloc (.cells #[.int .i64 ns[k].kind] 3)) (hx6'.alloc (.cells #[.int .i64 ns[k].kind] 3)) (by decide)
    have hx5':=World.ownsRow.kept (hown3.alloc _) hgrow4 (apart_or hap4)
    have hb4:Below w.heap.size w w4:=(hb3.alloc (by omega) _).grown hgrow4 (by simp;omega) (fun j hj=>(World.ownsRow.lt hx6' j hj).1)
    have hst4:=sx_push HT.out ho hc4 hx5' hown4 hgo1 hb4 (by omega)
    clear hown3 hown4 hgrow4 hx6' hx5' hx5 hb3 hb4 hap4 hgo1
    go_wp2
    go_roundw
    case rel=>exact ⟨k+1,_,by omega,by go_num,hst4⟩
    case measure=>simp [intOf];omega
  ·have hkn:k=ns.length:=by omega
   subst hkn
   have h0:=hgo.out
   rw [HT.out,List.drop_length,treesGo] at h0
   have hst1:st=[t]:=by
    have:=congrArg List.reverse (Option.some.inj h0).symm
    simpa using this
   subst hst1
   obtain ⟨g,cp,rfl,hgc,hgm,hgB,hgs⟩:=owns_some hx5 (by simp)
   have d0:=owns_cell xCell_len hx5 0 0 (by simp) (by omega)
   simp [xCell] at d0
   clear h0 hgo hat HT hlf hok hcnt
   go_wp2
   go_ret
   exact ⟨rfl,hbel⟩
end Go.Proofs.YtldhpaflmnlcaaaGreatDoor
/-
  The reference's EntryText and joText. Own work.
-/
namespace Go.Proofs.YtldhpaflmnlcaaaGreatDoor
open Go.RowKit
def NumOk:Prop:=∀ (v:Int) (w:World),0≤v → v≤96 → Calls Tryz.prog 128 #[.int .i64 v] w fun e w'=>e=.returned (.string (numT v))∧Below w.heap.size w w'
theorem joText_1 (hnum:NumOk) (v:Value) (e:En) (t:Tr) (w:World) (hk:e.kind=1) (hv:NdsAt w v e.body) (he:EnOk e) (ht:treesGo e.body []=some [t]) (ho:t.Ok) (hc:t.count≤400) :
  Calls Tryz.prog 82 #[.agg #[.int .i64 e.kind,.string e.name,.string e.to,v]] w fun r w'=>r=.returned (.string (txtE e))∧Below w.heap.size w w':=by
 obtain ⟨ab,cb,rfl⟩:=hv.slice
 have hz:=prT_size false t ho
 have HX:Hid (txtE e=bLet ++ e.name ++ bEq ++ prT false t):=(show _=_ by unfold txtE;rw [if_pos hk,treeL_eq ht];simp only [ByteArray.append_assoc])
 have HT:=Lib.hid ht
 have hnm:=he.1
 have n1:¬ 9223372036854775807<4+e.name.size:=by omega
 have n2:¬ 9223372036854775807<4+e.name.size+3:=by omega
 have n3:¬ 9223372036854775807<4+e.name.size+3+(prT false t).size:=by omega
 rw [hk]
 clear hk ht
 go_enter Tryz.func82,Tryz.ntmps82
 go_wp2_with fail
 refine region_grow (C:=Grew (w.alloc _).drew) 8 (by kernel_rfl) (by kernel_rfl) (by kernel_rfl) (Grew.refl _) ?_
 simp only [List.take_succ_cons,List.take_zero,List.drop_succ_cons,List.drop_zero]
 iterate 6
  refine g_step (fun K hK=>?_)
  refine g_still rfl ?_
  apply Exists.intro
  refine ⟨fun w' hw'=>?_,?_⟩
  ·obtain ⟨hc',hf',_⟩:=bcell hw'
   go_simp
   rfl
  go_simp
  refine hK _ _ ?_
  clear hK K
 refine g_step (fun K hK=>?_);refine g_call rfl rfl 124 ?_;apply Exists.intro;refine ⟨fun w' hw'=>?_,?_⟩;(focus go_simp;rfl);refine (sxPrint_any _ e.body t _ ((hv.keep (alloc_below _ _)).keep (Below.refl _ _).drew) he.2.2.2 HT.out ho hc hnum).mono ?_;rintro e w3 ⟨rfl,hb3⟩;refine ⟨_,rfl,hb3,?_⟩;go_simp;apply hK;clear hK K
 iterate 1
  refine g_step (fun K hK=>?_)
  refine g_still rfl ?_
  apply Exists.intro
  refine ⟨fun w' hw'=>?_,?_⟩
  ·obtain ⟨hc',hf',_⟩:=bcell hw'
   go_simp
   rfl
  go_simp
  refine hK _ _ ?_
  clear hK K
 refine g_nil ?_
 go_wp2
 go_ret
 exact ⟨by rw [HX.out];rfl,(alloc_below _ _).drew.trans (hb3.mono (by simp))⟩
theorem joText_2 (v:Value) (e:En) (w:World) (hk:e.kind=2) (hv:NdsAt w v e.body) (he:EnOk e) :
  Calls Tryz.prog 82 #[.agg #[.int .i64 e.kind,.string e.name,.string e.to,v]] w fun r w'=>r=.returned (.string (txtE e))∧Below w.heap.size w w':=by
 obtain ⟨ab,cb,rfl⟩:=hv.slice
 have HX:Hid (txtE e=bDrop ++ e.name):=(show _=_ by unfold txtE;rw [if_neg (by omega),if_pos hk])
 have hnm:=he.1
 rw [hk]
 clear hk
 go_enter Tryz.func82,Tryz.ntmps82
 go_wp2
 go_ret
 exact ⟨by rw [HX.out];rfl,alloc_below _ _⟩
theorem joText_3 (v:Value) (e:En) (w:World) (hk:e.kind=3) (hv:NdsAt w v e.body) (he:EnOk e) :
  Calls Tryz.prog 82 #[.agg #[.int .i64 e.kind,.string e.name,.string e.to,v]] w fun r w'=>r=.returned (.string (txtE e))∧Below w.heap.size w w':=by
 obtain ⟨ab,cb,rfl⟩:=hv.slice
 have HX:Hid (txtE e=bName ++ e.name ++ bSp ++ e.to):=(show _=_ by unfold txtE;rw [if_neg (by omega),if_neg (by omega)];simp only [ByteArray.append_assoc])
 have hnm:=he.1
 have hto:=he.2.1
 rw [hk]
 clear hk
 go_enter Tryz.func82,Tryz.ntmps82
 go_wp2
 go_ret
 exact ⟨by rw [HX.out];rfl,alloc_below _ _⟩
theorem joText_any (hnum:NumOk) (v:Value) (L R:List Df) (e:En) (w:World) (hv:NdsAt w v e.body) (he:EnOk e) (h:applyE L e=some R) :
  Calls Tryz.prog 82 #[.agg #[.int .i64 e.kind,.string e.name,.string e.to,v]] w fun r w'=>r=.returned (.string (txtE e))∧Below w.heap.size w w':=by
 obtain ⟨_,_,h1,h3,hp⟩:=applyE_parts h
 by_cases k1:e.kind=1
 ·obtain ⟨t,q1,q2,q3,_⟩:=hp k1
  exact joText_1 hnum v e t w k1 hv he q1 q2 q3
 by_cases k2:e.kind=2
 ·exact joText_2 v e w k2 hv he
 exact joText_3 v e w (by omega) hv he
end Go.Proofs.YtldhpaflmnlcaaaGreatDoor
/-
  The reference's l1Num at values of leaves. Own work.
-/
namespace Go.Proofs.YtldhpaflmnlcaaaGreatDoor
open Go.RowKit
theorem dec_len (n:Nat) (h:n≤1000000):(Lib.decDigits n).length≤8:=by
 by_cases h1:n<10
 ·rw [Lib.decDigits,dif_pos h1];simp
 rw [Lib.decDigits,dif_neg h1,List.length_append]
 by_cases h2:n / 10<10
 ·rw [Lib.decDigits,dif_pos h2];simp
 rw [Lib.decDigits,dif_neg h2,List.length_append]
 by_cases h3:n / 10 / 10<10
 ·rw [Lib.decDigits,dif_pos h3];simp
 rw [Lib.decDigits,dif_neg h3,List.length_append]
 by_cases h4:n / 10 / 10 / 10<10
 ·rw [Lib.decDigits,dif_pos h4];simp
 rw [Lib.decDigits,dif_neg h4,List.length_append]
 by_cases h5:n / 10 / 10 / 10 / 10<10
 ·rw [Lib.decDigits,dif_pos h5];simp
 rw [Lib.decDigits,dif_neg h5,List.length_append]
 by_cases h6:n / 10 / 10 / 10 / 10 / 10<10
 ·rw [Lib.decDigits,dif_pos h6];simp
 rw [Lib.decDigits,dif_neg h6,List.length_append,Lib.decDigits,dif_pos (by omega)]
 simp
theorem l1Num_any (n:Nat):∀ (w:World),n≤1000000 → Calls Tryz.prog 128 #[.int .i64 n] w fun e w'=>e=.returned (.string ⟨(Lib.decDigits n).toArray⟩)∧Below w.heap.size w w':=by
 induction n using Nat.strongRecOn with
 | _ n ih =>
  intro w h
  by_cases h1:n<10
  ·exact l1Num_small n w h1
  ·exact l1Num_big n w (by omega) h (by have:=dec_len (n / 10) (by omega);omega) fun w=>ih (n / 10) (by omega) w (by omega)
theorem numOk:NumOk:=fun v w h0 h1=>by
 obtain ⟨k,rfl⟩:=Int.eq_ofNat_of_zero_le h0
 exact l1Num_any k w (by omega)
end Go.Proofs.YtldhpaflmnlcaaaGreatDoor
