/-
  The reference's sxWord: the text of a leaf. Own work.
-/
import Derived.Test.YtikgblkfmpecfaaGreatDoorKU
import Derived.Test.YtikgblkfmpecfaaGreatDoorKE
import Derived.Test.YtikgblkfmpecfaaGreatDoorKW
set_option linter.all false
set_option maxRecDepth 100000
set_option maxHeartbeats 8000000
namespace Go.Proofs.YtikgblkfmpecfaaGreatDoor
open Go.RowKit
theorem res_cell {w:World} {v:Value} {j:Nat} {b:Nat} {n c:Nat} (h:StrsAt w v reserved) (hv:v=.slice (some ⟨b,0,none⟩) n c) (hk:j<14):w.cell? ⟨b,j,none⟩=some (.string (word ((j:Int)+1))):=by
 subst hv
 obtain ⟨a,cap,ha,hc,hat⟩:=h
 simp only [Value.slice.injEq,Option.some.injEq] at ha
 obtain ⟨rfl,_,_⟩:=ha
 obtain ⟨b',o',hb,hl,hx⟩:=hat j hk
 simp only [Option.some.injEq,Addr.mk.injEq] at hb
 obtain ⟨rfl,rfl,_⟩:=hb
 have e:(⟨b,0+j * 1,none⟩:Addr)=⟨b,j,none⟩:=by simp
 rw [e] at hx
 rw [hx]
 unfold word kwords
 have e2:((j:Int)+1).toNat=j+1:=by omega
 rw [List.getD_eq_getElem?_getD,e2,List.getElem?_cons_succ,List.getElem?_eq_getElem hl]
 rfl
theorem lbRes_any (j:Nat) (hk:j<14) (w:World):Calls Tryz.prog 145 #[] w fun e w'=>∃ n:Nat,e=.returned (.slice (some ⟨w.heap.size,0,none⟩) n n)∧j<n∧w'.cell? ⟨w.heap.size,j,none⟩=some (.string (word ((j:Int)+1)))∧Below w.heap.size w w'∧w.heap.size<w'.heap.size :=
 (lbReserved_any w).mono fun e w' ⟨n,q1,q2,q3,q4,q5,q6⟩=>⟨n,q1,by omega,res_cell q4 rfl hk,q5,q6⟩
theorem lbRes_1 (w:World):Calls Tryz.prog 145 #[] w fun e w'=>∃ n:Nat,e=.returned (.slice (some ⟨w.heap.size,0,none⟩) n n)∧0<n∧w'.cell? ⟨w.heap.size,0,none⟩=some (.string (word 1))∧Below w.heap.size w w'∧w.heap.size<w'.heap.size:=lbRes_any 0 (by omega) w
theorem sxWord_1 (nv:Int) (nn:ByteArray) (w:World) (h3:0≤nv) (h4:nv≤96) (hnum:∀ w,Calls Tryz.prog 106 #[.int .i64 nv] w fun e w'=>e=.returned (.string (numT nv))∧Below w.heap.size w w') :
  Calls Tryz.prog 88 #[.agg #[.int .i64 1,.int .i64 nv,.string nn]] w fun e w'=>e=.returned (.string (word 1 ++ bSp ++ numT nv))∧Below w.heap.size w w':=by
 have hsz:=word_size 1
 have hsz2:=numT_size h3 h4
 have hbz:(bSp ++ numT nv).size≤3:=by rw [bsize];have:bSp.size=1:=rfl;omega
 have e1:IntKind.i64.wrap (1 - 1)=0:=by decide
 have e2:IntKind.i64.wrap 0=0:=by decide
 go_enter Tryz.func88,Tryz.ntmps88
 go_wp2_with fail
 go_region_with ((go_at_call 145;refine (lbRes_1 _).mono ?_;rintro e w3 ⟨n3,rfl,hkn,hc0,hb3,hz3⟩;obtain ⟨hc3,hf3,hs3⟩:=bcell hb3;simp only [World.size_alloc,World.size_drew] at hc0 hz3 hs3 hb3 hc3 hf3))
 all_goals
  clear e1 e2
  go_wp2_with (go_at_call 106;refine (hnum _).mono ?_;rintro e w4 ⟨rfl,hb4⟩)
  go_ret
  refine ⟨by rw [ByteArray.append_assoc];rfl,?_⟩
  first|(refine Below.trans ?_ (Below.mono hb4 (by omega));refine Below.trans ?_ (Below.mono hb3 (by omega));repeat (first|exact Below.refl _ _|with_reducible refine Below.drew ?_|refine Below.alloc ?_ (by simp <;> omega) _))|(refine Below.trans ?_ (Below.mono hb3 (by omega));repeat (first|exact Below.refl _ _|with_reducible refine Below.drew ?_|refine Below.alloc ?_ (by simp <;> omega) _))
theorem lbRes_7 (w:World):Calls Tryz.prog 145 #[] w fun e w'=>∃ n:Nat,e=.returned (.slice (some ⟨w.heap.size,0,none⟩) n n)∧6<n∧w'.cell? ⟨w.heap.size,6,none⟩=some (.string (word 7))∧Below w.heap.size w w'∧w.heap.size<w'.heap.size:=lbRes_any 6 (by omega) w
theorem sxWord_7 (nv:Int) (nn:ByteArray) (w:World) (h3:0≤nv) (h4:nv≤96) (hnum:∀ w,Calls Tryz.prog 106 #[.int .i64 nv] w fun e w'=>e=.returned (.string (numT nv))∧Below w.heap.size w w') :
  Calls Tryz.prog 88 #[.agg #[.int .i64 7,.int .i64 nv,.string nn]] w fun e w'=>e=.returned (.string (word 7 ++ bSp ++ numT nv))∧Below w.heap.size w w':=by
 have hsz:=word_size 7
 have hsz2:=numT_size h3 h4
 have hbz:(bSp ++ numT nv).size≤3:=by rw [bsize];have:bSp.size=1:=rfl;omega
 have e1:IntKind.i64.wrap (7 - 1)=6:=by decide
 have e2:IntKind.i64.wrap 6=6:=by decide
 go_enter Tryz.func88,Tryz.ntmps88
 go_wp2_with fail
 go_region_with ((go_at_call 145;refine (lbRes_7 _).mono ?_;rintro e w3 ⟨n3,rfl,hkn,hc0,hb3,hz3⟩;obtain ⟨hc3,hf3,hs3⟩:=bcell hb3;simp only [World.size_alloc,World.size_drew] at hc0 hz3 hs3 hb3 hc3 hf3))
 all_goals
  clear e1 e2
  go_wp2_with (go_at_call 106;refine (hnum _).mono ?_;rintro e w4 ⟨rfl,hb4⟩)
  go_ret
  refine ⟨by rw [ByteArray.append_assoc];rfl,?_⟩
  first|(refine Below.trans ?_ (Below.mono hb4 (by omega));refine Below.trans ?_ (Below.mono hb3 (by omega));repeat (first|exact Below.refl _ _|with_reducible refine Below.drew ?_|refine Below.alloc ?_ (by simp <;> omega) _))|(refine Below.trans ?_ (Below.mono hb3 (by omega));repeat (first|exact Below.refl _ _|with_reducible refine Below.drew ?_|refine Below.alloc ?_ (by simp <;> omega) _))
theorem lbRes_13 (w:World):Calls Tryz.prog 145 #[] w fun e w'=>∃ n:Nat,e=.returned (.slice (some ⟨w.heap.size,0,none⟩) n n)∧12<n∧w'.cell? ⟨w.heap.size,12,none⟩=some (.string (word 13))∧Below w.heap.size w w'∧w.heap.size<w'.heap.size:=lbRes_any 12 (by omega) w
theorem sxWord_13 (nv:Int) (nn:ByteArray) (w:World) (h3:0≤nv) (h4:nv≤96) (hnum:∀ w,Calls Tryz.prog 106 #[.int .i64 nv] w fun e w'=>e=.returned (.string (numT nv))∧Below w.heap.size w w') :
  Calls Tryz.prog 88 #[.agg #[.int .i64 13,.int .i64 nv,.string nn]] w fun e w'=>e=.returned (.string (word 13 ++ bSp ++ numT nv))∧Below w.heap.size w w':=by
 have hsz:=word_size 13
 have hsz2:=numT_size h3 h4
 have hbz:(bSp ++ numT nv).size≤3:=by rw [bsize];have:bSp.size=1:=rfl;omega
 have e1:IntKind.i64.wrap (13 - 1)=12:=by decide
 have e2:IntKind.i64.wrap 12=12:=by decide
 go_enter Tryz.func88,Tryz.ntmps88
 go_wp2_with fail
 go_region_with ((go_at_call 145;refine (lbRes_13 _).mono ?_;rintro e w3 ⟨n3,rfl,hkn,hc0,hb3,hz3⟩;obtain ⟨hc3,hf3,hs3⟩:=bcell hb3;simp only [World.size_alloc,World.size_drew] at hc0 hz3 hs3 hb3 hc3 hf3))
 all_goals
  clear e1 e2
  go_wp2_with (go_at_call 106;refine (hnum _).mono ?_;rintro e w4 ⟨rfl,hb4⟩)
  go_ret
  refine ⟨by rw [ByteArray.append_assoc];rfl,?_⟩
  first|(refine Below.trans ?_ (Below.mono hb4 (by omega));refine Below.trans ?_ (Below.mono hb3 (by omega));repeat (first|exact Below.refl _ _|with_reducible refine Below.drew ?_|refine Below.alloc ?_ (by simp <;> omega) _))|(refine Below.trans ?_ (Below.mono hb3 (by omega));repeat (first|exact Below.refl _ _|with_reducible refine Below.drew ?_|refine Below.alloc ?_ (by simp <;> omega) _))
theorem sxWord_bare (j:Nat) (nv:Int) (nn:ByteArray) (w:World) (h2:j<14) (hv:¬ ((j:Int)+1=1∨(j:Int)+1=7∨(j:Int)+1=13)) :
  Calls Tryz.prog 88 #[.agg #[.int .i64 ((j:Int)+1),.int .i64 nv,.string nn]] w fun e w'=>e=.returned (.string (word ((j:Int)+1)))∧Below w.heap.size w w':=by
 have g1:((j:Int)+1 == 17)=false:=by simp;omega
 have g2:((j:Int)+1 == 1)=false:=by simp;omega
 have g3:((j:Int)+1 == 7)=false:=by simp;omega
 have g4:((j:Int)+1 == 13)=false:=by simp;omega
 have e1:IntKind.i64.wrap ((j:Int)+1 - 1)=j:=by rw [show (j:Int)+1 - 1=j by omega];exact IntWalk.i64_in _ (by omega)
 have e2:IntKind.i64.wrap (j:Int)=j:=IntWalk.i64_in _ (by omega)
 have hj0:(0:Int)≤j:=by omega
 clear hv
 go_enter Tryz.func88,Tryz.ntmps88
 go_wp2_with fail
 go_region_with ((go_at_call 145;refine (lbRes_any j (by omega) _).mono ?_;rintro e w3 ⟨n3,rfl,hkn,hc0,hb3,hz3⟩;obtain ⟨hc3,hf3,hs3⟩:=bcell hb3;simp only [World.size_alloc,World.size_drew] at hc0 hz3 hs3 hb3 hc3 hf3))
 all_goals
  clear e1 e2
  go_wp2
  go_ret
  refine ⟨rfl,?_⟩
  first|(refine Below.trans ?_ (Below.mono hb4 (by omega));refine Below.trans ?_ (Below.mono hb3 (by omega));repeat (first|exact Below.refl _ _|with_reducible refine Below.drew ?_|refine Below.alloc ?_ (by simp <;> omega) _))|(refine Below.trans ?_ (Below.mono hb3 (by omega));repeat (first|exact Below.refl _ _|with_reducible refine Below.drew ?_|refine Below.alloc ?_ (by simp <;> omega) _))
theorem sxWord_any (n:Nd) (w:World) (hok:LeafOk n) (hnum:∀ v w,0≤v → v≤96 → Calls Tryz.prog 106 #[.int .i64 v] w fun e w'=>e=.returned (.string (numT v))∧Below w.heap.size w w') :
  Calls Tryz.prog 88 #[.agg #[.int .i64 n.kind,.int .i64 n.value,.string n.name]] w fun e w'=>e=.returned (.string (leafTxt n))∧Below w.heap.size w w':=by
 by_cases h17:n.kind=17
 ·have g1:(n.kind == 17)=true:=by simp [h17]
  have HR:Hid (leafTxt n=n.name):=(show _=_ by simp [leafTxt,h17])
  clear h17 hok hnum
  go_enter Tryz.func88,Tryz.ntmps88
  go_wp2
  go_ret
  exact ⟨by rw [HR.out];rfl,alloc_below _ _⟩
 ·obtain ⟨h1,h2,h3,h4⟩:1≤n.kind∧n.kind≤14∧0≤n.value∧n.value≤96:=by
   rcases hok with ⟨h,_⟩|h
   ·exact absurd h h17
   ·exact h
  obtain ⟨nk,nv,nn⟩:=n
  simp only at h17 h1 h2 h3 h4
  by_cases hv:nk=1∨nk=7∨nk=13
  ·rw [show leafTxt ⟨nk,nv,nn⟩=word nk ++ bSp ++ numT nv by unfold leafTxt;rw [if_neg h17,if_pos hv]]
   rcases hv with rfl|rfl|rfl
   ·exact sxWord_1 nv nn w h3 h4 fun w=>hnum nv w h3 h4
   ·exact sxWord_7 nv nn w h3 h4 fun w=>hnum nv w h3 h4
   ·exact sxWord_13 nv nn w h3 h4 fun w=>hnum nv w h3 h4
  ·rw [show leafTxt ⟨nk,nv,nn⟩=word nk by unfold leafTxt;rw [if_neg h17,if_neg hv]]
   obtain ⟨j,hj⟩:=Int.eq_ofNat_of_zero_le (show 0≤nk - 1 by omega)
   obtain rfl:nk=(j:Int)+1:=by omega
   exact sxWord_bare j nv nn w (by omega) hv
end Go.Proofs.YtikgblkfmpecfaaGreatDoor
/-
  The reference's sxPrint: the text of a term, without all parentheses. Own work.
-/
namespace Go.Proofs.YtikgblkfmpecfaaGreatDoor
open Go.RowKit
theorem infoStr:(Tryz.prog.info? 9).map (fun i=>(i.zero,i.size,i.bytes))=some (some (.string ⟨#[]⟩),1,16):=by kernel_rfl
theorem infoI64:(Tryz.prog.info? 3).map (fun i=>(i.zero,i.size,i.bytes))=some (some (.int .i64 0),1,8):=by kernel_rfl
def kCell (t:Tr):List Value:=[.int .i64 t.top]
theorem kCell_len (t:Tr):(kCell t).length=1:=rfl
theorem top_seq {t:Tr} (h:t.Ok):(t.top == 15)=t.isSeq:=by
 cases t with
 | leaf n=>simp only [Tr.Ok,LeafOk] at h;simp [Tr.top,Tr.isSeq];omega
 | seq a b=>rfl
 | par a b=>rfl
theorem top_par {t:Tr} (h:t.Ok):(t.top == 16)=t.isPar:=by
 cases t with
 | leaf n=>simp only [Tr.Ok,LeafOk] at h;simp [Tr.top,Tr.isPar];omega
 | seq a b=>rfl
 | par a b=>rfl
theorem treesGo_ok:∀ (ns:List Nd) (st:List Tr) {ts:List Tr},treesGo ns st=some ts → (∀ t ∈ ts,t.Ok) → (∀ t ∈ st,t.Ok)∧∀ n ∈ ns,¬ (n.kind=15∨n.kind=16) → LeafOk n
 | [],st,ts,h,ho=>by
  simp only [treesGo,Option.some.injEq] at h
  subst h
  exact ⟨ho,by simp⟩
 | n :: r,st,ts,h,ho=>by
  by_cases h15:n.kind=15
  ·match st,h with
   | b :: a :: st',h =>
    rw [treesGo_seq h15] at h
    obtain ⟨h1,h2⟩:=treesGo_ok r _ h ho
    have hs:=h1 (.seq a b) (by simp)
    refine ⟨fun t ht=>?_,fun m hm hk=>?_⟩
    ·rcases List.mem_cons.1 ht with rfl|ht
     ·exact hs.2
     ·rcases List.mem_cons.1 ht with rfl|ht
      ·exact hs.1
      ·exact h1 t (by simp [ht])
    ·rcases List.mem_cons.1 hm with rfl|hm
     ·exact absurd (.inl h15) hk
     ·exact h2 m hm hk
   | [],h=>rw [treesGo_short (.inl h15) (by simp)] at h;cases h
   | [a],h=>rw [treesGo_short (.inl h15) (by simp)] at h;cases h
  ·by_cases h16:n.kind=16
   ·match st,h with
    | b :: a :: st',h =>
     rw [treesGo_par h16] at h
     obtain ⟨h1,h2⟩:=treesGo_ok r _ h ho
     have hs:=h1 (.par a b) (by simp)
     refine ⟨fun t ht=>?_,fun m hm hk=>?_⟩
     ·rcases List.mem_cons.1 ht with rfl|ht
      ·exact hs.2
      ·rcases List.mem_cons.1 ht with rfl|ht
       ·exact hs.1
       ·exact h1 t (by simp [ht])
     ·rcases List.mem_cons.1 hm with rfl|hm
      ·exact absurd (.inr h16) hk
      ·exact h2 m hm hk
    | [],h=>rw [treesGo_short (.inr h16) (by simp)] at h;cases h
    | [a],h=>rw [treesGo_short (.inr h16) (by simp)] at h;cases h
   ·rw [treesGo_leaf (by omega)] at h
    obtain ⟨h1,h2⟩:=treesGo_ok r _ h ho
    refine ⟨fun t ht=>h1 t (by simp [ht]),fun m hm hk=>?_⟩
    rcases List.mem_cons.1 hm with rfl|hm
    ·exact h1 (.leaf m) (by simp)
    ·exact h2 m hm hk
theorem treesGo_cnt:∀ (ns:List Nd) (st:List Tr) {ts:List Tr},treesGo ns st=some ts → sumC ts=sumC st+ns.length
 | [],st,ts,h=>by simp only [treesGo,Option.some.injEq] at h;subst h;simp
 | n :: r,st,ts,h=>by
  by_cases h15:n.kind=15
  ·match st,h with
   | b :: a :: st',h=>rw [treesGo_seq h15] at h;rw [treesGo_cnt r _ h];simp [sumC,Tr.count];omega
   | [],h=>rw [treesGo_short (.inl h15) (by simp)] at h;cases h
   | [a],h=>rw [treesGo_short (.inl h15) (by simp)] at h;cases h
  ·by_cases h16:n.kind=16
   ·match st,h with
    | b :: a :: st',h=>rw [treesGo_par h16] at h;rw [treesGo_cnt r _ h];simp [sumC,Tr.count];omega
    | [],h=>rw [treesGo_short (.inr h16) (by simp)] at h;cases h
    | [a],h=>rw [treesGo_short (.inr h16) (by simp)] at h;cases h
   ·rw [treesGo_leaf (by omega)] at h;rw [treesGo_cnt r _ h];simp [sumC,Tr.count];omega
theorem mem_sumC {st:List Tr} {t:Tr} (h:t ∈ st):t.count≤sumC st:=by
 induction st with
 | nil=>cases h
 | cons x r ih =>
  simp only [sumC,List.map_cons,List.sum_cons]
  rcases List.mem_cons.1 h with rfl|h
  ·omega
  ·have:=ih h;simp only [sumC] at this;omega
theorem stack_ok {ns:List Nd} {k:Nat} {st:List Tr} {t:Tr} (h:treesGo (ns.drop k) st.reverse=some [t]) (ho:t.Ok) (hc:t.count≤400):(∀ x ∈ st,x.Ok)∧∀ x ∈ st,x.count≤400:=by
 obtain ⟨h1,_⟩:=treesGo_ok _ _ h (by simpa using ho)
 have h2:=treesGo_cnt _ _ h
 have h3:sumC [t]=t.count:=by simp [sumC]
 refine ⟨fun x hx=>h1 x (by simpa using hx),fun x hx=>?_⟩
 have:=mem_sumC (st:=st.reverse) (by simpa using hx)
 omega
theorem apart_or {a b:Value} (h:Apart a b):a.ownBlock=none∨a.ownBlock ≠ b.ownBlock:=by
 cases ha:a.ownBlock with
 | none=>exact .inl rfl
 | some k=>exact .inr fun e=>h k ha e.symm
end Go.Proofs.YtikgblkfmpecfaaGreatDoor
/-
  The reference's EntryText and joText. Own work.
-/
namespace Go.Proofs.YtikgblkfmpecfaaGreatDoor
open Go.RowKit
def NumOk:Prop:=∀ (v:Int) (w:World),0≤v → v≤96 → Calls Tryz.prog 106 #[.int .i64 v] w fun e w'=>e=.returned (.string (numT v))∧Below w.heap.size w w'
end Go.Proofs.YtikgblkfmpecfaaGreatDoor
/-
  The reference's l1Num at values of leaves. Own work.
-/
namespace Go.Proofs.YtikgblkfmpecfaaGreatDoor
open Go.RowKit
theorem dec_len (n:Nat) (h:n≤1000000):(Lib.decDigits n).length≤8:=by
 by_cases h1:n<10
 ·rw [Lib.decDigits,dif_pos h1];simp
 rw [Lib.decDigits,dif_neg h1,List.length_append]
 by_cases h2:n / 10<10
 ·rw [Lib.decDigits,dif_pos h2];simp
 rw [Lib.decDigits,dif_neg h2,List.length_append]
 by_cases h3:n / 10 / 10<10
 ·rw [Lib.decDigits,dif_pos h3];simp
 rw [Lib.decDigits,dif_neg h3,List.length_append]
 by_cases h4:n / 10 / 10 / 10<10
 ·rw [Lib.decDigits,dif_pos h4];simp
 rw [Lib.decDigits,dif_neg h4,List.length_append]
 by_cases h5:n / 10 / 10 / 10 / 10<10
 ·rw [Lib.decDigits,dif_pos h5];simp
 rw [Lib.decDigits,dif_neg h5,List.length_append]
 by_cases h6:n / 10 / 10 / 10 / 10 / 10<10
 ·rw [Lib.decDigits,dif_pos h6];simp
 rw [Lib.decDigits,dif_neg h6,List.length_append,Lib.decDigits,dif_pos (by omega)]
 simp
theorem l1Num_any (n:Nat):∀ (w:World),n≤1000000 → Calls Tryz.prog 106 #[.int .i64 n] w fun e w'=>e=.returned (.string ⟨(Lib.decDigits n).toArray⟩)∧Below w.heap.size w w':=by
 induction n using Nat.strongRecOn with
 | _ n ih =>
  intro w h
  by_cases h1:n<10
  ·exact l1Num_small n w h1
  ·exact l1Num_big n w (by omega) h (by have:=dec_len (n / 10) (by omega);omega) fun w=>ih (n / 10) (by omega) w (by omega)
theorem numOk:NumOk:=fun v w h0 h1=>by
 obtain ⟨k,rfl⟩:=Int.eq_ofNat_of_zero_le h0
 exact l1Num_any k w (by omega)
end Go.Proofs.YtikgblkfmpecfaaGreatDoor
