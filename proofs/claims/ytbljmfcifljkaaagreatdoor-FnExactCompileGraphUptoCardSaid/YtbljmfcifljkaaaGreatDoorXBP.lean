/-
  The laws' comparison of programs, the marks in them, the marks read again. Own work.
-/
import Derived.Test.YtbljmfcifljkaaaGreatDoorXAS
import Derived.Test.YtbljmfcifljkaaaGreatDoorXAI
import Derived.Test.YtbljmfcifljkaaaGreatDoorXAD
set_option linter.all false
set_option maxRecDepth 100000
set_option maxHeartbeats 8000000
namespace Go.Proofs.YtbljmfcifljkaaaGreatDoor
open Go.RowKit
set_option maxRecDepth 100000
set_option maxHeartbeats 2000000
theorem eqInstr_same (x:InI) (w:World) :
  Calls Tryz.prog 154 #[.agg #[.int .i64 x.op,.int .i64 x.r,.int .i64 x.a,.int .i64 x.b,.int .i64 x.value],.agg #[.int .i64 x.op,.int .i64 x.r,.int .i64 x.a,.int .i64 x.b,.int .i64 x.value]] w (FlP true w):=by
 have e1:(x.op != x.op)=false:=by simp
 have e2:(x.r != x.r)=false:=by simp
 have e3:(x.a != x.a)=false:=by simp
 have e4:(x.b != x.b)=false:=by simp
 have e5:(x.value != x.value)=false:=by simp
 go_enter Tryz.func154,Tryz.ntmps154
 go_wp2
 go_ret
 exact ⟨rfl,(alloc_below _ _).trans ((alloc_below _ _).mono (by simp))⟩
theorem eqInstrS_same (v v':Value) (a:List InI) (w:World) (hv:InsAt w v a) (hv':InsAt w v' a) (hn:a.length≤1000) :
  Calls Tryz.prog 72 #[v,v'] w (FlP true w):=by
 obtain ⟨p,cap,rfl,hc,hat⟩:=hv
 obtain ⟨p',cap',rfl,hc',hat'⟩:=hv'
 have hl1:((a.length:Int) != a.length)=false:=by simp
 go_enter Tryz.func72,Tryz.ntmps72
 go_wp2
 go_loopw [5] (fun i wr=>∃ k:Nat,k≤a.length∧i=.int .i64 k∧Below w.heap.size w wr) (fun i _=>a.length - (intOf i).toNat)
 case atStart=>exact ⟨0,Nat.zero_le _,rfl,Below.refl _ _⟩
 case round =>
  obtain ⟨k,hk,rfl,hbel⟩:=hrel
  by_cases hlt:k<a.length
  ·obtain ⟨g,o,rfl,_,hnd⟩:=hat k hlt
   obtain ⟨g',o',rfl,_,hnd'⟩:=hat' k hlt
   obtain ⟨c0,c1,c2,c3,c4⟩:=hnd.keep hbel
   obtain ⟨d0,d1,d2,d3,d4⟩:=hnd'.keep hbel
   have HC:=Lib.hid (fun U=>eqInstr_same a[k] U)
   clear hat hat' hnd hnd'
   go_wp2_with fail
   go_still_tail 8,(by kernel_rfl)
   go_wp2_with (go_at_call 154;refine (HC.out _).mono ?_;rintro e w2 ⟨rfl,hb2⟩)
   have hs:=hbel.drew.size
   go_roundw
   case rel=>exact ⟨k+1,by omega,by go_num,hbel.drew.trans (hb2.mono (by omega))⟩
   case measure=>simp [intOf];omega
  ·go_wp2
   go_ret
   exact ⟨rfl,hbel⟩
theorem eqProgram_same (x:PgI) (v v':Value) (w:World) (h:InsAt w v x.code) (h':InsAt w v' x.code) (hn:x.code.length≤1000) :
  Calls Tryz.prog 31 #[.agg #[.int .i64 x.inputs,.int .i64 x.outputs,.int .i64 x.cells,.int .i64 x.regs,v],.agg #[.int .i64 x.inputs,.int .i64 x.outputs,.int .i64 x.cells,.int .i64 x.regs,v']] w (FlP true w):=by
 obtain ⟨a,c,rfl,_⟩:=h.slice
 obtain ⟨a',c',rfl,_⟩:=h'.slice
 have hA:∀ x y,Below w.heap.size w ((w.alloc x).alloc y):=fun x y=>(alloc_below _ _).alloc (by simp) _
 have e1:(x.inputs != x.inputs)=false:=by simp
 have e2:(x.outputs != x.outputs)=false:=by simp
 have e3:(x.cells != x.cells)=false:=by simp
 have e4:(x.regs != x.regs)=false:=by simp
 have HC:=Lib.hid (fun y z=>eqInstrS_same _ _ x.code _ (h.keep (hA y z)) (h'.keep (hA y z)) hn)
 clear h h'
 go_enter Tryz.func31,Tryz.ntmps31
 go_wp2_with fail
 refine (HC.out _ _).mono ?_
 rintro r w1 ⟨rfl,hb1⟩
 have hB1:=(hA (.cells #[.int .i64 x.inputs,.int .i64 x.outputs,.int .i64 x.cells,.int .i64 x.regs,.slice a x.code.length c] 68) (.cells #[.int .i64 x.inputs,.int .i64 x.outputs,.int .i64 x.cells,.int .i64 x.regs,.slice a' x.code.length c'] 68)).trans (hb1.mono (by simp;omega))
 go_wp2
 go_ret
 exact ⟨rfl,hB1⟩
def mkIn (k:Int):InI:=⟨k,k+1,k+1+1,k+1+1+1,k+1+1+1+1⟩
def mkIns (n:Nat) (k:Int):List InI:=(List.range n).map fun i:Nat=>mkIn (k+5 * (i:Int))
theorem mkIns_length (n:Nat) (k:Int):(mkIns n k).length=n:=by simp [mkIns]
theorem mkIns_get (n:Nat) (k:Int) (i:Nat) (h:i<(mkIns n k).length):(mkIns n k)[i]=mkIn (k+5 * i):=by simp [mkIns]
def mkdI (is:List InI) (k:Int) (i:Nat):List InI:=mkIns i k ++ is.drop i
theorem mkdI_length (is:List InI) (k:Int) (i:Nat) (h:i≤is.length):(mkdI is k i).length=is.length:=by simp [mkdI,mkIns_length];omega
theorem mkdI_set (is:List InI) (k:Int) (i:Nat) (hi:i<is.length):(mkdI is k i).set i (mkIn (k+5 * i))=mkdI is k (i+1):=by
 unfold mkdI
 rw [List.set_append_right _ _ (by rw [mkIns_length];exact Nat.le_refl _),mkIns_length,Nat.sub_self,List.drop_eq_getElem_cons hi,List.set_cons_zero]
 unfold mkIns
 rw [List.range_succ,List.map_append,List.append_assoc]
 rfl
theorem ins_set5 {w:World} {B e g n cap:Nat} {xs:List InI} (h:w.ownsRow B e 5 (.slice (some ⟨g,0,none⟩) n cap) n (xs.flatMap inCells)) (i:Nat) (hi:i<xs.length) (d:InI) :
  (((((w.setCell ⟨g,i * 5,none⟩ (.int .i64 d.op)).setCell ⟨g,i * 5+1,none⟩ (.int .i64 d.r)).setCell ⟨g,i * 5+2,none⟩ (.int .i64 d.a)).setCell ⟨g,i * 5+3,none⟩ (.int .i64 d.b)).setCell ⟨g,i * 5+4,none⟩ (.int .i64 d.value)).ownsRow B e 5 (.slice (some ⟨g,0,none⟩) n cap) n ((xs.set i d).flatMap inCells):=by
 have h1:=owns_set inCells_len h i 0 _ hi (by omega) rfl (.int .i64 d.op) ⟨d.op,xs[i].r,xs[i].a,xs[i].b,xs[i].value⟩ rfl
 have h2:=owns_set inCells_len h1 i 1 _ (by simpa using hi) (by omega) rfl (.int .i64 d.r) ⟨d.op,d.r,xs[i].a,xs[i].b,xs[i].value⟩ (by simp [inCells])
 have h3:=owns_set inCells_len h2 i 2 _ (by simpa using hi) (by omega) rfl (.int .i64 d.a) ⟨d.op,d.r,d.a,xs[i].b,xs[i].value⟩ (by simp [inCells])
 have h4:=owns_set inCells_len h3 i 3 _ (by simpa using hi) (by omega) rfl (.int .i64 d.b) ⟨d.op,d.r,d.a,d.b,xs[i].value⟩ (by simp [inCells])
 have h5:=owns_set inCells_len h4 i 4 _ (by simpa using hi) (by omega) rfl (.int .i64 d.value) d (by simp [inCells])
 simpa using h5
theorem ins_old {w:World} {B e g n cap:Nat} {xs:List InI} (h:w.ownsRow B e 5 (.slice (some ⟨g,0,none⟩) n cap) n (xs.flatMap inCells)) (i:Nat) (hi:i<xs.length) :
  ∃ x0 x1 x2 x3 x4:Int,w.cell? ⟨g,i * 5,none⟩=some (.int .i64 x0)∧w.cell? ⟨g,i * 5+1,none⟩=some (.int .i64 x1)∧w.cell? ⟨g,i * 5+2,none⟩=some (.int .i64 x2)∧w.cell? ⟨g,i * 5+3,none⟩=some (.int .i64 x3)∧w.cell? ⟨g,i * 5+4,none⟩=some (.int .i64 x4) ∧
   w.frozen? ⟨g,i * 5,none⟩=false∧w.frozen? ⟨g,i * 5+1,none⟩=false∧w.frozen? ⟨g,i * 5+2,none⟩=false∧w.frozen? ⟨g,i * 5+3,none⟩=false∧w.frozen? ⟨g,i * 5+4,none⟩=false :=
 ⟨_,_,_,_,_,owns_cell inCells_len h i 0 hi (by omega),owns_cell inCells_len h i 1 hi (by omega),owns_cell inCells_len h i 2 hi (by omega),owns_cell inCells_len h i 3 hi (by omega),owns_cell inCells_len h i 4 hi (by omega),
  h.frozenAt _,h.frozenAt _,h.frozenAt _,h.frozenAt _,h.frozenAt _⟩
theorem exc_set5 {w:World} {g o0 o1 o2 o3 o4:Nat} (u0 u1 u2 u3 u4:Value):Exc (fun j=>j=g) w (((((w.setCell ⟨g,o0,none⟩ u0).setCell ⟨g,o1,none⟩ u1).setCell ⟨g,o2,none⟩ u2).setCell ⟨g,o3,none⟩ u3).setCell ⟨g,o4,none⟩ u4) :=
 exc_set (T:=fun j=>j=g) (exc_set (T:=fun j=>j=g) (exc_set (T:=fun j=>j=g) (exc_set (T:=fun j=>j=g) (exc_set (T:=fun j=>j=g) (Exc.refl _ w) (.inr rfl) _) (.inr rfl) _) (.inr rfl) _) (.inr rfl) _) (.inr rfl) _
theorem markInstrS_any (v:Value) (is:List InI) (k:Int) (B:Nat) (w:World) (hv:IRw w B v is) (hn:is.length≤1000) (h0:0≤k) (h1:k≤1000) :
  Calls Tryz.prog 77 #[v,.int .i64 k] w fun e w'=>e=.returned (.int .i64 (k+5 * is.length))∧IRw w' B v (mkIns is.length k)∧Exc (Own1 v) w w':=by
 obtain ⟨a,cap,rfl⟩:=hv.slice
 go_enter Tryz.func77,Tryz.ntmps77
 go_wp2
 go_loopw [1,5] (fun kv iv wr=>∃ i:Nat,i≤is.length∧iv=.int .i64 i∧kv=.int .i64 (k+5 * i)∧IRw wr B (.slice a is.length cap) (mkdI is k i)∧Exc (Own1 (.slice a is.length cap)) w wr) (fun _ iv _=>is.length - (intOf iv).toNat)
 case atStart=>exact ⟨0,by omega,rfl,by simp,by simpa [mkdI,mkIns] using hv,Exc.refl _ _⟩
 case round =>
  obtain ⟨i,hi,rfl,rfl,hown,hex⟩:=hrel
  by_cases hlt:i<is.length
  ·have hll:(mkdI is k i).length=is.length:=mkdI_length is k i hi
   unfold IRw at hown
   rw [hll] at hown
   obtain ⟨g,cp,he,hgc,hgm,hgB,hgs⟩:=owns_some' hown (by omega)
   simp only [Value.slice.injEq] at he
   obtain ⟨rfl,_,rfl⟩:=he
   obtain ⟨x0,x1,x2,x3,x4,d0,d1,d2,d3,d4,q0,q1,q2,q3,q4⟩:=ins_old hown i (by rw [hll];exact hlt)
   have hnew:=ins_set5 hown i (by rw [hll];exact hlt) (mkIn (k+5 * i))
   rw [mkdI_set is k i hlt] at hnew
   have HN:=Lib.hid hnew
   have HL:=Lib.hid hll
   clear hll hnew hown hv
   go_wp2
   go_roundw
   case rel=>exact ⟨i+1,by omega,by go_num,by go_num,by (unfold IRw;rw [mkdI_length is k (i+1) hlt];exact HN.out),hex.trans ((exc_set5 _ _ _ _ _).mono (fun j hj=>by simp [Own1,Value.ownBlock,hj]))⟩
   case measure=>simp [intOf];omega
  ·have hii:i=is.length:=by omega
   subst hii
   go_wp2
   go_ret
   refine ⟨rfl,?_,hex⟩
   simpa [mkdI] using hown
theorem markProgram_any (x0 x1 x2 x3:Int) (v:Value) (is:List InI) (k:Int) (B:Nat) (w:World) (hv:IRw w B v is) (hn:is.length≤1000) (h0:0≤k) (h1:k≤1000) :
  Calls Tryz.prog 34 #[.agg #[.int .i64 x0,.int .i64 x1,.int .i64 x2,.int .i64 x3,v],.int .i64 k] w fun e w'=>e=.returned (.int .i64 (k+5 * is.length))∧IRw w' B v (mkIns is.length k)∧Exc (Own1 v) w w':=by
 obtain ⟨a,c,rfl⟩:=hv.slice
 have hA:=fun y=>alloc_below w y
 go_enter Tryz.func34,Tryz.ntmps34
 go_wp2_with fail
 refine (markInstrS_any _ is k B _ (hv.keep (hA _)) hn h0 h1).mono ?_
 rintro e w2 ⟨rfl,ho,hx⟩
 go_wp2
 go_ret
 exact ⟨rfl,ho,(Below.exc (hA _)).trans hx⟩
theorem heldInstrS_any (v:Value) (n:Nat) (k:Int) (w:World) (hv:InsAt w v (mkIns n k)) (hn:n≤1000) (h0:0≤k) (h1:k≤1000) :
  Calls Tryz.prog 78 #[v,.int .i64 k] w fun e w'=>e=.returned (.int .i64 (k+5 * n))∧Below w.heap.size w w':=by
 obtain ⟨a,cap,rfl,hc,hat⟩:=hv
 have hat':∀ i:Nat,i<n → ∃ b o,a=some ⟨b,o,none⟩∧InAt w (mkIn (k+5 * i)) b (o+i * 5):=fun i hi=>by
  obtain ⟨b,o,e,h,r⟩:=hat i (by rw [mkIns_length];exact hi)
  rw [mkIns_get] at r
  exact ⟨b,o,e,r⟩
 clear hat
 rw [mkIns_length] at hc ⊢
 go_enter Tryz.func78,Tryz.ntmps78
 go_wp2
 go_loopw [1,5] (fun kv iv wr=>∃ i:Nat,i≤n∧iv=.int .i64 i∧kv=.int .i64 (k+5 * i)∧Below w.heap.size w wr) (fun _ iv _=>n - (intOf iv).toNat)
 case atStart=>exact ⟨0,by omega,rfl,by simp,Below.refl _ _⟩
 case round =>
  obtain ⟨i,hi,rfl,rfl,hbel⟩:=hrel
  by_cases hlt:i<n
  ·obtain ⟨b,o,rfl,hnd⟩:=hat' i hlt
   obtain ⟨c0,c1,c2,c3,c4⟩:=hnd.keep hbel
   simp only [mkIn] at c0 c1 c2 c3 c4
   have e0:(k+5 * (i:Int) != k+5 * i)=false:=by simp
   have e1:(k+5 * (i:Int)+1 != k+5 * i+1)=false:=by simp
   have e2:(k+5 * (i:Int)+1+1 != k+5 * i+1+1)=false:=by simp
   have e3:(k+5 * (i:Int)+1+1+1 != k+5 * i+1+1+1)=false:=by simp
   have e4:(k+5 * (i:Int)+1+1+1+1 != k+5 * i+1+1+1+1)=false:=by simp
   have hbz:=cell_lt c0
   clear hat' hnd
   go_wp2
   go_roundw
   case rel=>exact ⟨i+1,by omega,by go_num,by go_num,hbel⟩
   case measure=>simp [intOf];omega
  ·have hii:i=n:=by omega
   subst hii
   go_wp2
   go_ret
   exact ⟨rfl,hbel⟩
theorem heldProgram_any (x0 x1 x2 x3:Int) (v:Value) (n:Nat) (k:Int) (w:World) (hv:InsAt w v (mkIns n k)) (hn:n≤1000) (h0:0≤k) (h1:k≤1000) :
  Calls Tryz.prog 35 #[.agg #[.int .i64 x0,.int .i64 x1,.int .i64 x2,.int .i64 x3,v],.int .i64 k] w fun e w'=>e=.returned (.int .i64 (k+5 * n))∧Below w.heap.size w w':=by
 obtain ⟨a,cap,rfl,_⟩:=hv.slice
 have hp:¬ (k+5 * (n:Int)<0):=by omega
 have HC:=Lib.hid (fun y=>heldInstrS_any _ n k _ (hv.keep (alloc_below w y)) hn h0 h1)
 clear hv
 generalize (mkIns n k).length=ln at *
 go_enter Tryz.func35,Tryz.ntmps35
 go_wp2_with (go_at_call 78;refine (HC.out _).mono ?_;rintro e w2 ⟨rfl,hb2⟩)
 go_ret
 exact ⟨rfl,(alloc_below _ _).trans (hb2.mono (by simp))⟩
end Go.Proofs.YtbljmfcifljkaaaGreatDoor
/-
  The laws' marks in a graph: what they leave as it was. Own work.
-/
namespace Go.Proofs.YtbljmfcifljkaaaGreatDoor
open Go.RowKit
set_option maxRecDepth 100000
set_option maxHeartbeats 2000000
structure IntW (T:Nat → Prop) (w w':World):Prop where
 exc:Exc T w w'
 blk:∀ (b:Nat) (cs:Array Value) (t:TypeId),Bk w b t cs → ∃ cs':Array Value,Bk w' b t cs'∧∀ i:Nat,(∀ z,cs[i]?=some (.int .i64 z) → ∃ z',cs'[i]?=some (.int .i64 z'))∧((∀ z,cs[i]? ≠ some (.int .i64 z)) → cs'[i]?=cs[i]?)
theorem IntW.refl (T:Nat → Prop) (w:World):IntW T w w:=⟨Exc.refl _ _,fun _ cs _ h=>⟨cs,h,fun _=>⟨fun z hz=>⟨z,hz⟩,fun _=>rfl⟩⟩⟩
theorem IntW.low {T:Nat → Prop} {w w':World} (h:Below w.heap.size w w'):IntW T w w':=⟨Below.exc h,fun _ cs _ hk=>⟨cs,hk.keep h,fun _=>⟨fun z hz=>⟨z,hz⟩,fun _=>rfl⟩⟩⟩
theorem IntW.trans {T:Nat → Prop} {w0 w1 w2:World} (h:IntW T w0 w1) (h':IntW T w1 w2):IntW T w0 w2:=by
 refine ⟨h.exc.trans h'.exc,fun b cs t hk=>?_⟩
 obtain ⟨cs1,hk1,h1⟩:=h.blk b cs t hk
 obtain ⟨cs2,hk2,h2⟩:=h'.blk b cs1 t hk1
 refine ⟨cs2,hk2,fun i=>⟨fun z hz=>?_,fun hn=>?_⟩⟩
 ·obtain ⟨z1,hz1⟩:=(h1 i).1 z hz
  exact (h2 i).1 z1 hz1
 ·have e1:=(h1 i).2 hn
  rw [(h2 i).2 (fun z hz=>hn z (by rw [← e1];exact hz)),e1]
theorem IntW.one {T:Nat → Prop} {w:World} {b:Nat} {t:TypeId} {cs:Array Value} {i:Nat} {z:Int} (hk:Bk w b t cs) (hi:cs[i]?=some (.int .i64 z)) (hT:T b) (z':Int):IntW T w (w.setCell ⟨b,i,none⟩ (.int .i64 z')):=by
 refine ⟨exc_set (Exc.refl _ _) (.inr hT) _,fun b' cs' t' hk'=>?_⟩
 by_cases hb:b'=b
 ·subst hb
  have e:some (Obj.cells cs' t')=some (.cells cs t):=hk'.symm.trans hk
  simp only [Option.some.injEq,Obj.cells.injEq,and_true] at e
  obtain ⟨rfl,rfl⟩:=e
  refine ⟨_,hk.set i _,fun j=>?_⟩
  rw [Array.getElem?_setIfInBounds]
  by_cases hj:i=j
  ·subst hj
   have hlt:i<cs'.size:=(Array.getElem?_eq_some_iff.1 hi).1
   rw [if_pos rfl,if_pos hlt]
   exact ⟨fun _ _=>⟨z',rfl⟩,fun h=>absurd hi (h z)⟩
  ·rw [if_neg hj]
   exact ⟨fun z hz=>⟨z,hz⟩,fun _=>rfl⟩
 ·exact ⟨cs',hk'.other _ _ hb,fun _=>⟨fun z hz=>⟨z,hz⟩,fun _=>rfl⟩⟩
def ShI (T:Nat → Prop) (w:World) (v:Value) (n:Nat):Prop :=
 ∃ a c,v=.slice a n c∧n≤c∧(0<n → ∃ (b:Nat) (cs:Array Value) (t:TypeId),a=some ⟨b,0,none⟩∧T b∧Bk w b t cs∧∀ i,i<n → ∃ z,cs[i]?=some (.int .i64 z))
def ShE (T:Nat → Prop) (w:World) (v:Value) (n:Nat):Prop :=
 ∃ a c,v=.slice a n c∧n≤c∧(0<n → ∃ (b:Nat) (cs:Array Value) (t:TypeId),a=some ⟨b,0,none⟩∧T b∧Bk w b t cs∧∀ i,i<n → (∃ z,cs[i * 4]?=some (.int .i64 z))∧(∃ z,cs[i * 4+1]?=some (.int .i64 z)) ∧
  ∃ (vi vo:Value) (ni no:Nat),cs[i * 4+2]?=some vi∧cs[i * 4+3]?=some vo∧ni≤1048576∧no≤1048576∧ShI T w vi ni∧ShI T w vo no)
theorem ShI.slice {T:Nat → Prop} {w:World} {v:Value} {n:Nat} (h:ShI T w v n):∃ a c,v=.slice a n c:=by obtain ⟨a,c,e,_⟩:=h;exact ⟨a,c,e⟩
theorem ShE.slice {T:Nat → Prop} {w:World} {v:Value} {n:Nat} (h:ShE T w v n):∃ a c,v=.slice a n c:=by obtain ⟨a,c,e,_⟩:=h;exact ⟨a,c,e⟩
theorem ShI.keep {T:Nat → Prop} {w w':World} {v:Value} {n:Nat} (hW:IntW T w w') (h:ShI T w v n):ShI T w' v n:=by
 obtain ⟨a,c,rfl,hc,hr⟩:=h
 refine ⟨a,c,rfl,hc,fun h0=>?_⟩
 obtain ⟨b,cs,t,ha,hT,hk,hi⟩:=hr h0
 obtain ⟨cs',hk',hs⟩:=hW.blk b cs t hk
 exact ⟨b,cs',t,ha,hT,hk',fun i hlt=>by obtain ⟨z,hz⟩:=hi i hlt;exact (hs i).1 z hz⟩
theorem ShE.keep {T:Nat → Prop} {w w':World} {v:Value} {n:Nat} (hW:IntW T w w') (h:ShE T w v n):ShE T w' v n:=by
 obtain ⟨a,c,rfl,hc,hr⟩:=h
 refine ⟨a,c,rfl,hc,fun h0=>?_⟩
 obtain ⟨b,cs,t,ha,hT,hk,hi⟩:=hr h0
 obtain ⟨cs',hk',hs⟩:=hW.blk b cs t hk
 refine ⟨b,cs',t,ha,hT,hk',fun i hlt=>?_⟩
 obtain ⟨⟨z0,h0⟩,⟨z1,h1⟩,vi,vo,ni,no,h2,h3,hni,hno,hvi,hvo⟩:=hi i hlt
 refine ⟨(hs _).1 z0 h0,(hs _).1 z1 h1,vi,vo,ni,no,?_,?_,hni,hno,hvi.keep hW,hvo.keep hW⟩
 ·rw [(hs _).2 (fun z hz=>by obtain ⟨a',c',rfl⟩:=hvi.slice;rw [h2] at hz;simp at hz),h2]
 ·rw [(hs _).2 (fun z hz=>by obtain ⟨a',c',rfl⟩:=hvo.slice;rw [h3] at hz;simp at hz),h3]
theorem shI_of {T:Nat → Prop} {w:World} {B:Nat} {v:Value} {xs:List Int} (h:Rw w B v xs) (hT:∀ j,B≤j → j<w.heap.size → T j):ShI T w v xs.length:=by
 have h':=h
 rcases h.2 with ⟨rfl,h0⟩|⟨g,cap,cur,rfl,hB,hk,hc,_⟩
 ·rw [h0]
  exact ⟨none,0,rfl,Nat.le_refl _,fun h=>absurd h (Nat.lt_irrefl _)⟩
 ·have hlt:=(Array.getElem?_eq_some_iff.1 hk).1
  refine ⟨_,_,rfl,hc,fun _=>⟨g,cur,_,rfl,hT g hB hlt,hk,fun i hi=>⟨xs[i],?_⟩⟩⟩
  rw [← (Bk.cell (w:=w) (b:=g) hk).1 i]
  exact h'.cell i hi
theorem shE_of {T:Nat → Prop} {w:World} {B:Nat} {v:Value} {L:List EdI} (h:EdsO w B v L) (hs:∀ e ∈ L,EdOk e) (hT:∀ j,B≤j → j<w.heap.size → T j):ShE T w v L.length:=by
 obtain ⟨xs,rfl,hrow,hr⟩:=h
 have h':=hrow
 rw [List.length_map]
 rcases hrow.2 with ⟨rfl,h0⟩|⟨g,cap,cur,rfl,hB,hk,hc,_⟩
 ·rw [h0]
  exact ⟨none,0,rfl,Nat.le_refl _,fun h=>absurd h (Nat.lt_irrefl _)⟩
 ·have hlt:=(Array.getElem?_eq_some_iff.1 hk).1
  refine ⟨_,_,rfl,hc,fun _=>⟨g,cur,_,rfl,hT g hB hlt,hk,fun i hi=>?_⟩⟩
  have hcell:=(Bk.cell (w:=w) (b:=g) hk).1
  have c0:=owns_cell edCells_len h' i 0 hi (by omega)
  have c1:=owns_cell edCells_len h' i 1 hi (by omega)
  have c2:=owns_cell edCells_len h' i 2 hi (by omega)
  have c3:=owns_cell edCells_len h' i 3 hi (by omega)
  rw [hcell] at c0 c1 c2 c3
  have hx:=hr xs[i] (List.getElem_mem hi)
  have hok:=hs xs[i].1 (List.mem_map.2 ⟨_,List.getElem_mem hi,rfl⟩)
  exact ⟨⟨_,c0⟩,⟨_,c1⟩,_,_,_,_,c2,c3,hok.inn,hok.out,shI_of hx.1 hT,shI_of hx.2 hT⟩
theorem markIntS_any (T:Nat → Prop) (v:Value) (n:Nat) (k:Int) (w:World) (h:ShI T w v n) (hn:n≤1048576) (h0:0≤k) (h1:k≤4000000000000000) :
  Calls Tryz.prog 76 #[v,.int .i64 k] w fun e w'=>e=.returned (.int .i64 (k+n))∧IntW T w w':=by
 have hsh:=h
 obtain ⟨a,c,rfl,hc,-⟩:=h
 go_enter Tryz.func76,Tryz.ntmps76
 go_wp2
 go_loopw [1,5] (fun kv iv wr=>∃ i:Nat,i≤n∧iv=.int .i64 i∧kv=.int .i64 (k+i)∧IntW T w wr) (fun _ iv _=>n - (intOf iv).toNat)
 case atStart=>exact ⟨0,by omega,rfl,by simp,IntW.refl _ _⟩
 case round =>
  obtain ⟨i,hi,rfl,rfl,hW⟩:=hrel
  by_cases hlt:i<n
  ·obtain ⟨a',c',he,-,hr⟩:=hsh.keep hW
   simp only [Value.slice.injEq,true_and] at he
   obtain ⟨rfl,rfl⟩:=he
   obtain ⟨b,cs,t,rfl,hT,hk,hcs⟩:=hr (by omega)
   obtain ⟨z,hz⟩:=hcs i hlt
   have hnew:=hW.trans (IntW.one hk hz hT (k+i))
   obtain ⟨f0,f1,f2⟩:=hk.cell
   have c0:=f0 i
   rw [hz] at c0
   have q0:=f1 i
   clear hsh hr hcs f0 f1 hW hk hz
   go_wp2
   go_roundw
   case rel=>exact ⟨i+1,by omega,by go_num,by go_num,hnew⟩
   case measure=>simp [intOf];omega
  ·have hii:i=n:=by omega
   subst hii
   go_wp2
   go_ret
   exact ⟨rfl,hW⟩
theorem markEdgeS_any (T:Nat → Prop) (v:Value) (n:Nat) (k:Int) (w:World) (h:ShE T w v n) (hn:n≤1048576) (h0:0≤k) (h1:k≤1000) :
  Calls Tryz.prog 75 #[v,.int .i64 k] w fun e w'=>∃ k':Int,e=.returned (.int .i64 k')∧0≤k'∧k'≤k+n * 2097154∧IntW T w w':=by
 have hsh:=h
 obtain ⟨a,c,rfl,hc,-⟩:=h
 go_enter Tryz.func75,Tryz.ntmps75
 go_wp2
 go_loopw [1,5] (fun kv iv wr=>∃ (i:Nat) (k':Int),i≤n∧iv=.int .i64 i∧kv=.int .i64 k'∧0≤k'∧k'≤k+i * 2097154∧IntW T w wr) (fun _ iv _=>n - (intOf iv).toNat)
 case atStart=>exact ⟨0,k,by omega,rfl,rfl,by omega,by omega,IntW.refl _ _⟩
 case round =>
  obtain ⟨i,k',hi,rfl,rfl,hk0,hk1,hW⟩:=hrel
  by_cases hlt:i<n
  ·obtain ⟨a',c',he,-,hr⟩:=hsh.keep hW
   simp only [Value.slice.injEq,true_and] at he
   obtain ⟨rfl,rfl⟩:=he
   obtain ⟨b,cs,t,rfl,hT,hk,hcs⟩:=hr (by omega)
   obtain ⟨⟨z0,e0⟩,⟨z1,e1⟩,vi,vo,ni,no,e2,e3,hni,hno,hvi,hvo⟩:=hcs i hlt
   have s1:=IntW.one hk e0 hT k'
   have k1:=hk.set (i * 4) (.int .i64 k')
   have e1':(cs.setIfInBounds (i * 4) (.int .i64 k'))[i * 4+1]?=some (.int .i64 z1):=by rw [Array.getElem?_setIfInBounds,if_neg (by omega)];exact e1
   have s2:=s1.trans (IntW.one k1 e1' hT (k'+1))
   have k2:=k1.set (i * 4+1) (.int .i64 (k'+1))
   obtain ⟨f0,f1,f2⟩:=hk.cell
   have c0:=f0 (i * 4)
   have c1:=f0 (i * 4+1)
   have c2:=f0 (i * 4+2)
   have c3:=f0 (i * 4+3)
   rw [e0] at c0
   rw [e1] at c1
   rw [e2] at c2
   rw [e3] at c3
   have q0:=f1 (i * 4)
   have q1:=f1 (i * 4+1)
   have HS:=Lib.hid hsh
   have HI:=Lib.hid (hvi.keep s2)
   have HO:=Lib.hid (hvo.keep s2)
   have HK:=Lib.hid k2
   have e3':((cs.setIfInBounds (i * 4) (.int .i64 k')).setIfInBounds (i * 4+1) (.int .i64 (k'+1)))[i * 4+3]?=some vo:=by
    rw [Array.getElem?_setIfInBounds,if_neg (by omega),Array.getElem?_setIfInBounds,if_neg (by omega)];exact e3
   have HE:=Lib.hid e3'
   have HW:=Lib.hid (hW.trans s2)
   obtain ⟨ai,ci,rfl⟩:=hvi.slice
   obtain ⟨ao,co,rfl⟩:=hvo.slice
   clear hsh hr hcs f0 f1 hW hk e0 e1 e2 e3 s1 k1 e1' s2 k2 e3' hvi hvo
   go_wp2_with fail
   refine (markIntS_any T _ ni _ _ HI.out hni (by omega) (by omega)).mono ?_
   rintro e w2 ⟨rfl,h2⟩
   obtain ⟨cs2,kk2,hs2⟩:=h2.blk _ _ _ HK.out
   have d3:=(hs2 (i * 4+3)).2 (fun z hz=>by rw [HE.out] at hz;simp at hz)
   rw [HE.out,← kk2.cell.1] at d3
   have dz:=kk2.lt
   have HO2:=Lib.hid (HO.out.keep h2)
   have HW2:=Lib.hid (HW.out.trans h2)
   clear HO HW HK HE HI hs2 kk2 h2 c0 c1 c2 c3 q0 q1 f2
   go_wp2_with fail
   refine (markIntS_any T _ no _ _ HO2.out hno (by omega) (by omega)).mono ?_
   rintro e w3 ⟨rfl,h3⟩
   go_wp2
   go_roundw
   case rel=>exact ⟨i+1,_,by omega,by go_num,rfl,by omega,by omega,HW2.out.trans h3⟩
   case measure=>simp [intOf];omega
  ·have hii:i=n:=by omega
   subst hii
   go_wp2
   go_ret
   exact ⟨k',rfl,hk0,hk1,hW⟩
theorem markGraph_any (T:Nat → Prop) (x:Int) (ve vi vo:Value) (ne ni no:Nat) (k:Int) (w:World) (he:ShE T w ve ne) (hi:ShI T w vi ni) (ho:ShI T w vo no) (hne:ne≤1048576) (hni:ni≤1048576) (hno:no≤1048576) (h0:0≤k) (h1:k≤1000) (hT:∀ j,T j → j<w.heap.size) :
  Calls Tryz.prog 33 #[.agg #[.int .i64 x,ve,vi,vo],.int .i64 k] w fun e w'=>∃ k':Int,e=.returned (.int .i64 k')∧0≤k'∧IntW T w w':=by
 obtain ⟨ae,ce,rfl⟩:=he.slice
 obtain ⟨ai,ci,rfl⟩:=hi.slice
 obtain ⟨ao,co,rfl⟩:=ho.slice
 have hA:IntW T w (w.alloc (.cells #[.int .i64 x,.slice ae ne ce,.slice ai ni ci,.slice ao no co] 53)):=IntW.low (alloc_below _ _)
 have kG:=Bk.new w 53 #[.int .i64 x,.slice ae ne ce,.slice ai ni ci,.slice ao no co]
 have nT:¬ T w.heap.size:=fun h=>Nat.lt_irrefl _ (hT _ h)
 have HE:=Lib.hid (he.keep hA)
 have HI:=Lib.hid (hi.keep hA)
 have HO:=Lib.hid (ho.keep hA)
 have HT:=Lib.hid nT
 have HA:=Lib.hid hA
 clear he hi ho hA nT hT
 go_enter Tryz.func33,Tryz.ntmps33
 go_wp2_with fail
 generalize (w.alloc (.cells #[.int .i64 x,.slice ae ne ce,.slice ai ni ci,.slice ao no co] 53))=u0 at *
 refine (markEdgeS_any T _ ne _ _ HE.out hne (by omega) (by omega)).mono ?_
 rintro e w1 ⟨k1,rfl,p0,p1,h2⟩
 replace kG:=kG.exc h2.exc HT.out
 have HI1:=Lib.hid (HI.out.keep h2)
 have HO1:=Lib.hid (HO.out.keep h2)
 have HA1:=Lib.hid (HA.out.trans h2)
 clear HE HI HO HA h2
 obtain ⟨g0,g1,g2⟩:=kG.cell
 have c2:=g0 2
 simp only [List.getElem?_toArray,List.getElem?_cons_zero,List.getElem?_cons_succ] at c2
 clear g0 g1
 go_wp2_with fail
 refine (markIntS_any T _ ni _ _ HI1.out hni (by omega) (by omega)).mono ?_
 rintro e w2 ⟨rfl,h3⟩
 replace kG:=kG.exc h3.exc HT.out
 have HO2:=Lib.hid (HO1.out.keep h3)
 have HA2:=Lib.hid (HA1.out.trans h3)
 clear HI1 HO1 HA1 h3 c2 g2
 obtain ⟨g0,g1,g2⟩:=kG.cell
 have c3:=g0 3
 simp only [List.getElem?_toArray,List.getElem?_cons_zero,List.getElem?_cons_succ] at c3
 clear g0 g1
 go_wp2_with fail
 refine (markIntS_any T _ no _ _ HO2.out hno (by omega) (by omega)).mono ?_
 rintro e w3 ⟨rfl,h4⟩
 go_wp2
 go_ret
 exact ⟨_,rfl,by omega,HA2.out.trans h4⟩
end Go.Proofs.YtbljmfcifljkaaaGreatDoor
