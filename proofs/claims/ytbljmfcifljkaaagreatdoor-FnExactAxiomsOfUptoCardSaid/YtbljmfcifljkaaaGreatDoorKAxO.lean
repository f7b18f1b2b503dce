/-
  The program's AxiomsOf. Own work.
-/
import Derived.Test.YtbljmfcifljkaaaGreatDoorKAI
import Derived.Test.YtbljmfcifljkaaaGreatDoorKFL
import Derived.Test.YtbljmfcifljkaaaGreatDoorKTM
set_option linter.all false
set_option maxRecDepth 100000
set_option maxHeartbeats 8000000
namespace Go.Proofs.YtbljmfcifljkaaaGreatDoor
open Go.RowKit
set_option maxRecDepth 100000
set_option maxHeartbeats 4000000
theorem two_el (p k l:Int):(primeB p&&[k,l].all (elB p))=twoB p k l:=by
 unfold twoB;congr 1;simp only[List.all_cons,List.all_nil,Bool.and_true,elB,inB];have h:∀x:Int,decide (x<p)=decide (x≤p-1):=fun x=>by
  by_cases hx:x<p
  ·rw[decide_eq_true hx,decide_eq_true (by omega:x≤p-1)]
  ·rw[decide_eq_false hx,decide_eq_false (by omega:¬x≤p-1)]
 rw[h,h]
theorem twoB_in {p k l:Int} (h:twoB p k l=true):(2≤p∧p≤97)∧(0≤k∧k<p)∧(0≤l∧l<p):=by
 unfold twoB at h;simp only[Bool.and_eq_true,inB,decide_eq_true_eq]at h;obtain⟨h1,h2,h3⟩:=h;have:=primeB_le h1;exact⟨by omega,by omega,by omega⟩
theorem ruRow_nil (w:World) (B:Nat):RuRow w B (.slice none 0 0) []:=⟨World.ownsRow_nil _ _ _ _,by simp,List.Pairwise.nil⟩
def AxOP (p k l:Int) (w:World) (e:Ending) (w':World):Prop:=∃v xs,e=.returned (.tuple #[v,.bool (twoB p k l)])∧xs.map Prod.fst=(if twoB p k l then axL p k l else[])∧RuRow w' w.heap.size v xs∧Below w.heap.size w w'
theorem axiomsOf_any (p k l:Int) (w:World) (ht:PrimeTab w):Calls Tryz.prog 9 #[.int .i64 p,.int .i64 k,.int .i64 l] w (AxOP p k l w):=by
 have hB:Below w.heap.size w (w.alloc (.cells #[.int .i64 k,.int .i64 l] 3)):=alloc_below _ _;have hI:IntsAt (w.alloc (.cells #[.int .i64 k,.int .i64 l] 3)) (.slice (some ⟨w.heap.size,0,none⟩) 2 2) [k,l]:=by
  refine⟨_,_,rfl,Nat.le_refl _,fun i hi=>⟨_,_,rfl,hi,?_⟩⟩;match i,hi with
  | 0,_=>simp
  | 1,_=>simp
 have hE:=areElements_any p (.slice (some ⟨w.heap.size,0,none⟩) 2 2) [k,l] _ (ht.keep hB) hI (by simp);rw[two_el]at hE;have HE:=Lib.hid hE;clear hE hI ht;cases hb:twoB p k l with
 | false =>
  have HB:=Lib.hid hb
  clear hb
  go_enter Tryz.func9,Tryz.ntmps9
  go_wp2_with (go_at_call 40;refine HE.out.mono ?_;rintro e w2⟨rfl,hb2⟩;rw[HB.out])
  go_ret2
  exact⟨_,[],by rw[HB.out];rfl,by rw[HB.out];rfl,ruRow_nil _ _,hB.trans (hb2.mono (by simp))⟩
 | true =>
  obtain⟨h1,h2,h3⟩:=twoB_in hb
  have hA:=fun w1:World=>axioms_any p k l w1 h1 h2 h3
  have HA:=Lib.hid hA
  have HB:=Lib.hid hb
  clear hb hA h1 h2 h3
  go_enter Tryz.func9,Tryz.ntmps9
  go_wp2_with (first
   |(go_at_call 40;refine HE.out.mono ?_;rintro e w2⟨rfl,hb2⟩;rw[HB.out])
   |(go_at_call 41;refine(HA.out _).mono ?_;rintro e w3⟨v3,xs,rfl,hxs,hr,hb3⟩;obtain⟨a3,c3,rfl⟩:=hr.shape))
  go_ret2
  have hs2:=(hB.trans (hb2.mono (by simp))).size
  exact⟨_,xs,by rw[HB.out];rfl,by rw[HB.out,if_pos rfl];exact hxs,hr.mono hs2,(hB.trans (hb2.mono (by simp))).trans (hb3.mono hs2)⟩
end Go.Proofs.YtbljmfcifljkaaaGreatDoor
