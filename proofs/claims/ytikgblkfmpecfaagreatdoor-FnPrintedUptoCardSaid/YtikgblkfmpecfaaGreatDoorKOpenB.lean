/-
  A drawn row of bytes, opened. Own work.
-/
import Derived.Test.YtikgblkfmpecfaaGreatDoorKOB
import Derived.Test.YtikgblkfmpecfaaGreatDoorKNA
import Derived.WideShapes
set_option linter.all false
set_option maxRecDepth 100000
set_option maxHeartbeats 8000000
namespace Go.Proofs.YtikgblkfmpecfaaGreatDoor
open Go.ChangeShapes Go.WideShapes Go.Deep
theorem okWide_low {P:Program} {W:World} {r:Reach} {base:Nat} {t e:TypeId} {v:Value} (ht:P.underlying t=some (.slice e)) (h:Value.okWide P W r base t v):∀ k,v.ownBlock=some k → k<W.heap.size:=by
 intro k hk
 simp only [Value.okWide,ht,Cell.okWide] at h
 match v,hk with
 | .slice (some a) len cap,hk =>
  have hk':a.block=k:=by simpa [Value.ownBlock] using hk
  simp only [Cell.ok,ht] at h
  obtain ⟨_,_,_,_,row,cells,hs,_⟩:=h
  rw [hk'] at hs
  rcases Nat.lt_or_ge k W.heap.size with h'|h'
  ·exact h'
  ·simp [World.shape?,Array.getElem?_eq_none h'] at hs
section
variable {H:Type} {enc:TypeId × Value → H} {w:World} {base:Nat} {spare:Nat → Bool} {held:Bool}
theorem open_bytes {fuel:Nat} {cs:List Value} {x:DataW H × List MemPlace} (h:DataW.trod enc Tryz.prog w base spare held fuel 22 cs=some x) :
  ∃ (v:Value) (bs:List UInt8),cs=[v]∧BytesAt w v bs∧bs.length+1≤Rows.uptoBulk x.1:=by
 rcases open_slice1 Tryz.underlying22 (by kernel_rfl) h with ⟨rfl,rfl⟩|⟨a,len,cap,m,n,V,D,Pl,rfl,hb,hl,hm,hmm,rfl,hx⟩
 ·exact ⟨_,[],rfl,⟨none,0,rfl,Nat.le_refl _,fun i hi=>absurd hi (Nat.not_lt_zero _)⟩,by simp [Rows.uptoBulk]⟩
 have hlm:len≤m:=by rw [hmm];split <;> omega
 have each:∀ i,i<len → ∃ u:UInt8,∃ b o,a=⟨b,o,none⟩∧w.cell? ⟨b,o+i,none⟩=some (.int .u8 (u.toNat:Int)):=by
  intro i hi
  obtain ⟨h1,h2⟩:=hx i (by omega)
  obtain ⟨k,e0,_,hw⟩:=DataW.trod_int Tryz.underlying5 h2
  obtain ⟨k0,k1⟩:=bounds_u8 hw
  have e1:V i=.int .u8 k:=by simpa using e0
  rw [e1] at h1
  obtain ⟨b,o,sp⟩:=a
  obtain rfl:sp=none:=by
   obtain ⟨z1,_⟩:=hx 0 (by omega)
   simpa [Addr.add] using World.cell?_spot z1
  rw [add_plain] at h1
  obtain ⟨j,rfl⟩:=Int.eq_ofNat_of_zero_le k0
  refine ⟨UInt8.ofNat j,b,o,rfl,?_⟩
  rw [h1,UInt8.toNat_ofNat_of_lt' (by have:UInt8.size=256:=rfl;omega)]
 obtain ⟨f,hf⟩:=choose_lt each
 have hln:=bulks.slice_le (H:=H) ((List.range len).map D) ((List.range (m - len)).map fun j=>D (len+j))
 refine ⟨_,(List.range len).map f,rfl,⟨some a,cap,by simp,by simpa using hl,fun i hi=>?_⟩,?_⟩
 ·simp at hi
  obtain ⟨b,o,rfl,hd⟩:=hf i hi
  exact ⟨b,o,rfl,by simpa using hi,by simpa using hd⟩
 ·simp only [List.length_map,List.length_range] at hln ⊢
  omega
end
end Go.Proofs.YtikgblkfmpecfaaGreatDoor
