/-
  A world for FnPrinted's witness: the settled one, the listed variables holding what their initialisers lay, the fault's sentinel and the handle of error among them. Own work.
-/
import Derived.Test.YtikgblkfmpecfaaGreatDoorRows
import Derived.WalkKit
import Derived.ProofKit
import Derived.Lib.LaidIn
import Derived.KernelRfl
import Derived.LaidHandle
import Derived.Test.YtikgblkfmpecfaaGreatDoorWOB
import Derived.Test.YtikgblkfmpecfaaGreatDoorWNA
import Derived.WideShapes
set_option linter.all false
set_option maxRecDepth 100000
set_option maxHeartbeats 8000000
namespace Go.Proofs.YtikgblkfmpecfaaGreatDoor
open Go.ChangeShapes Go.WideShapes Go.ChangeAt Go.RowKit
def Vu:List Int:=[0,1,28,2,29,14,24,3,30,22,20,15,25,17,4,8,31,27,13,23,21,19,16,7,26,12,18,6,11,5,10,9]
def Vw:List Int:=[0,1,56,2,57,49,28,3,61,58,42,50,38,29,17,4,62,47,59,36,45,43,51,22,53,39,33,30,24,18,12,5,63,55,48,27,60,41,37,16,46,35,44,21,52,32,23,11,54,26,40,15,34,20,31,10,25,14,19,9,13,8,7,6]
def Vx:List Int:=[1,10,100,1000,10000,100000,1000000,10000000,100000000,1000000000,10000000000,100000000000,1000000000000,10000000000000,100000000000000,1000000000000000,10000000000000000,100000000000000000,1000000000000000000,10000000000000000000]
def Vs:ByteArray:=⟨#[118,97,108,117,101,32,111,117,116,32,111,102,32,114,97,110,103,101]⟩
def Vt:ByteArray:=⟨#[105,110,118,97,108,105,100,32,115,121,110,116,97,120]⟩
open Go.Deep
theorem Jp {P:Program} {W:World} {r:Reach} {base:Nat} {t e:TypeId} {v:Value} (ht:P.underlying t=some (.slice e)) (h:Value.okWide P W r base t v):∀k,v.ownBlock=some k->k<W.heap.size:=by
 intro k hk;simp only[Value.okWide,ht,Cell.okWide]at h;match v,hk with
 | .slice (some a) len cap,hk =>
  have hk':a.block=k:=by simpa[Value.ownBlock]using hk
  simp only[Cell.ok,ht]at h
  obtain⟨_,_,_,_,row,cells,hs,_⟩:=h
  rw[hk']at hs
  rcases Nat.lt_or_ge k W.heap.size with h'|h'
  ·exact h'
  ·simp[World.shape?,Array.getElem?_eq_none h']at hs
section
variable {H:Type} {enc:TypeId × Value -> H} {w:World} {base:Nat} {spare:Nat -> Bool} {held:Bool}
theorem open_bytes {fuel:Nat} {cs:List Value} {x:DataW H×List MemPlace} (h:DataW.trod enc Tryz.prog w base spare held fuel 22 cs=some x) :
  ∃(v:Value) (bs:List UInt8),cs=[v]/\BytesAt w v bs/\bs.length+1<=Rows.uptoBulk x.1:=by
 rcases open_slice1 Tryz.underlying22 (by kernel_rfl) h with⟨rfl,rfl⟩|⟨a,len,cap,m,n,V,D,Pl,rfl,hb,hl,hm,hmm,rfl,hx⟩
 ·exact⟨_,[],rfl,⟨none,0,rfl,Nat.le_refl _,λi hi=>absurd hi (Nat.not_lt_zero _)⟩,by simp[Rows.uptoBulk]⟩
 have hlm:len<=m:=by rw[hmm];split<;>omega
 have each:∀i,i<len->∃u:UInt8,∃b o,a=⟨b,o,none⟩/\w.cell? ⟨b,o+i,none⟩=some (.int .u8 (u.toNat:Int)):=by
  intro i hi;obtain⟨h1,h2⟩:=hx i (by omega);obtain⟨k,e0,_,hw⟩:=DataW.trod_int Tryz.underlying5 h2;obtain⟨k0,k1⟩:=bounds_u8 hw;have e1:V i=.int .u8 k:=by simpa using e0
  rw[e1]at h1;obtain⟨b,o,sp⟩:=a;obtain rfl:sp=none:=by
   obtain⟨z1,_⟩:=hx 0 (by omega);simpa[Addr.add]using World.cell?_spot z1
  rw[add_plain]at h1;obtain⟨j,rfl⟩:=Int.eq_ofNat_of_zero_le k0;refine⟨UInt8.ofNat j,b,o,rfl,?_⟩;rw[h1,UInt8.toNat_ofNat_of_lt' (by have:UInt8.size=256:=rfl;omega)]
 obtain⟨f,hf⟩:=choose_lt each;have hln:=bulks.slice_le (H:=H) ((List.range len).map D) ((List.range (m-len)).map λj=>D (len+j));refine⟨_,(List.range len).map f,rfl,⟨some a,cap,by simp,by simpa using hl,λi hi=>?_⟩,?_⟩
 ·simp at hi;obtain⟨b,o,rfl,hd⟩:=hf i hi;exact⟨b,o,rfl,by simpa using hi,by simpa using hd⟩
 ·simp only[List.length_map,List.length_range]at hln ⊢;omega
end
end Go.Proofs.YtikgblkfmpecfaaGreatDoor
