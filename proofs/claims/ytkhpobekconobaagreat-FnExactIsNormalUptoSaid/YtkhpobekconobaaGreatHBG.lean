import Derived.Test.YtkhpobekconobaaGreatHAU
import Derived.Test.YtkhpobekconobaaGreatHBA
set_option linter.all false
set_option maxRecDepth 100000
set_option maxHeartbeats 0
namespace Go.Proofs.YtkhpobekconobaaGreat
open Go.RowKit
theorem af5 {w:World} {a:Option Addr} {n c:Nat} {zs:List Int} (h:aU w (.slice a n c) zs) (k:Nat) (hk:k<=zs.length):aU w (.slice a k c) (zs.take k):=by
 have h1:=h;rw[<-Yr k zs]at h1;have h2:=ade h1;rwa [ZJ,YR hk]at h2
theorem ata {w:World} {a:Option Addr} {n c:Nat} {zs:List Int} (h:aU w (.slice a n c) zs):zs.length<=c/\n=zs.length:=by
 obtain⟨a',c',e,hc,_⟩:=h;simp only[Zx]at e;obtain⟨_,h1,h2⟩:=e;exact⟨by omega,h1⟩
end Go.Proofs.YtkhpobekconobaaGreat
