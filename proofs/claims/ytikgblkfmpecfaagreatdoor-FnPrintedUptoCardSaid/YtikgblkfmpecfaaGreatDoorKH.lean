/-
  The kinds of entries: what the table holds, and what an entry's kind is. Own work.
-/
import Derived.Test.YtikgblkfmpecfaaGreatDoorKG
import Derived.Laws.EntriesVeiled
set_option linter.all false
set_option maxRecDepth 100000
set_option maxHeartbeats 8000000
namespace Go.Proofs.YtikgblkfmpecfaaGreatDoor
open Go.RowKit
end Go.Proofs.YtikgblkfmpecfaaGreatDoor
/-
  An entry's kind, for the second kind. Own work.
-/
namespace Go.Proofs.YtikgblkfmpecfaaGreatDoor
open Go.RowKit
end Go.Proofs.YtikgblkfmpecfaaGreatDoor
/-
  An entry's kind, for the third kind. Own work.
-/
namespace Go.Proofs.YtikgblkfmpecfaaGreatDoor
open Go.RowKit
end Go.Proofs.YtikgblkfmpecfaaGreatDoor
/-
  The program's ApplyEntry. Own work.
-/
namespace Go.Proofs.YtikgblkfmpecfaaGreatDoor
open Go.RowKit
theorem LibPost.low {o:Option (List Df)} {w w1:World} {e:Ending} {w':World} (h:LibPost o w1 e w') (hb:Below w.heap.size w w1):LibPost o w e w':=by
 obtain ⟨v',h1,h2,h3⟩:=h
 exact ⟨v',h1,h2.mono hb.size,hb.trans (h3.mono hb.size)⟩
end Go.Proofs.YtikgblkfmpecfaaGreatDoor
