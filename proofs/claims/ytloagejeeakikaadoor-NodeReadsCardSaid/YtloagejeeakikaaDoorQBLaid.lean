/- What the library's tables hold, and that a call leaves them so. -/
import Derived.Test.YtloagejeeakikaaDoorShelf
import Derived.Shelf.Unicode.DecodeSlow
namespace Go.Proofs.YtloagejeeakikaaDoor.QB
open Go.RowKit Go.Shelf
structure Laid (w : World) : Prop where
  u : Lib.Utf8Tabs 0 1 w
theorem Laid.below {w w' : World} (h : Laid w) (hb : Below w.heap.size w w') : Laid w' := ⟨Utf8Tabs_below h.u hb⟩
end Go.Proofs.YtloagejeeakikaaDoor.QB
