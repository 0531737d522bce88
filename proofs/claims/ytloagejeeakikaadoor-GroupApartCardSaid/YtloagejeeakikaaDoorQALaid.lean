/- What the library's tables hold, and that a call leaves them so. -/
import Derived.Test.YtloagejeeakikaaDoorShelf
import Derived.Shelf.Unicode.DecodeSlow
namespace Go.Proofs.YtloagejeeakikaaDoor.QA
open Go.RowKit Go.Shelf
structure Laid (w : World) : Prop where
  u : Lib.Utf8Tabs 0 1 w
  p : Lib.TabIs Tryd.prog w "internal/strconv.uint64pow10" .u64 Lib.pow10Tab
theorem TabIs_under {P : Program} {n : String} {g : Nat} {k : IntKind} {zs : List Int} {w w' : World} (hg : P.globalNamed n = some g) (h : Lib.TabIs P w n k zs) (hb : Below w.heap.size w w') : Lib.TabIs P w' n k zs := by
  unfold Lib.TabIs World.var? at h ⊢
  rw [hg] at h ⊢
  simp only [Option.bind_some] at h ⊢
  by_cases hlt : g < w.heap.size
  · rw [hb.block g hlt]; exact h
  · rw [Array.getElem?_eq_none (by omega)] at h; cases h
theorem Laid.below {w w' : World} (h : Laid w) (hb : Below w.heap.size w w') : Laid w' := ⟨Utf8Tabs_below h.u hb, TabIs_under (g := 3) (by kernel_rfl) h.p hb⟩
end Go.Proofs.YtloagejeeakikaaDoor.QA
