-- Written by a program of this session (px.py) out of the translation's print. Not trusted: Lean checks it.
import Derived.Test.YtloagejeeakikaaQX0
import Derived.Test.YtloagejeeakikaaQX8
import Derived.Test.YtloagejeeakikaaMem
namespace Go.Proofs.Ytloagejeeakikaa.QX
open Go.RowKit Go.Proofs.YtloagejeeakikaaW.PrintWords Go.Proofs.YtloagejeeakikaaW.PrintLast Go.Proofs.YtloagejeeakikaaW.PrintMore
attribute [local go_sem] max2_int min2_int max_two min_two max_three min_three max_four min_four   -- for this text's walks alone
set_option linter.unusedVariables false
set_option linter.unusedSimpArgs false

/-! ### wire_Writer_Byte: function 28 -/
open Go.Proofs.Ytloagejeeakikaa.Mem
theorem Writer_Byte (S : Nat → Prop) (g : Nat) (bs : List Int) (c : Int) (w : World) (hW : IsW S g bs w) (hl : bs.length + 1 ≤ 140737488355328) :
    Calls Try.prog 28 #[.pointer (some ⟨g, 0, none⟩), .int .u8 c] w (WPost S g (bs ++ [c]) w) := by
  have HW := Aside0.mk hW
  have HL := Aside0.mk hl
  clear hW hl
  go_enter Try.func28, Try.ntmps28
  go_wp2_with (fail)
  refine (Writer_put S g bs [c] _ 1 1 _ (HW.out.step (below_alloc (Below.refl _ _) _)) (reads_lit w 5 [c] (by simp)) HL.out).mono ?_
  intro e w' hp
  have HP := Aside0.mk (hp.pre (below_alloc (Below.refl _ _) _))
  obtain ⟨rfl, -⟩ := hp
  go_wp2_with (fail)
  go_end0
  exact HP.out

end Go.Proofs.Ytloagejeeakikaa.QX
