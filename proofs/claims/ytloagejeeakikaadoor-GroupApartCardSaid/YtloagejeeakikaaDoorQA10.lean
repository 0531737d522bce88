-- Written by a program of this session (px.py) out of the translation's print. Not trusted: Lean checks it.
import Derived.Test.YtloagejeeakikaaDoorQA0
import Derived.Lib.AppendIntMem
namespace Go.Proofs.YtloagejeeakikaaDoor.QA
open Go.RowKit Go.Proofs.YtloagejeeakikaaDoorW.PrintWords Go.Proofs.YtloagejeeakikaaDoorW.PrintLast Go.Proofs.YtloagejeeakikaaDoorW.PrintMore
attribute [local go_sem] max2_int min2_int max_two min_two max_three min_three max_four min_four   -- for this text's walks alone
set_option linter.unusedVariables false
set_option linter.unusedSimpArgs false

/-! ### num_Print: function 75 -/
open Go.Lib
def num_Print.f (n : Int) : Option ByteArray := if n < 0 then some (⟨#[]⟩ : ByteArray) else if n ≤ 9223372036854775807 then some ⟨(Lib.itoa n).toArray⟩ else none
theorem num_Print.calls (a0 : Int) (r : ByteArray) (w : World) (HLD : Laid w) (h : num_Print.f a0 = some r) :
    Calls Tryd.prog 75 #[.int .i64 a0] w fun e w' => e = .returned (.string r) ∧ Below w.heap.size w w' := by
  unfold num_Print.f at h
  by_cases c : a0 < 0
  · rw [if_pos c] at h
    obtain rfl := Option.some.inj h
    have cb : decide (a0 < 0) = true := decide_eq_true c
    go_enter Tryd.func75, Tryd.ntmps75
    go_wp2
    go_ret
    exact ⟨rfl, Below.refl _ _⟩
  · rw [if_neg c] at h
    by_cases c2 : a0 ≤ 9223372036854775807
    · rw [if_pos c2] at h
      obtain rfl := Option.some.inj h
      have cb : decide (a0 < 0) = false := decide_eq_false c
      have HI := Aside0.mk (Tryd.strconv_Itoa a0 (by omega) c2 w HLD.p)
      go_enter Tryd.func75, Tryd.ntmps75
      go_wp2_with (fail)
      refine HI.out.mono ?_
      rintro e w' ⟨rfl, k, os, rfl⟩
      go_wp2_with (fail)
      go_ret
      exact ⟨rfl, below_grow _ w (Nat.le_refl _) k os⟩
    · rw [if_neg c2] at h; cases h

end Go.Proofs.YtloagejeeakikaaDoor.QA
