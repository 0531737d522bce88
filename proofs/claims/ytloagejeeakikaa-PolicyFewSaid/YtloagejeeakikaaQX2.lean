-- Written by a program of this session (px.py) out of the translation's print. Not trusted: Lean checks it.
import Derived.Test.YtloagejeeakikaaQX0
namespace Go.Proofs.Ytloagejeeakikaa.QX
open Go.RowKit Go.Proofs.YtloagejeeakikaaW.PrintWords Go.Proofs.YtloagejeeakikaaW.PrintLast Go.Proofs.YtloagejeeakikaaW.PrintMore
attribute [local go_sem] max2_int min2_int max_two min_two max_three min_three max_four min_four   -- for this text's walks alone
set_option linter.unusedVariables false
set_option linter.unusedSimpArgs false

/-! ### policy_Right: function 14 -/
def policy_Right_1.f (a0 a1 : Int) : Option Bool := some (decide (a0 ≥ 1) && decide (a0 ≤ a1))
set_option maxHeartbeats 800000 in
theorem policy_Right_1.calls (a0 a1 : Int) (r : Bool) (w : World) (h : policy_Right_1.f a0 a1 = some r) :
    Calls Try.prog 20 #[.int .i64 a0, .int .i64 a1] w fun e w' => e = .returned (.bool r) ∧ w = w' := by
  unfold policy_Right_1.f at h
  obtain rfl := Option.some.inj h
  by_cases h1 : 1 ≤ a0
  · go_enter Try.func20, Try.ntmps20
    go_wp2
    go_ret
    exact ⟨by simp, rfl⟩
  · have h1' : decide (1 ≤ a0) = false := by simpa using h1
    go_enter Try.func20, Try.ntmps20
    go_wp2
    go_ret
    exact ⟨by simp [h1], rfl⟩

def policy_Right.f (a0_0 a0_1 : Int) : Option Bool := some ((decide (a0_0 ≥ 1) && decide (a0_0 ≤ 3)) && (decide (a0_1 ≥ 1) && decide (a0_1 ≤ 8)))
set_option maxHeartbeats 800000 in
theorem policy_Right.calls (a0_0 a0_1 : Int) (r : Bool) (w : World) (h : policy_Right.f a0_0 a0_1 = some r) :
    Calls Try.prog 14 #[.agg #[.int .i64 a0_0, .int .i64 a0_1]] w fun e w' => e = .returned (.bool r) ∧ Below w.heap.size w w' := by
  unfold policy_Right.f at h
  obtain rfl := Option.some.inj h
  by_cases hA : 1 ≤ a0_0 ∧ a0_0 ≤ 3
  · have h1 : policy_Right_1.f a0_0 3 = some true := by simp [policy_Right_1.f, hA]
    have H1 := Aside0.mk h1
    have h2 : policy_Right_1.f a0_1 8 = some (decide (a0_1 ≥ 1) && decide (a0_1 ≤ 8)) := rfl
    have H2 := Aside0.mk h2
    clear h1 h2
    have HA := Aside0.mk hA
    clear hA
    go_enter Try.func14, Try.ntmps14
    go_wp2_with (fail)
    refine (policy_Right_1.calls _ _ _ _ H1.out).mono ?_
    rintro e w' ⟨rfl, rfl⟩
    go_wp2_with (fail)
    refine (policy_Right_1.calls _ _ _ _ H2.out).mono ?_
    rintro e w' ⟨rfl, rfl⟩
    go_wp2_with (fail)
    go_ret
    exact ⟨by simp [HA.out], (Below.refl _ _).alloc (Nat.le_refl _) _⟩
  · have h1 : policy_Right_1.f a0_0 3 = some false := by unfold policy_Right_1.f; congr 1; simp; omega
    have H1 := Aside0.mk h1
    clear h1
    have HA := Aside0.mk hA
    clear hA
    go_enter Try.func14, Try.ntmps14
    go_wp2_with (fail)
    refine (policy_Right_1.calls _ _ _ _ H1.out).mono ?_
    rintro e w' ⟨rfl, rfl⟩
    go_wp2_with (fail)
    go_ret
    exact ⟨by have := HA.out; congr 2; simp; omega, (Below.refl _ _).alloc (Nat.le_refl _) _⟩

end Go.Proofs.Ytloagejeeakikaa.QX
