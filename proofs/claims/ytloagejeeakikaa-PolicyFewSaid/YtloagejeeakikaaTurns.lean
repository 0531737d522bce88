/- Text of this claim: the plain law of PolicyTurns. -/
import Derived.Test.YtloagejeeakikaaPart
namespace Go.Proofs.Ytloagejeeakikaa.QX
open Go.RowKit Go.Proofs.YtloagejeeakikaaW.PrintWords Go.Proofs.YtloagejeeakikaaW.PrintLast Go.Proofs.YtloagejeeakikaaW.PrintMore
set_option linter.unusedVariables false
set_option linter.unusedSimpArgs false
theorem within_eq (a b c : Int) : record_within.f a b c = some (decide (b ≤ a) && decide (a ≤ c)) := by
  unfold record_within.f
  by_cases h : a ≥ b
  · rw [if_pos h]; congr 1; rw [decide_eq_true (show b ≤ a from h)]; simp
  · rw [if_neg h]; congr 1; rw [decide_eq_false (show ¬ b ≤ a from h)]; simp
/-- A header is right, said once for both. -/
theorem header_same (k : Nat) (a b c : Int) (d : ByteArray) (hs : d.size ≤ 1000000) :
    oublietteref22_RightHeader.f (k + d.size + 20) a b c d = record_Header_right.f a b c d := by
  unfold oublietteref22_RightHeader.f record_Header_right.f
  rw [part_ref d hs, within_eq, within_eq]
  simp only [Option.bind_some]
  by_cases h1 : b ≥ 0
  · rw [if_pos h1, decide_eq_true (show (0 : Int) ≤ b from h1), Bool.true_and]
    by_cases h2 : b ≤ a
    · rw [if_pos h2, if_pos (decide_eq_true h2)]
      by_cases h3 : a ≤ 1073741824
      · rw [if_pos h3, if_pos h3]
        by_cases h4 : c ≥ 1
        · rw [if_pos h4, decide_eq_true (show (1 : Int) ≤ c from h4), Bool.true_and]
          by_cases h5 : c ≤ 4
          · rw [if_pos h5, if_pos (decide_eq_true h5)]
          · rw [if_neg h5, if_neg (by simpa using h5)]
        · rw [if_neg h4, decide_eq_false (show ¬ (1 : Int) ≤ c from h4), Bool.false_and]; rfl
      · rw [if_neg h3, if_neg h3]
    · rw [if_neg h2, if_neg (by simpa using h2)]
  · rw [if_neg h1, decide_eq_false (show ¬ (0 : Int) ≤ b from h1), Bool.false_and]; rfl
theorem header_some (a b c : Int) (d : ByteArray) (hs : d.size ≤ 1000000) : ∃ r, record_Header_right.f a b c d = some r := by
  obtain ⟨n, hn⟩ : ∃ n, name_Part.f d = some n := by unfold name_Part.f; rw [if_pos (by omega)]; exact ⟨_, rfl⟩
  unfold record_Header_right.f
  rw [within_eq, within_eq, hn]
  simp only [Option.bind_some]
  repeat' split
  all_goals exact ⟨_, rfl⟩
theorem policy_right_eq (a b c : Int) (d : ByteArray) (hs : d.size ≤ 65535) : policy_right.f a b c d = record_Header_right.f a b c d := by
  obtain ⟨r, hr⟩ := header_some a b c d (by omega)
  unfold policy_right.f record_PutHeader.f
  rw [hr]
  cases r <;> simp [hs]
theorem right36_same (a b : Int) : oublietteref36_Right.f a b = policy_Right.f a b := by
  unfold oublietteref36_Right.f policy_Right.f
  by_cases h1 : a ≥ 1
  · rw [if_pos h1, decide_eq_true (show a ≥ 1 from h1)]
    by_cases h2 : a ≤ 3
    · rw [if_pos h2, decide_eq_true h2]
      by_cases h3 : b ≥ 1
      · rw [if_pos h3, decide_eq_true (show b ≥ 1 from h3)]; simp
      · rw [if_neg h3, decide_eq_false (show ¬ b ≥ 1 from h3)]; simp
    · rw [if_neg h2, decide_eq_false h2]; simp
  · rw [if_neg h1, decide_eq_false (show ¬ a ≥ 1 from h1)]; simp
theorem oldest36_same (a b c : Int) : oublietteref36_Oldest.f a b c = policy_Oldest.f a b c := by
  unfold oublietteref36_Oldest.f policy_Oldest.f
  rw [right36_same]
theorem oldest_some (a b c : Int) : ∃ r, policy_Oldest.f a b c = some r := by
  unfold policy_Oldest.f policy_Right.f
  simp only [Option.bind_some]
  repeat' split
  all_goals exact ⟨_, rfl⟩
theorem turnJ_same (k : Nat) (x : Bool) (a b c d e : Int) (s : ByteArray) : oublietteref36_Turn.j0 k x a b c d e s = policy_Turn.j0 k x a b c d e s := by
  cases k with
  | zero => rfl
  | succ k =>
    rw [oublietteref36_Turn.j0.eq_2, policy_Turn.j0.eq_2, oldest36_same]
theorem turn_same (k : Nat) (a b c d e : Int) (s : ByteArray) (hs : s.size ≤ 65535) :
    oublietteref36_Turn.f (k + s.size + 20) a b c d e s = policy_Turn.f (k + s.size + 20) a b c d e s := by
  unfold oublietteref36_Turn.f policy_Turn.f
  rw [right36_same, header_same k c d e s (by omega), policy_right_eq c d e s hs]
  simp only [turnJ_same]
theorem turnJ_some (k : Nat) (x : Bool) (a b c d e : Int) (s : ByteArray) : ∃ r, policy_Turn.j0 (k + 1) x a b c d e s = some r := by
  rw [policy_Turn.j0.eq_2]
  obtain ⟨o, ho⟩ := oldest_some a b (wrap64 (c + 1))
  rw [ho]
  simp only [Option.bind_some]
  repeat' split
  all_goals exact ⟨_, rfl⟩
theorem turn_some (k : Nat) (a b c d e : Int) (s : ByteArray) (hs : s.size ≤ 65535) : ∃ r, policy_Turn.f (k + 1) a b c d e s = some r := by
  unfold policy_Turn.f
  rw [policy_right_eq c d e s hs]
  obtain ⟨r, hr⟩ := header_some c d e s (by omega)
  rw [hr]
  unfold policy_Right.f
  simp only [Option.bind_some]
  split
  · exact turnJ_some ..
  · exact turnJ_some ..
theorem alive36 : oubliettelaw36_alive.f = some true := by
  decide +kernel
theorem policyTurns_pure (a b c d e : Int) (s : ByteArray) : ∃ k, oubliettelaw36_PolicyTurns.f k a b c d e s = some true := by
  refine ⟨0 + s.size + 20, ?_⟩
  unfold oubliettelaw36_PolicyTurns.f
  by_cases hs : (s.size : Int) > 100
  · rw [if_pos hs, alive36]; rfl
  · rw [if_neg hs, turn_same 0 a b c d e s (by omega)]
    obtain ⟨r, hr⟩ := turn_some (0 + s.size + 19) a b c d e s (by omega)
    rw [show 0 + s.size + 20 = (0 + s.size + 19) + 1 from rfl, hr, alive36]
    simp
end Go.Proofs.Ytloagejeeakikaa.QX
