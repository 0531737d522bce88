/- Text of this claim: runes of parts, points and pieces. -/
import Derived.Test.YtloagejeeakikaaDoorQAPart
namespace Go.Proofs.YtloagejeeakikaaDoor.QA
open Go.RowKit Go.Proofs.YtloagejeeakikaaDoorW.PrintWords Go.Proofs.YtloagejeeakikaaDoorW.PrintLast Go.Proofs.YtloagejeeakikaaDoorW.PrintMore
set_option linter.unusedVariables false
set_option linter.unusedSimpArgs false
/-- The runes of bytes, as a list. -/
def runesL : Nat → List Int → List Int
  | 0, _ => []
  | n + 1, l => if l = [] then [] else (decL l).1 :: runesL n (l.drop (decL l).2)
theorem runesG_list (s : ByteArray) : ∀ (n pos : Nat), pos ≤ s.size → runesG s n pos = runesL n ((bytesOf s).drop pos)
  | 0, _, _ => rfl
  | n + 1, pos, h => by
    unfold runesG runesL
    by_cases hp : pos < s.size
    · have hne : (bytesOf s).drop pos ≠ [] := by
        intro e
        have := congrArg List.length e
        rw [List.length_drop, bytesOf_length] at this
        simp at this
        omega
      rw [if_pos hp, if_neg hne, ← decode_decL s pos hp, List.drop_drop]
      simp only []
      rw [runesG_list s n _ (decode_within s pos hp)]
    · have he : (bytesOf s).drop pos = [] := List.drop_of_length_le (by rw [bytesOf_length]; omega)
      rw [if_neg hp, if_pos he]
theorem runesOf_list (s : ByteArray) : runesOf s = runesL (bytesOf s).length (bytesOf s) := by
  unfold runesOf
  rw [runesG_list s s.size 0 (Nat.zero_le _), bytesOf_length, List.drop_zero]
theorem decL_pos (l : List Int) : 1 ≤ (decL l).2 := by
  unfold decL
  repeat' split
  all_goals simp
/-- A rune that is read is read alike where more stands behind. -/
theorem decL_more (b0 : Int) (r t : List Int) (h : (decL (b0 :: r)).1 ≠ 65533) : decL (b0 :: r ++ t) = decL (b0 :: r) := by
  rw [List.cons_append]
  by_cases c1 : b0 < 128
  · simp only [decL]; rw [if_pos c1, if_pos c1]
  by_cases c2 : 192 ≤ b0 ∧ b0 < 224
  · match r, h with
    | [], h => exact absurd (by simp only [decL]; rw [if_neg c1, if_pos c2]) h
    | b1 :: r, _ => simp only [decL, List.cons_append]; rw [if_neg c1, if_pos c2, if_neg c1, if_pos c2]
  by_cases c3 : 224 ≤ b0 ∧ b0 < 240
  · match r, h with
    | [], h => exact absurd (by simp only [decL]; rw [if_neg c1, if_neg c2, if_pos c3]) h
    | [b1], h => exact absurd (by simp only [decL]; rw [if_neg c1, if_neg c2, if_pos c3]) h
    | b1 :: b2 :: r, _ => simp only [decL, List.cons_append]; rw [if_neg c1, if_neg c2, if_pos c3, if_neg c1, if_neg c2, if_pos c3]
  by_cases c4 : 240 ≤ b0 ∧ b0 < 248
  · match r, h with
    | [], h => exact absurd (by simp only [decL]; rw [if_neg c1, if_neg c2, if_neg c3, if_pos c4]) h
    | [b1], h => exact absurd (by simp only [decL]; rw [if_neg c1, if_neg c2, if_neg c3, if_pos c4]) h
    | [b1, b2], h => exact absurd (by simp only [decL]; rw [if_neg c1, if_neg c2, if_neg c3, if_pos c4]) h
    | b1 :: b2 :: b3 :: r, _ => simp only [decL, List.cons_append]
  · exact absurd (by simp only [decL]; rw [if_neg c1, if_neg c2, if_neg c3, if_neg c4]) h
/-- What a rune that is read takes: of a point, only the point's own rune. -/
theorem decL_point (b0 : Int) (r : List Int) (h : (decL (b0 :: r)).1 ≠ 65533) (hm : (46 : Int) ∈ (b0 :: r).take (decL (b0 :: r)).2) : (decL (b0 :: r)).1 = 46 := by
  by_cases c1 : b0 < 128
  · have e : decL (b0 :: r) = (b0, 1) := by simp only [decL]; rw [if_pos c1]
    rw [e] at hm ⊢
    simp at hm
    exact hm.symm
  by_cases c2 : 192 ≤ b0 ∧ b0 < 224
  · match r, h, hm with
    | [], h, _ => exact absurd (by simp only [decL]; rw [if_neg c1, if_pos c2]) h
    | b1 :: r, h, hm =>
      have e : decL (b0 :: b1 :: r) = if 128 ≤ b1 ∧ b1 ≤ 191 ∧ 128 ≤ (b0 - 192) * 64 + (b1 - 128) then ((b0 - 192) * 64 + (b1 - 128), 2) else (65533, 1) := by simp only [decL]; rw [if_neg c1, if_pos c2]
      rw [e] at hm h ⊢
      split at hm
      · simp at hm; omega
      · rename_i hc; rw [if_neg hc] at h; exact absurd rfl h
  by_cases c3 : 224 ≤ b0 ∧ b0 < 240
  · match r, h, hm with
    | [], h, _ => exact absurd (by simp only [decL]; rw [if_neg c1, if_neg c2, if_pos c3]) h
    | [b1], h, _ => exact absurd (by simp only [decL]; rw [if_neg c1, if_neg c2, if_pos c3]) h
    | b1 :: b2 :: r, h, hm =>
      have e := decL3 b0 b1 b2 r c3.1 c3.2
      rw [e] at hm h ⊢
      split at hm
      · simp at hm; omega
      · rename_i hc; rw [if_neg hc] at h; exact absurd rfl h
  by_cases c4 : 240 ≤ b0 ∧ b0 < 248
  · match r, h, hm with
    | [], h, _ => exact absurd (by simp only [decL]; rw [if_neg c1, if_neg c2, if_neg c3, if_pos c4]) h
    | [b1], h, _ => exact absurd (by simp only [decL]; rw [if_neg c1, if_neg c2, if_neg c3, if_pos c4]) h
    | [b1, b2], h, _ => exact absurd (by simp only [decL]; rw [if_neg c1, if_neg c2, if_neg c3, if_pos c4]) h
    | b1 :: b2 :: b3 :: r, h, hm =>
      have e := decL4 b0 b1 b2 b3 r c4.1
      rw [e] at hm h ⊢
      split at hm
      · simp at hm; omega
      · rename_i hc; rw [if_neg hc] at h; exact absurd rfl h
  · exact absurd (by simp only [decL]; rw [if_neg c1, if_neg c2, if_neg c3, if_neg c4]) h
theorem runesL_nil (n : Nat) : runesL n [] = [] := by cases n <;> simp [runesL]
/-- More fuel than bytes changes nothing. -/
theorem runesL_fuel : ∀ (n m : Nat) (l : List Int), l.length ≤ n → l.length ≤ m → runesL n l = runesL m l
  | 0, m, l, h, _ => by
    have : l = [] := List.eq_nil_of_length_eq_zero (by omega)
    rw [this, runesL_nil, runesL_nil]
  | n + 1, 0, l, _, h => by
    have : l = [] := List.eq_nil_of_length_eq_zero (by omega)
    rw [this, runesL_nil, runesL_nil]
  | n + 1, m + 1, l, h1, h2 => by
    unfold runesL
    split
    · rfl
    · have := decL_pos l
      rw [runesL_fuel n m _ (by rw [List.length_drop]; omega) (by rw [List.length_drop]; omega)]
/-- Of runes that are read, one behind the other: those of bytes, and those of what stands behind. -/
theorem runesL_app : ∀ (n : Nat) (l t : List Int), (∀ c ∈ runesL n l, c ≠ 65533) → l.length ≤ n → ∀ m, l.length + t.length ≤ m → runesL m (l ++ t) = runesL n l ++ runesL t.length t
  | 0, l, t, _, h, m, hm => by
    have : l = [] := List.eq_nil_of_length_eq_zero (by omega)
    subst this
    rw [runesL_nil, List.nil_append, List.nil_append]
    exact runesL_fuel _ _ _ (by simp at hm; omega) (Nat.le_refl _)
  | n + 1, [], t, _, h, m, hm => by
    rw [runesL_nil, List.nil_append, List.nil_append]
    exact runesL_fuel _ _ _ (by simp at hm; omega) (Nat.le_refl _)
  | n + 1, b0 :: r, t, hv, h, m, hm => by
    have e : runesL (n + 1) (b0 :: r) = (decL (b0 :: r)).1 :: runesL n ((b0 :: r).drop (decL (b0 :: r)).2) := by simp [runesL]
    have hw := decL_width (b0 :: r)
    have hp := decL_pos (b0 :: r)
    rw [e] at hv ⊢
    have hd := decL_more b0 r t (hv _ (by simp))
    match m, hm with
    | 0, hm => simp at hm
    | m + 1, hm =>
      have e2 : runesL (m + 1) (b0 :: r ++ t) = (decL (b0 :: r ++ t)).1 :: runesL m ((b0 :: r ++ t).drop (decL (b0 :: r ++ t)).2) := by simp [runesL]
      rw [e2, hd, List.drop_append_of_le_length (by simp at hw ⊢; omega), List.cons_append]
      congr 1
      refine runesL_app n _ t (fun c hc => hv c (by simp [hc])) (by rw [List.length_drop]; simp at h; simp; omega) m ?_
      rw [List.length_drop]
      simp at hm ⊢
      omega
theorem runesL_point : ∀ (n : Nat) (l : List Int), (∀ c ∈ runesL n l, c ≠ 65533 ∧ c ≠ 46) → l.length ≤ n → (46 : Int) ∉ l
  | 0, l, _, h => by
    have : l = [] := List.eq_nil_of_length_eq_zero (by omega)
    simp [this]
  | n + 1, [], _, _ => by simp
  | n + 1, b0 :: r, hv, h => by
    have e : runesL (n + 1) (b0 :: r) = (decL (b0 :: r)).1 :: runesL n ((b0 :: r).drop (decL (b0 :: r)).2) := by simp [runesL]
    have hp := decL_pos (b0 :: r)
    rw [e] at hv
    have h1 := hv _ (List.mem_cons_self ..)
    have h2 := runesL_point n ((b0 :: r).drop (decL (b0 :: r)).2) (fun c hc => hv c (by simp [hc])) (by rw [List.length_drop]; simp at h; simp; omega)
    intro hm
    rw [← List.take_append_drop (decL (b0 :: r)).2 (b0 :: r), List.mem_append] at hm
    rcases hm with hm | hm
    · exact h1.2 (decL_point b0 r h1.1 hm)
    · exact h2 hm
theorem small_not (c : Int) (h : smallB c = true) : c ≠ 65533 ∧ c ≠ 46 := by
  unfold smallB at h
  simp only [decide_eq_true_eq] at h
  omega
/-- A part has no point in it. -/
theorem part_point (p : ByteArray) (h : partB p = true) : (46 : Int) ∉ bytesOf p := by
  unfold partB at h
  simp only [Bool.and_eq_true] at h
  have h1 := List.all_eq_true.1 h.1
  rw [runesOf_list] at h1
  exact runesL_point _ _ (fun c hc => small_not c (h1 c hc)) (Nat.le_refl _)
end Go.Proofs.YtloagejeeakikaaDoor.QA
