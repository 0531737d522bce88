/- Text of this claim: plain Lean over the printed functions (Part). -/
import Derived.Test.YtloagejeeakikaaDoorQAFirst
namespace Go.Proofs.YtloagejeeakikaaDoor.QA
open Go.RowKit Go.Proofs.YtloagejeeakikaaDoorW.PrintWords Go.Proofs.YtloagejeeakikaaDoorW.PrintLast Go.Proofs.YtloagejeeakikaaDoorW.PrintMore
set_option linter.unusedVariables false
set_option linter.unusedSimpArgs false
theorem decL_width (l : List Int) : (decL l).2 ≤ max 1 l.length := by
  unfold decL
  repeat' split
  all_goals simp
  all_goals omega
theorem decode_within (s : ByteArray) (i : Nat) (h : i < s.size) : i + (Utf8.decode s i).2 ≤ s.size := by
  have h1 := decode_decL s i h
  have h2 := decL_width ((bytesOf s).drop i)
  rw [← h1] at h2
  rw [List.length_drop, bytesOf_length] at h2
  simp only at h2
  omega
theorem first_decode (k : Nat) (s : ByteArray) (i : Nat) (h : i < s.size) :
    oublietteref02_First.f (k + 6) (s.extract i s.size) = some (outL (((Utf8.decode s i).1 : Int), (Utf8.decode s i).2)) := by
  rw [First_eq, decode_decL s i h, bytesOf_extract, List.take_of_length_le (by rw [bytesOf_length]; exact Nat.le_refl _)]
  have hc : (bytesOf s).drop i = (bytesOf s).getD i 0 :: (bytesOf s).drop (i + 1) := by
    rw [List.getD_eq_getElem?_getD, List.getElem?_eq_getElem (by rw [bytesOf_length]; omega)]
    simp
  rw [hc, firstL_cons]
theorem runes_step (s : ByteArray) (hs : s.size ≤ 1000000) : ∀ (b pos k : Nat) (acc : List Int), pos ≤ s.size → s.size - pos ≤ b → acc.length ≤ pos →
    ∃ res, oublietteref02_Runes.l0 (k + b + 7) s acc pos = some res ∧ ((res.2.2 = 0 ∧ res.1 = acc ++ runesG s b pos) ∨ (res.2.2 = 4 ∧ (65533 : Int) ∈ runesG s b pos))
  | 0, pos, k, acc, h1, h2, h3 => by
    refine ⟨(acc, 0, 0), ?_, Or.inl ⟨rfl, by simp [runesG]⟩⟩
    rw [show k + 0 + 7 = (k + 6) + 1 from rfl]
    rw [oublietteref02_Runes.l0.eq_2]
    rw [if_neg (by omega)]
  | b + 1, pos, k, acc, h1, h2, h3 => by
    rw [show k + (b + 1) + 7 = (k + b + 7) + 1 from by omega]
    rw [oublietteref02_Runes.l0.eq_2]
    by_cases hp : pos < s.size
    · rw [if_pos (by omega), if_pos (by omega), if_pos (by omega), show (pos : Int).toNat = pos from rfl, show k + b + 7 = (k + b + 1) + 6 from by omega, first_decode _ s pos hp]
      simp only [Option.bind_some]
      have hw := width_pos s pos hp
      have hi := decode_within s pos hp
      by_cases hd : (((Utf8.decode s pos).1 : Int), (Utf8.decode s pos).2) = ((65533 : Int), 1)
      · rw [hd, outL_bad]
        refine ⟨([], pos, 4), rfl, Or.inr ⟨rfl, ?_⟩⟩
        unfold runesG
        rw [if_pos hp]
        injection hd with hd1 hd2
        rw [hd1]
        simp
      · rw [outL_ok _ _ (fun h => hd (by rw [h.1, h.2]))]
        simp only []
        rw [if_neg (by omega), if_pos (by omega)]
        have e : wrap64 ((pos : Int) + ((Utf8.decode s pos).2 : Int)) = ((pos + (Utf8.decode s pos).2 : Nat) : Int) := by unfold wrap64; omega
        rw [e, show (k + b + 1) + 6 = k + b + 7 from by omega]
        obtain ⟨res, hr, ho⟩ := runes_step s hs b (pos + (Utf8.decode s pos).2) k (acc ++ [((Utf8.decode s pos).1 : Int)]) (by omega) (by omega) (by simp; omega)
        refine ⟨res, hr, ?_⟩
        unfold runesG
        rw [if_pos hp]
        rcases ho with ⟨a, b⟩ | ⟨a, b⟩
        · exact Or.inl ⟨a, by rw [b]; simp⟩
        · exact Or.inr ⟨a, by simp [b]⟩
    · rw [if_neg (by omega)]
      refine ⟨(acc, 0, 0), rfl, Or.inl ⟨rfl, ?_⟩⟩
      rw [runesG_end s _ _ hp]
      simp
theorem ref02_Upper_eq (r : Int) : oublietteref02_Upper.f r = some (upperB r) := by
  unfold oublietteref02_Upper.f upperB
  repeat' split
  all_goals (rw [Option.some.injEq, Bool.eq_iff_iff]; simp; omega)
theorem ref02_Letter_eq (r : Int) : oublietteref02_Letter.f r = some (letterB r) := by
  unfold oublietteref02_Letter.f
  simp only [ref02_Upper_eq, Option.bind_some]
  unfold upperB letterB
  repeat' split
  all_goals (rw [Option.some.injEq, Bool.eq_iff_iff]; simp at *; omega)
theorem ref03_small_eq (r : Int) : oublietteref03_small.f r = some (smallB r) := by
  unfold oublietteref03_small.f
  rw [ref02_Letter_eq, ref02_Upper_eq]
  simp only [Option.bind_some]
  unfold upperB letterB smallB
  repeat' split
  all_goals (rw [Option.some.injEq, Bool.eq_iff_iff]; simp at *; omega)
theorem part_loop (l : List Int) (hl : l.length ≤ 8) : ∀ (b i k : Nat), i + b = l.length → oublietteref03_Part.l0 (k + b + 1) l i = some ((l.drop i).all smallB)
  | 0, i, k, h => by
    rw [oublietteref03_Part.l0.eq_2]
    rw [if_neg (by omega), List.drop_of_length_le (by omega)]
    rfl
  | b + 1, i, k, h => by
    rw [show k + (b + 1) + 1 = (k + b + 1) + 1 from by omega]
    rw [oublietteref03_Part.l0.eq_2]
    have hd : l.drop i = l.getD i 0 :: l.drop (i + 1) := by
      rw [List.getD_eq_getElem?_getD, List.getElem?_eq_getElem (by omega)]
      simp
    have hr : rd l (i : Int) = l.getD i 0 := by simp [rd, List.getD_eq_getElem?_getD]
    rw [if_pos (by omega), if_pos (by omega), ref03_small_eq, hr, hd, List.all_cons]
    simp only [Option.bind_some]
    by_cases c : smallB (l.getD i 0) = true
    · rw [if_pos c, show wrap64 ((i : Int) + 1) = ((i + 1 : Nat) : Int) from by unfold wrap64; omega, part_loop l hl b (i + 1) k (by omega), c]
      simp
    · rw [if_neg c]
      have c' := Bool.eq_false_iff.2 c
      rw [c']
      rfl
theorem part_ref (s : ByteArray) (hs : s.size ≤ 1000000) (k : Nat) :
    oublietteref03_Part.f (k + s.size + 20) s = name_Part.f s := by
  unfold name_Part.f oublietteref03_Part.f oublietteref02_Runes.f
  rw [if_pos (by omega)]
  obtain ⟨res, hr, ho⟩ := runes_step s hs s.size 0 (k + 13) [] (by omega) (by omega) (by simp)
  rw [show k + s.size + 20 = k + 13 + s.size + 7 from by omega]
  have hr' : oublietteref02_Runes.l0 (k + 13 + s.size + 7) s [] 0 = some res := hr
  rw [hr']
  simp only [Option.bind_some]
  rcases ho with ⟨a, b⟩ | ⟨a, b⟩
  · have b' : res.1 = runesOf s := b
    rw [if_pos a, b']
    clear b b'
    generalize runesOf s = l
    by_cases h1 : (l.length : Int) < 1
    · rw [if_pos h1, show k + 13 + s.size + 7 = (k + s.size + 19) + 1 from by omega]
      rw [oublietteref03_Part.j0.eq_2]
      rw [if_pos rfl]
      congr 1
      have : decide (1 ≤ l.length) = false := decide_eq_false (by omega)
      rw [this]; simp
    · rw [if_neg h1, show k + 13 + s.size + 7 = (k + s.size + 19) + 1 from by omega]
      rw [oublietteref03_Part.j0.eq_2]
      by_cases h8 : (l.length : Int) > 8
      · rw [if_pos (decide_eq_true h8)]
        congr 1
        have : decide (l.length ≤ 8) = false := decide_eq_false (by omega)
        rw [this]; simp
      · rw [if_neg (by simpa using h8), show k + s.size + 19 = (k + s.size + 18 - l.length) + l.length + 1 from by omega]
        have := part_loop l (by omega) l.length 0 (k + s.size + 18 - l.length) (by omega)
        rw [show ((0 : Nat) : Int) = 0 from rfl] at this
        rw [this, List.drop_zero]
        congr 1
        have e1 : decide (1 ≤ l.length) = true := decide_eq_true (by omega)
        have e2 : decide (l.length ≤ 8) = true := decide_eq_true (by omega)
        rw [e1, e2]; simp
  · rw [if_neg (by omega), show k + 13 + s.size + 7 = (k + s.size + 19) + 1 from by omega]
    rw [oublietteref03_Part.j0.eq_2]
    rw [if_pos rfl]
    congr 1
    have : (runesOf s).all smallB = false := by
      rw [List.all_eq_false]
      exact ⟨65533, b, by decide⟩
    rw [this]; rfl
end Go.Proofs.YtloagejeeakikaaDoor.QA
