/- Words of this claim: cut by a program (prune.py) to what the claim uses. -/
import Derived.Test.YtdcknajlioalgaaDoorCbS
import Derived.Test.YtdcknajlioalgaaDoorCbC
namespace Go.Proofs.YtdcknajlioalgaaDoor.QD
open Go.RowKit Go.Proofs.YtdcknajlioalgaaDoorW.PrintWords Go.Proofs.YtdcknajlioalgaaDoorW.PrintLast Go.Proofs.YtdcknajlioalgaaDoorW.PrintMore
attribute [local go_sem] max2_int min2_int max_two min_two max_three min_three max_four min_four   -- for this text's walks alone
set_option linter.unusedVariables false
set_option linter.unusedSimpArgs false

/-! ### oublietteref39_field: function 38 -/
def oublietteref39_field.f (k : Nat) (a0_0 : Int) (a0_1 : ByteArray) (a0_2 : ByteArray) (a0_3 : Int) (a0_4 : Int) (a0_5 : Int) (a0_6 : Int) (l0_7 : List Int) (a1 : Int) : Option (ByteArray) := if a1 = 103 then ((oublietteref03_Part.f k a0_1).bind fun t190 => (if t190 = true then (some a0_1) else (some (⟨#[]⟩ : ByteArray)))) else (if a1 = 105 then ((oublietteref03_Part.f k a0_2).bind fun t191 => (if t191 = true then (some a0_2) else (some (⟨#[]⟩ : ByteArray)))) else (if a1 = 101 then ((oublietteref39_count.f k a0_3).bind fun t192 => (some t192)) else (if a1 = 115 then ((oublietteref39_count.f k a0_4).bind fun t193 => (some t193)) else (if a1 = 110 then ((oublietteref39_count.f k a0_5).bind fun t194 => (some t194)) else (if a1 = 118 then ((oublietteref39_said.f a0_6).bind fun t195 => (some t195)) else (if a1 = 120 then (if (l0_7.length : Int) = 32 then ((oublietteref04_Print.f l0_7).bind fun t196 => (some t196)) else (some (⟨#[]⟩ : ByteArray))) else (some (⟨#[]⟩ : ByteArray))))))))
theorem oublietteref39_field.mono : ∀ a0 a1 a2 a3 a4 a5 a6 a7 a8 k, LeO (oublietteref39_field.f k a0 a1 a2 a3 a4 a5 a6 a7 a8) (oublietteref39_field.f (k + 1) a0 a1 a2 a3 a4 a5 a6 a7 a8) := by
  intro a0 a1 a2 a3 a4 a5 a6 a7 a8 k
  unfold oublietteref39_field.f
  repeat' first
      | (with_reducible exact oublietteref03_Part.mono _ _)
      | (with_reducible exact oublietteref39_count.mono _ _)
      | (with_reducible exact LeO.refl _)
      | (with_reducible exact LeO.none _)
      | (with_reducible refine LeO.ite ?_ ?_)
      | (with_reducible refine LeO.bind ?_ (fun _ => ?_))
      | exact oublietteref03_Part.mono _ _
      | exact oublietteref39_count.mono _ _
      | exact LeO.none _
      | refine LeO.ite ?_ ?_
      | refine LeO.bind ?_ (fun _ => ?_)
/-! ### oublietteref01_Parse: function 73 -/
mutual
def oublietteref01_Parse.j0 : Nat → ByteArray → Int → Bool → Option (Int × Int)
  | 0, _, _, _ => none
  | k + 1, x0, x1, x25 => if x25 = true then (some (0, 3)) else (oublietteref01_Parse.l0 k x0 x1 0 0)
def oublietteref01_Parse.l0 : Nat → ByteArray → Int → Int → Int → Option (Int × Int)
  | 0, _, _, _, _ => none
  | k + 1, x0, x1, x6, x7 => if x7 < (x0.size : Int) then (if 0 ≤ x7 then (if (bt x0 x7) < 48 then (some (0, 3)) else (if (bt x0 x7) > 57 then (some (0, 3)) else (oublietteref01_Parse.l0 k x0 x1 (wrap64 ((wrap64 (x6 * 10)) + (((bt x0 x7) - 48) % 256))) (wrap64 (x7 + 1))))) else (none)) else (if x6 > x1 then (some (0, 2)) else (some (x6, 0)))
end
def oublietteref01_Parse.f (k : Nat) (a0 : ByteArray) (a1 : Int) : Option (Int × Int) := if (a0.size : Int) < 1 then (oublietteref01_Parse.j0 k a0 a1 true) else (if (a0.size : Int) > 18 then (oublietteref01_Parse.j0 k a0 a1 true) else (if (a0.size : Int) > 1 then (if 0 < (a0.size : Int) then (oublietteref01_Parse.j0 k a0 a1 ((bt a0 0) == 48)) else (none)) else (oublietteref01_Parse.j0 k a0 a1 false)))
theorem oublietteref01_Parse.mono_l : ∀ k, (∀ y0 y1 y2, LeO (oublietteref01_Parse.j0 k y0 y1 y2) (oublietteref01_Parse.j0 (k + 1) y0 y1 y2)) ∧ (∀ y0 y1 y2 y3, LeO (oublietteref01_Parse.l0 k y0 y1 y2 y3) (oublietteref01_Parse.l0 (k + 1) y0 y1 y2 y3))
  | 0 => ⟨fun _ _ _ r h => by simp [oublietteref01_Parse.j0] at h, fun _ _ _ _ r h => by simp [oublietteref01_Parse.l0] at h⟩
  | k + 1 => by
    obtain ⟨ih0, ih1⟩ := oublietteref01_Parse.mono_l k
    refine ⟨?_, ?_⟩
    · intro y0 y1 y2
      unfold oublietteref01_Parse.j0
      repeat' first
      | (with_reducible exact ih0 _ _ _)
      | (with_reducible exact ih1 _ _ _ _)
      | (with_reducible exact LeO.refl _)
      | (with_reducible exact LeO.none _)
      | (with_reducible refine LeO.ite ?_ ?_)
      | (with_reducible refine LeO.bind ?_ (fun _ => ?_))
      | exact ih0 _ _ _
      | exact ih1 _ _ _ _
      | exact LeO.none _
      | refine LeO.ite ?_ ?_
      | refine LeO.bind ?_ (fun _ => ?_)
    · intro y0 y1 y2 y3
      unfold oublietteref01_Parse.l0
      repeat' first
      | (with_reducible exact ih0 _ _ _)
      | (with_reducible exact ih1 _ _ _ _)
      | (with_reducible exact LeO.refl _)
      | (with_reducible exact LeO.none _)
      | (with_reducible refine LeO.ite ?_ ?_)
      | (with_reducible refine LeO.bind ?_ (fun _ => ?_))
      | exact ih0 _ _ _
      | exact ih1 _ _ _ _
      | exact LeO.none _
      | refine LeO.ite ?_ ?_
      | refine LeO.bind ?_ (fun _ => ?_)
theorem oublietteref01_Parse.mono : ∀ a0 a1 k, LeO (oublietteref01_Parse.f k a0 a1) (oublietteref01_Parse.f (k + 1) a0 a1) := by
  intro a0 a1 k
  obtain ⟨ih0, ih1⟩ := oublietteref01_Parse.mono_l k
  unfold oublietteref01_Parse.f
  repeat' first
      | (with_reducible exact ih0 _ _ _)
      | (with_reducible exact ih1 _ _ _ _)
      | (with_reducible exact LeO.refl _)
      | (with_reducible exact LeO.none _)
      | (with_reducible refine LeO.ite ?_ ?_)
      | (with_reducible refine LeO.bind ?_ (fun _ => ?_))
      | exact ih0 _ _ _
      | exact ih1 _ _ _ _
      | exact LeO.none _
      | refine LeO.ite ?_ ?_
      | refine LeO.bind ?_ (fun _ => ?_)
/-! ### oublietteref04_value: function 98 -/
def oublietteref04_value.l0 : Nat → Int → Int → Option (Int)
  | 0, _, _ => none
  | k + 1, x0, x3 => if x3 < 16 then (if 0 ≤ x3 then (if (bt (⟨#[48, 49, 50, 51, 52, 53, 54, 55, 56, 57, 97, 98, 99, 100, 101, 102]⟩ : ByteArray) x3) = x0 then (some x3) else (oublietteref04_value.l0 k x0 (wrap64 (x3 + 1)))) else (none)) else (some (-1))
def oublietteref04_value.f (k : Nat) (a0 : Int) : Option (Int) := oublietteref04_value.l0 k a0 0
theorem oublietteref04_value.mono_l : ∀ k, (∀ y0 y1, LeO (oublietteref04_value.l0 k y0 y1) (oublietteref04_value.l0 (k + 1) y0 y1))
  | 0 => fun _ _ r h => by simp [oublietteref04_value.l0] at h
  | k + 1 => by
    have ih0 := oublietteref04_value.mono_l k
    · intro y0 y1
      unfold oublietteref04_value.l0
      repeat' first
      | (with_reducible exact ih0 _ _)
      | (with_reducible exact LeO.refl _)
      | (with_reducible exact LeO.none _)
      | (with_reducible refine LeO.ite ?_ ?_)
      | (with_reducible refine LeO.bind ?_ (fun _ => ?_))
      | exact ih0 _ _
      | exact LeO.none _
      | refine LeO.ite ?_ ?_
      | refine LeO.bind ?_ (fun _ => ?_)
theorem oublietteref04_value.mono : ∀ a0 k, LeO (oublietteref04_value.f k a0) (oublietteref04_value.f (k + 1) a0) := by
  intro a0 k
  have ih0 := oublietteref04_value.mono_l k
  unfold oublietteref04_value.f
  repeat' first
      | (with_reducible exact ih0 _ _)
      | (with_reducible exact LeO.refl _)
      | (with_reducible exact LeO.none _)
      | (with_reducible refine LeO.ite ?_ ?_)
      | (with_reducible refine LeO.bind ?_ (fun _ => ?_))
      | exact ih0 _ _
      | exact LeO.none _
      | refine LeO.ite ?_ ?_
      | refine LeO.bind ?_ (fun _ => ?_)
end Go.Proofs.YtdcknajlioalgaaDoor.QD
namespace Go.Proofs.YtdcknajlioalgaaDoor.QD
open Go.RowKit Go.Proofs.YtdcknajlioalgaaDoorW.PrintWords Go.Proofs.YtdcknajlioalgaaDoorW.PrintLast Go.Proofs.YtdcknajlioalgaaDoorW.PrintMore
attribute [local go_sem] max2_int min2_int max_two min_two max_three min_three max_four min_four   -- for this text's walks alone
set_option linter.unusedVariables false
set_option linter.unusedSimpArgs false

/-! ### oublietteref04_Parse: function 74 -/
mutual
def oublietteref04_Parse.l0 : Nat → ByteArray → Int → Option (List Int × Int × Int)
  | 0, _, _ => none
  | k + 1, x0, x5 => if x5 < (x0.size : Int) then (if 0 ≤ x5 then ((oublietteref04_value.f k (bt x0 x5)).bind fun t197 => (if t197 < 0 then (some (([] : List Int), x5, 3)) else (oublietteref04_Parse.l0 k x0 (wrap64 (x5 + 1))))) else (none)) else (if ((x0.size : Int) % 2) = 1 then (some (([] : List Int), (x0.size : Int), 3)) else (oublietteref04_Parse.l1 k x0 ([] : List Int) 0))
def oublietteref04_Parse.l1 : Nat → ByteArray → List Int → Int → Option (List Int × Int × Int)
  | 0, _, _, _ => none
  | k + 1, x0, x6, x7 => if x7 < (x0.size : Int) then (if 0 ≤ x7 then ((oublietteref04_value.f k (bt x0 x7)).bind fun t198 => (if 0 ≤ (wrap64 (x7 + 1)) then (if (wrap64 (x7 + 1)) < (x0.size : Int) then ((oublietteref04_value.f k (bt x0 (wrap64 (x7 + 1)))).bind fun t199 => (if x6.length < 140737488355328 then (oublietteref04_Parse.l1 k x0 (x6 ++ [(wrap64 ((wrap64 (t198 * 16)) + t199)) % 256]) (wrap64 (x7 + 2))) else (none))) else (none)) else (none))) else (none)) else (some (x6, 0, 0))
end
def oublietteref04_Parse.f (k : Nat) (a0 : ByteArray) : Option (List Int × Int × Int) := oublietteref04_Parse.l0 k a0 0
theorem oublietteref04_Parse.mono_l : ∀ k, (∀ y0 y1, LeO (oublietteref04_Parse.l0 k y0 y1) (oublietteref04_Parse.l0 (k + 1) y0 y1)) ∧ (∀ y0 y1 y2, LeO (oublietteref04_Parse.l1 k y0 y1 y2) (oublietteref04_Parse.l1 (k + 1) y0 y1 y2))
  | 0 => ⟨fun _ _ r h => by simp [oublietteref04_Parse.l0] at h, fun _ _ _ r h => by simp [oublietteref04_Parse.l1] at h⟩
  | k + 1 => by
    obtain ⟨ih0, ih1⟩ := oublietteref04_Parse.mono_l k
    refine ⟨?_, ?_⟩
    · intro y0 y1
      unfold oublietteref04_Parse.l0
      repeat' first
      | (with_reducible exact ih0 _ _)
      | (with_reducible exact ih1 _ _ _)
      | (with_reducible exact oublietteref04_value.mono _ _)
      | (with_reducible exact LeO.refl _)
      | (with_reducible exact LeO.none _)
      | (with_reducible refine LeO.ite ?_ ?_)
      | (with_reducible refine LeO.bind ?_ (fun _ => ?_))
      | exact ih0 _ _
      | exact ih1 _ _ _
      | exact oublietteref04_value.mono _ _
      | exact LeO.none _
      | refine LeO.ite ?_ ?_
      | refine LeO.bind ?_ (fun _ => ?_)
    · intro y0 y1 y2
      unfold oublietteref04_Parse.l1
      repeat' first
      | (with_reducible exact ih0 _ _)
      | (with_reducible exact ih1 _ _ _)
      | (with_reducible exact oublietteref04_value.mono _ _)
      | (with_reducible exact LeO.refl _)
      | (with_reducible exact LeO.none _)
      | (with_reducible refine LeO.ite ?_ ?_)
      | (with_reducible refine LeO.bind ?_ (fun _ => ?_))
      | exact ih0 _ _
      | exact ih1 _ _ _
      | exact oublietteref04_value.mono _ _
      | exact LeO.none _
      | refine LeO.ite ?_ ?_
      | refine LeO.bind ?_ (fun _ => ?_)
theorem oublietteref04_Parse.mono : ∀ a0 k, LeO (oublietteref04_Parse.f k a0) (oublietteref04_Parse.f (k + 1) a0) := by
  intro a0 k
  obtain ⟨ih0, ih1⟩ := oublietteref04_Parse.mono_l k
  unfold oublietteref04_Parse.f
  repeat' first
      | (with_reducible exact ih0 _ _)
      | (with_reducible exact ih1 _ _ _)
      | (with_reducible exact oublietteref04_value.mono _ _)
      | (with_reducible exact LeO.refl _)
      | (with_reducible exact LeO.none _)
      | (with_reducible refine LeO.ite ?_ ?_)
      | (with_reducible refine LeO.bind ?_ (fun _ => ?_))
      | exact ih0 _ _
      | exact ih1 _ _ _
      | exact oublietteref04_value.mono _ _
      | exact LeO.none _
      | refine LeO.ite ?_ ?_
      | refine LeO.bind ?_ (fun _ => ?_)
end Go.Proofs.YtdcknajlioalgaaDoor.QD
