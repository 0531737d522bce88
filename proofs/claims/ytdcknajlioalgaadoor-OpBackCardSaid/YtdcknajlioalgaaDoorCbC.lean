/- Words of this claim: cut by a program (prune.py) to what the claim uses. -/
import Derived.Test.YtdcknajlioalgaaDoorCbS
import Derived.Test.YtdcknajlioalgaaDoorCbB
import Derived.Test.YtdcknajlioalgaaDoorCbW
namespace Go.Proofs.YtdcknajlioalgaaDoor.QD
open Go.RowKit Go.Proofs.YtdcknajlioalgaaDoorW.PrintWords Go.Proofs.YtdcknajlioalgaaDoorW.PrintLast Go.Proofs.YtdcknajlioalgaaDoorW.PrintMore
attribute [local go_sem] max2_int min2_int max_two min_two max_three min_three max_four min_four   -- for this text's walks alone
set_option linter.unusedVariables false
set_option linter.unusedSimpArgs false

/-! ### oublietteref02_First: function 105 -/
mutual
def oublietteref02_First.j0 : Nat → ByteArray → Int → Int → Option (Int × Int)
  | 0, _, _, _ => none
  | k + 1, x0, x5, x6 => if x5 > (x0.size : Int) then (some (0, 0)) else (oublietteref02_First.l0 k x0 x5 x6 1)
def oublietteref02_First.l0 : Nat → ByteArray → Int → Int → Int → Option (Int × Int)
  | 0, _, _, _, _ => none
  | k + 1, x0, x5, x6, x7 => if x7 < x5 then (if 0 ≤ x7 then (if x7 < (x0.size : Int) then (if (bt x0 x7) < 128 then (some (0, 0)) else (if (bt x0 x7) > 191 then (some (0, 0)) else (oublietteref02_First.l0 k x0 x5 (wrap32 ((wrap32 ((wrap32 (x6 * 64)) + (wrap32 (bt x0 x7)))) - 128)) (wrap64 (x7 + 1))))) else (none)) else (none)) else ((oublietteref02_Right.f x6).bind fun t158 => (if t158 = true then ((oublietteref02_Bytes.f x6).bind fun t159 => (if 0 ≤ x5 then (if x5 ≤ (x0.size : Int) then (if (strOfNums t159).toList = (x0.extract 0 (x5 : Int).toNat).toList then (some (x6, x5)) else (some (0, 0))) else (none)) else (none))) else (some (0, 0))))
end
def oublietteref02_First.f (k : Nat) (a0 : ByteArray) : Option (Int × Int) := if (a0.size : Int) = 0 then (some (0, 0)) else (if 0 < (a0.size : Int) then (if (wrap32 (bt a0 0)) ≥ 240 then (oublietteref02_First.j0 k a0 4 (wrap32 ((wrap32 (bt a0 0)) - 240))) else (if (wrap32 (bt a0 0)) ≥ 224 then (oublietteref02_First.j0 k a0 3 (wrap32 ((wrap32 (bt a0 0)) - 224))) else (if (wrap32 (bt a0 0)) ≥ 192 then (oublietteref02_First.j0 k a0 2 (wrap32 ((wrap32 (bt a0 0)) - 192))) else (oublietteref02_First.j0 k a0 1 (wrap32 (bt a0 0)))))) else (none))
theorem oublietteref02_First.mono_l : ∀ k, (∀ y0 y1 y2, LeO (oublietteref02_First.j0 k y0 y1 y2) (oublietteref02_First.j0 (k + 1) y0 y1 y2)) ∧ (∀ y0 y1 y2 y3, LeO (oublietteref02_First.l0 k y0 y1 y2 y3) (oublietteref02_First.l0 (k + 1) y0 y1 y2 y3))
  | 0 => ⟨fun _ _ _ r h => by simp [oublietteref02_First.j0] at h, fun _ _ _ _ r h => by simp [oublietteref02_First.l0] at h⟩
  | k + 1 => by
    obtain ⟨ih0, ih1⟩ := oublietteref02_First.mono_l k
    refine ⟨?_, ?_⟩
    · intro y0 y1 y2
      unfold oublietteref02_First.j0
      repeat' first
      | (with_reducible exact ih0 _ _ _)
      | (with_reducible exact ih1 _ _ _ _)
      | (with_reducible exact LeO.refl _)
      | (with_reducible exact LeO.none _)
      | (with_reducible refine LeO.ite ?_ ?_)
      | (with_reducible refine LeO.bind ?_ (fun _ => ?_))
      | exact ih0 _ _ _
      | exact ih1 _ _ _ _
      | exact LeO.none _
      | refine LeO.ite ?_ ?_
      | refine LeO.bind ?_ (fun _ => ?_)
    · intro y0 y1 y2 y3
      unfold oublietteref02_First.l0
      repeat' first
      | (with_reducible exact ih0 _ _ _)
      | (with_reducible exact ih1 _ _ _ _)
      | (with_reducible exact LeO.refl _)
      | (with_reducible exact LeO.none _)
      | (with_reducible refine LeO.ite ?_ ?_)
      | (with_reducible refine LeO.bind ?_ (fun _ => ?_))
      | exact ih0 _ _ _
      | exact ih1 _ _ _ _
      | exact LeO.none _
      | refine LeO.ite ?_ ?_
      | refine LeO.bind ?_ (fun _ => ?_)
theorem oublietteref02_First.mono : ∀ a0 k, LeO (oublietteref02_First.f k a0) (oublietteref02_First.f (k + 1) a0) := by
  intro a0 k
  obtain ⟨ih0, ih1⟩ := oublietteref02_First.mono_l k
  unfold oublietteref02_First.f
  repeat' first
      | (with_reducible exact ih0 _ _ _)
      | (with_reducible exact ih1 _ _ _ _)
      | (with_reducible exact LeO.refl _)
      | (with_reducible exact LeO.none _)
      | (with_reducible refine LeO.ite ?_ ?_)
      | (with_reducible refine LeO.bind ?_ (fun _ => ?_))
      | exact ih0 _ _ _
      | exact ih1 _ _ _ _
      | exact LeO.none _
      | refine LeO.ite ?_ ?_
      | refine LeO.bind ?_ (fun _ => ?_)
/-! ### oublietteref02_Runes: function 93 -/
def oublietteref02_Runes.l0 : Nat → ByteArray → List Int → Int → Option (List Int × Int × Int)
  | 0, _, _, _ => none
  | k + 1, x0, x5, x6 => if x6 < (x0.size : Int) then (if 0 ≤ x6 then (if x6 ≤ (x0.size : Int) then ((oublietteref02_First.f k (x0.extract (x6 : Int).toNat x0.size)).bind fun bt162 => (if bt162.2 = 0 then (some (([] : List Int), x6, 4)) else (if x5.length < 35184372088832 then (oublietteref02_Runes.l0 k x0 (x5 ++ [bt162.1]) (wrap64 (x6 + bt162.2))) else (none)))) else (none)) else (none)) else (some (x5, 0, 0))
def oublietteref02_Runes.f (k : Nat) (a0 : ByteArray) : Option (List Int × Int × Int) := oublietteref02_Runes.l0 k a0 ([] : List Int) 0
theorem oublietteref02_Runes.mono_l : ∀ k, (∀ y0 y1 y2, LeO (oublietteref02_Runes.l0 k y0 y1 y2) (oublietteref02_Runes.l0 (k + 1) y0 y1 y2))
  | 0 => fun _ _ _ r h => by simp [oublietteref02_Runes.l0] at h
  | k + 1 => by
    have ih0 := oublietteref02_Runes.mono_l k
    · intro y0 y1 y2
      unfold oublietteref02_Runes.l0
      repeat' first
      | (with_reducible exact ih0 _ _ _)
      | (with_reducible exact oublietteref02_First.mono _ _)
      | (with_reducible exact LeO.refl _)
      | (with_reducible exact LeO.none _)
      | (with_reducible refine LeO.ite ?_ ?_)
      | (with_reducible refine LeO.bind ?_ (fun _ => ?_))
      | exact ih0 _ _ _
      | exact oublietteref02_First.mono _ _
      | exact LeO.none _
      | refine LeO.ite ?_ ?_
      | refine LeO.bind ?_ (fun _ => ?_)
theorem oublietteref02_Runes.mono : ∀ a0 k, LeO (oublietteref02_Runes.f k a0) (oublietteref02_Runes.f (k + 1) a0) := by
  intro a0 k
  have ih0 := oublietteref02_Runes.mono_l k
  unfold oublietteref02_Runes.f
  repeat' first
      | (with_reducible exact ih0 _ _ _)
      | (with_reducible exact oublietteref02_First.mono _ _)
      | (with_reducible exact LeO.refl _)
      | (with_reducible exact LeO.none _)
      | (with_reducible refine LeO.ite ?_ ?_)
      | (with_reducible refine LeO.bind ?_ (fun _ => ?_))
      | exact ih0 _ _ _
      | exact oublietteref02_First.mono _ _
      | exact LeO.none _
      | refine LeO.ite ?_ ?_
      | refine LeO.bind ?_ (fun _ => ?_)
end Go.Proofs.YtdcknajlioalgaaDoor.QD
namespace Go.Proofs.YtdcknajlioalgaaDoor.QD
open Go.RowKit Go.Proofs.YtdcknajlioalgaaDoorW.PrintWords Go.Proofs.YtdcknajlioalgaaDoorW.PrintLast Go.Proofs.YtdcknajlioalgaaDoorW.PrintMore
attribute [local go_sem] max2_int min2_int max_two min_two max_three min_three max_four min_four   -- for this text's walks alone
set_option linter.unusedVariables false
set_option linter.unusedSimpArgs false

/-! ### oublietteref02_Upper: function 107 -/
def oublietteref02_Upper.f (a0 : Int) : Option (Bool) := if a0 ≥ 65 then (if a0 ≤ 90 then (some true) else (if a0 ≥ 192 then (if a0 ≤ 222 then (some (a0 != 215)) else (some false)) else (some false))) else (if a0 ≥ 192 then (if a0 ≤ 222 then (some (a0 != 215)) else (some false)) else (some false))
/-! ### oublietteref02_Letter: function 106 -/
def oublietteref02_Letter.f (a0 : Int) : Option (Bool) := (oublietteref02_Upper.f a0).bind fun t167 => (if t167 = true then (some true) else (if a0 ≥ 97 then (if a0 ≤ 122 then (some true) else (if a0 ≥ 223 then (if a0 ≤ 255 then (some (a0 != 247)) else (some false)) else (some false))) else (if a0 ≥ 223 then (if a0 ≤ 255 then (some (a0 != 247)) else (some false)) else (some false))))
/-! ### oublietteref03_small: function 94 -/
def oublietteref03_small.f (a0 : Int) : Option (Bool) := if a0 ≥ 48 then (if a0 ≤ 57 then (some true) else ((oublietteref02_Letter.f a0).bind fun t168 => (if t168 = true then ((oublietteref02_Upper.f a0).bind fun t169 => (some (!t169))) else (some false)))) else ((oublietteref02_Letter.f a0).bind fun t170 => (if t170 = true then ((oublietteref02_Upper.f a0).bind fun t171 => (some (!t171))) else (some false)))
/-! ### oublietteref03_Part: function 67 -/
mutual
def oublietteref03_Part.j0 : Nat → List Int → Bool → Option (Bool)
  | 0, _, _ => none
  | k + 1, x3, x24 => if x24 = true then (some false) else (oublietteref03_Part.l0 k x3 0)
def oublietteref03_Part.l0 : Nat → List Int → Int → Option (Bool)
  | 0, _, _ => none
  | k + 1, x3, x6 => if x6 < (x3.length : Int) then (if 0 ≤ x6 then ((oublietteref03_small.f (rd x3 x6)).bind fun t178 => (if t178 = true then (oublietteref03_Part.l0 k x3 (wrap64 (x6 + 1))) else (some false))) else (none)) else (some true)
end
def oublietteref03_Part.f (k : Nat) (a0 : ByteArray) : Option (Bool) := (oublietteref02_Runes.f k a0).bind fun bt172 => (if bt172.2.2 = 0 then (if (bt172.1.length : Int) < 1 then (oublietteref03_Part.j0 k bt172.1 true) else (oublietteref03_Part.j0 k bt172.1 (decide ((bt172.1.length : Int) > 8)))) else (oublietteref03_Part.j0 k bt172.1 true))
theorem oublietteref03_Part.mono_l : ∀ k, (∀ y0 y1, LeO (oublietteref03_Part.j0 k y0 y1) (oublietteref03_Part.j0 (k + 1) y0 y1)) ∧ (∀ y0 y1, LeO (oublietteref03_Part.l0 k y0 y1) (oublietteref03_Part.l0 (k + 1) y0 y1))
  | 0 => ⟨fun _ _ r h => by simp [oublietteref03_Part.j0] at h, fun _ _ r h => by simp [oublietteref03_Part.l0] at h⟩
  | k + 1 => by
    obtain ⟨ih0, ih1⟩ := oublietteref03_Part.mono_l k
    refine ⟨?_, ?_⟩
    · intro y0 y1
      unfold oublietteref03_Part.j0
      repeat' first
      | (with_reducible exact ih0 _ _)
      | (with_reducible exact ih1 _ _)
      | (with_reducible exact oublietteref02_Runes.mono _ _)
      | (with_reducible exact LeO.refl _)
      | (with_reducible exact LeO.none _)
      | (with_reducible refine LeO.ite ?_ ?_)
      | (with_reducible refine LeO.bind ?_ (fun _ => ?_))
      | exact ih0 _ _
      | exact ih1 _ _
      | exact oublietteref02_Runes.mono _ _
      | exact LeO.none _
      | refine LeO.ite ?_ ?_
      | refine LeO.bind ?_ (fun _ => ?_)
    · intro y0 y1
      unfold oublietteref03_Part.l0
      repeat' first
      | (with_reducible exact ih0 _ _)
      | (with_reducible exact ih1 _ _)
      | (with_reducible exact oublietteref02_Runes.mono _ _)
      | (with_reducible exact LeO.refl _)
      | (with_reducible exact LeO.none _)
      | (with_reducible refine LeO.ite ?_ ?_)
      | (with_reducible refine LeO.bind ?_ (fun _ => ?_))
      | exact ih0 _ _
      | exact ih1 _ _
      | exact oublietteref02_Runes.mono _ _
      | exact LeO.none _
      | refine LeO.ite ?_ ?_
      | refine LeO.bind ?_ (fun _ => ?_)
theorem oublietteref03_Part.mono : ∀ a0 k, LeO (oublietteref03_Part.f k a0) (oublietteref03_Part.f (k + 1) a0) := by
  intro a0 k
  obtain ⟨ih0, ih1⟩ := oublietteref03_Part.mono_l k
  unfold oublietteref03_Part.f
  repeat' first
      | (with_reducible exact ih0 _ _)
      | (with_reducible exact ih1 _ _)
      | (with_reducible exact oublietteref02_Runes.mono _ _)
      | (with_reducible exact LeO.refl _)
      | (with_reducible exact LeO.none _)
      | (with_reducible refine LeO.ite ?_ ?_)
      | (with_reducible refine LeO.bind ?_ (fun _ => ?_))
      | exact ih0 _ _
      | exact ih1 _ _
      | exact oublietteref02_Runes.mono _ _
      | exact LeO.none _
      | refine LeO.ite ?_ ?_
      | refine LeO.bind ?_ (fun _ => ?_)
/-! ### oublietteref01_Print: function 95 -/
def oublietteref01_Print.f : Nat → Int → Option (ByteArray)
  | 0, _ => none
  | k + 1, a0 => if a0 < 0 then (some (⟨#[]⟩ : ByteArray)) else (if a0 < 10 then (some (strOfNums (([(wrap64 (48 + a0)) % 256] : List Int)))) else ((oublietteref01_Print.f k (wrap64 (Int.tdiv a0 10))).bind fun t182 => ((oublietteref01_Print.f k (Int.tmod a0 10)).bind fun t183 => (if t182.size + t183.size ≤ 9223372036854775807 then (some (t182 ++ t183)) else (none)))))
theorem oublietteref01_Print.mono_l : ∀ k, (∀ y0, LeO (oublietteref01_Print.f k y0) (oublietteref01_Print.f (k + 1) y0))
  | 0 => fun _ r h => by simp [oublietteref01_Print.f] at h
  | k + 1 => by
    have ih0 := oublietteref01_Print.mono_l k
    · intro y0
      unfold oublietteref01_Print.f
      repeat' first
      | (with_reducible exact ih0 _)
      | (with_reducible exact LeO.refl _)
      | (with_reducible exact LeO.none _)
      | (with_reducible refine LeO.ite ?_ ?_)
      | (with_reducible refine LeO.bind ?_ (fun _ => ?_))
      | exact ih0 _
      | exact LeO.none _
      | refine LeO.ite ?_ ?_
      | refine LeO.bind ?_ (fun _ => ?_)
theorem oublietteref01_Print.mono : ∀ a0 k, LeO (oublietteref01_Print.f k a0) (oublietteref01_Print.f (k + 1) a0) := by
  intro a0 k
  have ih0 := oublietteref01_Print.mono_l k
  exact ih0 a0
/-! ### oublietteref39_count: function 68 -/
def oublietteref39_count.f (k : Nat) (a0 : Int) : Option (ByteArray) := if a0 < 0 then (some (⟨#[]⟩ : ByteArray)) else (if a0 > 1073741824 then (some (⟨#[]⟩ : ByteArray)) else ((oublietteref01_Print.f k a0).bind fun t184 => (some t184)))
theorem oublietteref39_count.mono : ∀ a0 k, LeO (oublietteref39_count.f k a0) (oublietteref39_count.f (k + 1) a0) := by
  intro a0 k
  unfold oublietteref39_count.f
  repeat' first
      | (with_reducible exact oublietteref01_Print.mono _ _)
      | (with_reducible exact LeO.refl _)
      | (with_reducible exact LeO.none _)
      | (with_reducible refine LeO.ite ?_ ?_)
      | (with_reducible refine LeO.bind ?_ (fun _ => ?_))
      | exact oublietteref01_Print.mono _ _
      | exact LeO.none _
      | refine LeO.ite ?_ ?_
      | refine LeO.bind ?_ (fun _ => ?_)
/-! ### oublietteref39_said: function 69 -/
def oublietteref39_said.f (a0 : Int) : Option (ByteArray) := if a0 < 1 then (some (⟨#[]⟩ : ByteArray)) else (if a0 > 3 then (some (⟨#[]⟩ : ByteArray)) else ((some (([(⟨#[97, 99, 99, 101, 112, 116, 101, 100]⟩ : ByteArray), (⟨#[111, 116, 104, 101, 114]⟩ : ByteArray), (⟨#[110, 111, 116, 104, 105, 110, 103]⟩ : ByteArray)] : List ByteArray) : List ByteArray)).bind fun y185 => (if 0 ≤ (wrap64 (a0 - 1)) then (if (wrap64 (a0 - 1)) < (y185.length : Int) then (some (rdOf ByteArray.empty y185 (wrap64 (a0 - 1)))) else (none)) else (none))))
end Go.Proofs.YtdcknajlioalgaaDoor.QD
namespace Go.Proofs.YtdcknajlioalgaaDoor.QD
open Go.RowKit Go.Proofs.YtdcknajlioalgaaDoorW.PrintWords Go.Proofs.YtdcknajlioalgaaDoorW.PrintLast Go.Proofs.YtdcknajlioalgaaDoorW.PrintMore
attribute [local go_sem] max2_int min2_int max_two min_two max_three min_three max_four min_four   -- for this text's walks alone
set_option linter.unusedVariables false
set_option linter.unusedSimpArgs false

/-! ### oublietteref04_Print: function 70 -/
open Go.Proofs.YtdcknajlioalgaaDoor.Hex
def oublietteref04_Print.f (l0 : List Int) : Option ByteArray := if l0.length ≤ 1000000 ∧ (∀ x ∈ l0, 0 ≤ x ∧ x < 256) then some (hexS l0) else none
end Go.Proofs.YtdcknajlioalgaaDoor.QD
