/- Words of this claim: cut by a program (prune.py) to what the claim uses. -/
import Derived.Test.YtdcknajlioalgaaDoorCbS
import Derived.Test.YtdcknajlioalgaaDoorCbB
import Derived.Test.YtdcknajlioalgaaDoorCbF
namespace Go.Proofs.YtdcknajlioalgaaDoor.QD
open Go.RowKit Go.Proofs.YtdcknajlioalgaaDoorW.PrintWords Go.Proofs.YtdcknajlioalgaaDoorW.PrintLast Go.Proofs.YtdcknajlioalgaaDoorW.PrintMore
attribute [local go_sem] max2_int min2_int max_two min_two max_three min_three max_four min_four   -- for this text's walks alone
set_option linter.unusedVariables false
set_option linter.unusedSimpArgs false

/-! ### oublietteref39_Parse: function 18 -/
mutual
def oublietteref39_Parse.l0 : Nat → List ByteArray → Int → Option (Int × ByteArray × ByteArray × Int × Int × Int × Int × List Int × Int)
  | 0, _, _ => none
  | k + 1, x4, x5 => if x5 ≤ 9 then ((oublietteref39_kinds.f x5).bind fun bt207 => (if 0 < (x4.length : Int) then (if (rdOf ByteArray.empty x4 0).toList = bt207.1.toList then (oublietteref39_Parse.j1 k x4 x5 bt207.2 ((x4.length : Int) != (wrap64 ((bt207.2.size : Int) + 1)))) else (oublietteref39_Parse.j1 k x4 x5 bt207.2 true)) else (none))) else (some (0, (⟨#[]⟩ : ByteArray), (⟨#[]⟩ : ByteArray), 0, 0, 0, 0, ([] : List Int), 3))
def oublietteref39_Parse.j1 : Nat → List ByteArray → Int → ByteArray → Bool → Option (Int × ByteArray × ByteArray × Int × Int × Int × Int × List Int × Int)
  | 0, _, _, _, _ => none
  | k + 1, x4, x5, x7, x36 => if x36 = true then (oublietteref39_Parse.l0 k x4 (wrap64 (x5 + 1))) else (oublietteref39_Parse.l1 k x4 x5 x7 true 0 x5 (⟨#[]⟩ : ByteArray) (⟨#[]⟩ : ByteArray) 0 0 0 0 ([] : List Int))
def oublietteref39_Parse.l1 : Nat → List ByteArray → Int → ByteArray → Bool → Int → Int → ByteArray → ByteArray → Int → Int → Int → Int → List Int → Option (Int × ByteArray × ByteArray × Int × Int × Int × Int × List Int × Int)
  | 0, _, _, _, _, _, _, _, _, _, _, _, _, _ => none
  | k + 1, x4, x5, x7, x9, x10, x211000, x211001, x211002, x211003, x211004, x211005, x211006, x211007 => if x10 < (x7.size : Int) then (if 0 ≤ x10 then (if 0 ≤ (wrap64 (x10 + 1)) then (if (wrap64 (x10 + 1)) < (x4.length : Int) then ((oublietteref39_with.f x211000 x211001 x211002 x211003 x211004 x211005 x211006 x211007 (bt x7 x10) (rdOf ByteArray.empty x4 (wrap64 (x10 + 1)))).bind fun bt212 => (if x9 = true then (oublietteref39_Parse.l1 k x4 x5 x7 bt212.2.2.2.2.2.2.2.2 (wrap64 (x10 + 1)) bt212.1 bt212.2.1 bt212.2.2.1 bt212.2.2.2.1 bt212.2.2.2.2.1 bt212.2.2.2.2.2.1 bt212.2.2.2.2.2.2.1 bt212.2.2.2.2.2.2.2.1) else (oublietteref39_Parse.l1 k x4 x5 x7 false (wrap64 (x10 + 1)) bt212.1 bt212.2.1 bt212.2.2.1 bt212.2.2.2.1 bt212.2.2.2.2.1 bt212.2.2.2.2.2.1 bt212.2.2.2.2.2.2.1 bt212.2.2.2.2.2.2.2.1))) else (none)) else (none)) else (none)) else (if x9 = true then (some (x211000, x211001, x211002, x211003, x211004, x211005, x211006, x211007, 0)) else (oublietteref39_Parse.l0 k x4 (wrap64 (x5 + 1))))
end
def oublietteref39_Parse.f (k : Nat) (a0 : ByteArray) : Option (Int × ByteArray × ByteArray × Int × Int × Int × Int × List Int × Int) := (oublietteref39_split.f k a0).bind fun t204 => (oublietteref39_Parse.l0 k t204 1)
theorem oublietteref39_Parse.mono_l : ∀ k, (∀ y0 y1, LeO (oublietteref39_Parse.l0 k y0 y1) (oublietteref39_Parse.l0 (k + 1) y0 y1)) ∧ (∀ y0 y1 y2 y3, LeO (oublietteref39_Parse.j1 k y0 y1 y2 y3) (oublietteref39_Parse.j1 (k + 1) y0 y1 y2 y3)) ∧ (∀ y0 y1 y2 y3 y4 y5 y6 y7 y8 y9 y10 y11 y12, LeO (oublietteref39_Parse.l1 k y0 y1 y2 y3 y4 y5 y6 y7 y8 y9 y10 y11 y12) (oublietteref39_Parse.l1 (k + 1) y0 y1 y2 y3 y4 y5 y6 y7 y8 y9 y10 y11 y12))
  | 0 => ⟨fun _ _ r h => by simp [oublietteref39_Parse.l0] at h, fun _ _ _ _ r h => by simp [oublietteref39_Parse.j1] at h, fun _ _ _ _ _ _ _ _ _ _ _ _ _ r h => by simp [oublietteref39_Parse.l1] at h⟩
  | k + 1 => by
    obtain ⟨ih0, ih1, ih2⟩ := oublietteref39_Parse.mono_l k
    refine ⟨?_, ?_, ?_⟩
    · intro y0 y1
      unfold oublietteref39_Parse.l0
      repeat' first
      | (with_reducible exact ih0 _ _)
      | (with_reducible exact ih1 _ _ _ _)
      | (with_reducible exact ih2 _ _ _ _ _ _ _ _ _ _ _ _ _)
      | (with_reducible exact oublietteref39_split.mono _ _)
      | (with_reducible exact LeO.refl _)
      | (with_reducible exact LeO.none _)
      | (with_reducible refine LeO.ite ?_ ?_)
      | (with_reducible refine LeO.bind ?_ (fun _ => ?_))
      | exact ih0 _ _
      | exact ih1 _ _ _ _
      | exact ih2 _ _ _ _ _ _ _ _ _ _ _ _ _
      | exact oublietteref39_split.mono _ _
      | exact LeO.none _
      | refine LeO.ite ?_ ?_
      | refine LeO.bind ?_ (fun _ => ?_)
    · intro y0 y1 y2 y3
      unfold oublietteref39_Parse.j1
      repeat' first
      | (with_reducible exact ih0 _ _)
      | (with_reducible exact ih1 _ _ _ _)
      | (with_reducible exact ih2 _ _ _ _ _ _ _ _ _ _ _ _ _)
      | (with_reducible exact oublietteref39_split.mono _ _)
      | (with_reducible exact LeO.refl _)
      | (with_reducible exact LeO.none _)
      | (with_reducible refine LeO.ite ?_ ?_)
      | (with_reducible refine LeO.bind ?_ (fun _ => ?_))
      | exact ih0 _ _
      | exact ih1 _ _ _ _
      | exact ih2 _ _ _ _ _ _ _ _ _ _ _ _ _
      | exact oublietteref39_split.mono _ _
      | exact LeO.none _
      | refine LeO.ite ?_ ?_
      | refine LeO.bind ?_ (fun _ => ?_)
    · intro y0 y1 y2 y3 y4 y5 y6 y7 y8 y9 y10 y11 y12
      unfold oublietteref39_Parse.l1
      repeat' first
      | (with_reducible exact ih0 _ _)
      | (with_reducible exact ih1 _ _ _ _)
      | (with_reducible exact ih2 _ _ _ _ _ _ _ _ _ _ _ _ _)
      | (with_reducible exact oublietteref39_split.mono _ _)
      | (with_reducible exact LeO.refl _)
      | (with_reducible exact LeO.none _)
      | (with_reducible refine LeO.ite ?_ ?_)
      | (with_reducible refine LeO.bind ?_ (fun _ => ?_))
      | exact ih0 _ _
      | exact ih1 _ _ _ _
      | exact ih2 _ _ _ _ _ _ _ _ _ _ _ _ _
      | exact oublietteref39_split.mono _ _
      | exact LeO.none _
      | refine LeO.ite ?_ ?_
      | refine LeO.bind ?_ (fun _ => ?_)
theorem oublietteref39_Parse.mono : ∀ a0 k, LeO (oublietteref39_Parse.f k a0) (oublietteref39_Parse.f (k + 1) a0) := by
  intro a0 k
  obtain ⟨ih0, ih1, ih2⟩ := oublietteref39_Parse.mono_l k
  unfold oublietteref39_Parse.f
  repeat' first
      | (with_reducible exact ih0 _ _)
      | (with_reducible exact ih1 _ _ _ _)
      | (with_reducible exact ih2 _ _ _ _ _ _ _ _ _ _ _ _ _)
      | (with_reducible exact oublietteref39_split.mono _ _)
      | (with_reducible exact LeO.refl _)
      | (with_reducible exact LeO.none _)
      | (with_reducible refine LeO.ite ?_ ?_)
      | (with_reducible refine LeO.bind ?_ (fun _ => ?_))
      | exact ih0 _ _
      | exact ih1 _ _ _ _
      | exact ih2 _ _ _ _ _ _ _ _ _ _ _ _ _
      | exact oublietteref39_split.mono _ _
      | exact LeO.none _
      | refine LeO.ite ?_ ?_
      | refine LeO.bind ?_ (fun _ => ?_)
end Go.Proofs.YtdcknajlioalgaaDoor.QD
