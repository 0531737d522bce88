/- Words of this claim: cut by a program (prune.py) to what the claim uses. -/
import Derived.Test.YtdcknajlioalgaaDoorCbS
import Derived.Shelf.Strings.Split
import Derived.Lib.SplitLaws
import Derived.Lib.AppendIntMem
import Derived.Lib.OthersKept
import Derived.Test.YtdcknajlioalgaaDoorCbW
namespace Go.Proofs.YtdcknajlioalgaaDoor.QD
open Go.RowKit Go.Proofs.YtdcknajlioalgaaDoorW.PrintWords Go.Proofs.YtdcknajlioalgaaDoorW.PrintLast Go.Proofs.YtdcknajlioalgaaDoorW.PrintMore
attribute [local go_sem] max2_int min2_int max_two min_two max_three min_three max_four min_four   -- for this text's walks alone
set_option linter.unusedVariables false
set_option linter.unusedSimpArgs false

/-! ### oubliettelaw37_Light: function 13 -/
def oubliettelaw37_Light.l0 : Nat → List (S28) → Int → Option (Bool)
  | 0, _, _ => none
  | k + 1, x0, x3 => if x3 < (x0.length : Int) then (if 0 ≤ x3 then (if (((rd_T28 x0 x3).f1).size : Int) > 100 then (some false) else (if (((rd_T28 x0 x3).f2).size : Int) > 100 then (some false) else (if (((rd_T28 x0 x3).f7).length : Int) > 100 then (some false) else (oubliettelaw37_Light.l0 k x0 (wrap64 (x3 + 1)))))) else (none)) else (some true)
def oubliettelaw37_Light.f (k : Nat) (l0 : List (S28)) : Option (Bool) := if (l0.length : Int) > 40 then (some false) else (oubliettelaw37_Light.l0 k l0 0)
theorem oubliettelaw37_Light.mono_l : ∀ k, (∀ y0 y1, LeO (oubliettelaw37_Light.l0 k y0 y1) (oubliettelaw37_Light.l0 (k + 1) y0 y1))
  | 0 => fun _ _ r h => by simp [oubliettelaw37_Light.l0] at h
  | k + 1 => by
    have ih0 := oubliettelaw37_Light.mono_l k
    · intro y0 y1
      unfold oubliettelaw37_Light.l0
      repeat' first
      | (with_reducible exact ih0 _ _)
      | (with_reducible exact LeO.refl _)
      | (with_reducible exact LeO.none _)
      | (with_reducible refine LeO.ite ?_ ?_)
      | (with_reducible refine LeO.bind ?_ (fun _ => ?_))
      | exact ih0 _ _
      | exact LeO.none _
      | refine LeO.ite ?_ ?_
      | refine LeO.bind ?_ (fun _ => ?_)
theorem oubliettelaw37_Light.mono : ∀ a0 k, LeO (oubliettelaw37_Light.f k a0) (oubliettelaw37_Light.f (k + 1) a0) := by
  intro a0 k
  have ih0 := oubliettelaw37_Light.mono_l k
  unfold oubliettelaw37_Light.f
  repeat' first
      | (with_reducible exact ih0 _ _)
      | (with_reducible exact LeO.refl _)
      | (with_reducible exact LeO.none _)
      | (with_reducible refine LeO.ite ?_ ?_)
      | (with_reducible refine LeO.bind ?_ (fun _ => ?_))
      | exact ih0 _ _
      | exact LeO.none _
      | refine LeO.ite ?_ ?_
      | refine LeO.bind ?_ (fun _ => ?_)
set_option maxHeartbeats 8000000 in
set_option maxRecDepth 100000 in
theorem oubliettelaw37_Light.calls (k : Nat) (A0 : Option Addr) (c0 : Nat) (l0 : List (S28)) (r : Bool) (w : World) (hr0 : Kd.C k28 w A0 l0.length l0) (hc0 : l0.length ≤ c0) (h : oubliettelaw37_Light.f k l0 = some r) :
    Calls Tryd.prog 13 #[.slice A0 l0.length c0] w fun e w' => e = .returned (.bool r) ∧ Drawn0 w w' := by
  have HR0 := Aside0.mk hr0
  have HC0 := Aside0.mk hc0
  clear hr0 hc0
  have H : (if (l0.length : Int) > 40 then (some false) else (oubliettelaw37_Light.l0 k l0 0)) = some r := h
  clear h
  by_cases c2 : (l0.length : Int) > 40
  · rw [if_pos c2] at H
    have c2b0 : decide (40 < (l0.length : Int)) = true := decide_eq_true c2
    have c2b1 : decide (40 < l0.length) = true := decide_eq_true (by omega)
    clear c2
    obtain rfl := Option.some.inj H
    go_enter Tryd.func13, Tryd.ntmps13
    go_wp2
    go_ret
    exact ⟨by first | rfl | (simp; done) | (simp [*]; done), by repeat (first | exact Drawn0.refl _ | apply Drawn0.step)⟩
  · rw [if_neg c2] at H
    have c2b0 : decide (40 < (l0.length : Int)) = false := decide_eq_false c2
    have c2b1 : decide (40 < l0.length) = false := decide_eq_false (by omega)
    clear c2
    have H' := Aside0.mk H
    clear H
    go_enter Tryd.func13, Tryd.ntmps13
    go_wp2
    go_loopg [3] k (fun kq v3 w' => ∃ (x3_1 : Int), v3 = .int .i64 x3_1 ∧ Aside0 (oubliettelaw37_Light.l0 kq l0 x3_1 = some r) ∧ Aside0 (kq ≤ k) ∧ Drawn0 w w')
    case atStart => exact ⟨(0), (by first | rfl | (simp; done) | (simp [*]; done)), H', ⟨Nat.le_refl _⟩, by repeat (first | exact Drawn0.refl _ | apply Drawn0.step)⟩
    case round =>
      clear H'
      try clear c1
      try clear c2
      try clear c2b0
      try clear c2b1
      try clear p2
      obtain ⟨x3_1, rfl, HA, HK1, ⟨m1, rfl⟩⟩ := hrel
      cases gk with
      | zero => exact absurd HA.out (by simp [oubliettelaw37_Light.l0])
      | succ k1 =>
        have H := HA.out
        clear HA
        simp only [oubliettelaw37_Light.l0] at H
        by_cases c3 : x3_1 < (l0.length : Int)
        · rw [if_pos c3] at H
          have c3b0 : decide (x3_1 < (l0.length : Int)) = true := decide_eq_true c3
          clear c3
          by_cases c4 : 0 ≤ x3_1
          · rw [if_pos c4] at H
            have c4b0 : decide (0 ≤ x3_1) = true := decide_eq_true c4
            clear c4
            by_cases c5 : (((rd_T28 l0 x3_1).f1).size : Int) > 100
            · rw [if_pos c5] at H
              have c5b0 : decide (100 < (((rd_T28 l0 x3_1).f1).size : Int)) = true := decide_eq_true c5
              have c5b1 : decide (100 < ((rd_T28 l0 x3_1).f1).size) = true := decide_eq_true (by omega)
              clear c5
              obtain rfl := Option.some.inj H
              have p101 : 0 ≤ (x3_1 : Int) := of_decide_eq_true (by first | (with_reducible assumption) | assumption)
              have q101 : x3_1 < (l0.length : Int) := of_decide_eq_true (by first | (with_reducible assumption) | assumption)
              obtain ⟨ad101, A101_7, c101_7, e101, hx101_0, hx101_1, hx101_2, hx101_3, hx101_4, hx101_5, hx101_6, hx101_7, hl101_7, hi101_7⟩ := at_T28 HR0.out x3_1 p101 q101
              cases e101
              have HR101_7 := Aside0.mk hi101_7
              have HC101_7 := Aside0.mk hl101_7
              clear hi101_7 hl101_7
              replace p101 := eq_true p101
              replace q101 := eq_true q101
              go_wp2
              go_ret
              exact ⟨by first | rfl | (simp; done) | (simp [*]; done), by repeat (first | exact Drawn0.refl _ | apply Drawn0.step)⟩
            · rw [if_neg c5] at H
              have c5b0 : decide (100 < (((rd_T28 l0 x3_1).f1).size : Int)) = false := decide_eq_false c5
              have c5b1 : decide (100 < ((rd_T28 l0 x3_1).f1).size) = false := decide_eq_false (by omega)
              clear c5
              by_cases c6 : (((rd_T28 l0 x3_1).f2).size : Int) > 100
              · rw [if_pos c6] at H
                have c6b0 : decide (100 < (((rd_T28 l0 x3_1).f2).size : Int)) = true := decide_eq_true c6
                have c6b1 : decide (100 < ((rd_T28 l0 x3_1).f2).size) = true := decide_eq_true (by omega)
                clear c6
                obtain rfl := Option.some.inj H
                have p101 : 0 ≤ (x3_1 : Int) := of_decide_eq_true (by first | (with_reducible assumption) | assumption)
                have q101 : x3_1 < (l0.length : Int) := of_decide_eq_true (by first | (with_reducible assumption) | assumption)
                obtain ⟨ad101, A101_7, c101_7, e101, hx101_0, hx101_1, hx101_2, hx101_3, hx101_4, hx101_5, hx101_6, hx101_7, hl101_7, hi101_7⟩ := at_T28 HR0.out x3_1 p101 q101
                cases e101
                have HR101_7 := Aside0.mk hi101_7
                have HC101_7 := Aside0.mk hl101_7
                clear hi101_7 hl101_7
                replace p101 := eq_true p101
                replace q101 := eq_true q101
                have p102 : 0 ≤ (x3_1 : Int) := of_decide_eq_true (by first | (with_reducible assumption) | assumption)
                have q102 : x3_1 < (l0.length : Int) := of_decide_eq_true (by first | (with_reducible assumption) | assumption)
                obtain ⟨ad102, A102_7, c102_7, e102, hx102_0, hx102_1, hx102_2, hx102_3, hx102_4, hx102_5, hx102_6, hx102_7, hl102_7, hi102_7⟩ := at_T28 HR0.out x3_1 p102 q102
                obtain rfl : ad101 = ad102 := (by injection e102)
                have HR102_7 := Aside0.mk hi102_7
                have HC102_7 := Aside0.mk hl102_7
                clear hi102_7 hl102_7
                replace p102 := eq_true p102
                replace q102 := eq_true q102
                have ea_ := Option.some.inj (hx101_7.symm.trans hx102_7)
                injection ea_ with ea_ en_ ec_
                subst ea_
                subst ec_
                clear en_
                go_wp2
                go_ret
                exact ⟨by first | rfl | (simp; done) | (simp [*]; done), by repeat (first | exact Drawn0.refl _ | apply Drawn0.step)⟩
              · rw [if_neg c6] at H
                have c6b0 : decide (100 < (((rd_T28 l0 x3_1).f2).size : Int)) = false := decide_eq_false c6
                have c6b1 : decide (100 < ((rd_T28 l0 x3_1).f2).size) = false := decide_eq_false (by omega)
                clear c6
                by_cases c7 : (((rd_T28 l0 x3_1).f7).length : Int) > 100
                · rw [if_pos c7] at H
                  have c7b0 : decide (100 < (((rd_T28 l0 x3_1).f7).length : Int)) = true := decide_eq_true c7
                  have c7b1 : decide (100 < ((rd_T28 l0 x3_1).f7).length) = true := decide_eq_true (by omega)
                  clear c7
                  obtain rfl := Option.some.inj H
                  have p101 : 0 ≤ (x3_1 : Int) := of_decide_eq_true (by first | (with_reducible assumption) | assumption)
                  have q101 : x3_1 < (l0.length : Int) := of_decide_eq_true (by first | (with_reducible assumption) | assumption)
                  obtain ⟨ad101, A101_7, c101_7, e101, hx101_0, hx101_1, hx101_2, hx101_3, hx101_4, hx101_5, hx101_6, hx101_7, hl101_7, hi101_7⟩ := at_T28 HR0.out x3_1 p101 q101
                  cases e101
                  have HR101_7 := Aside0.mk hi101_7
                  have HC101_7 := Aside0.mk hl101_7
                  clear hi101_7 hl101_7
                  replace p101 := eq_true p101
                  replace q101 := eq_true q101
                  have p102 : 0 ≤ (x3_1 : Int) := of_decide_eq_true (by first | (with_reducible assumption) | assumption)
                  have q102 : x3_1 < (l0.length : Int) := of_decide_eq_true (by first | (with_reducible assumption) | assumption)
                  obtain ⟨ad102, A102_7, c102_7, e102, hx102_0, hx102_1, hx102_2, hx102_3, hx102_4, hx102_5, hx102_6, hx102_7, hl102_7, hi102_7⟩ := at_T28 HR0.out x3_1 p102 q102
                  obtain rfl : ad101 = ad102 := (by injection e102)
                  have HR102_7 := Aside0.mk hi102_7
                  have HC102_7 := Aside0.mk hl102_7
                  clear hi102_7 hl102_7
                  replace p102 := eq_true p102
                  replace q102 := eq_true q102
                  have ea_ := Option.some.inj (hx101_7.symm.trans hx102_7)
                  injection ea_ with ea_ en_ ec_
                  subst ea_
                  subst ec_
                  clear en_
                  have p103 : 0 ≤ (x3_1 : Int) := of_decide_eq_true (by first | (with_reducible assumption) | assumption)
                  have q103 : x3_1 < (l0.length : Int) := of_decide_eq_true (by first | (with_reducible assumption) | assumption)
                  obtain ⟨ad103, A103_7, c103_7, e103, hx103_0, hx103_1, hx103_2, hx103_3, hx103_4, hx103_5, hx103_6, hx103_7, hl103_7, hi103_7⟩ := at_T28 HR0.out x3_1 p103 q103
                  obtain rfl : ad101 = ad103 := (by injection e103)
                  have HR103_7 := Aside0.mk hi103_7
                  have HC103_7 := Aside0.mk hl103_7
                  clear hi103_7 hl103_7
                  replace p103 := eq_true p103
                  replace q103 := eq_true q103
                  have ea_ := Option.some.inj (hx101_7.symm.trans hx103_7)
                  injection ea_ with ea_ en_ ec_
                  subst ea_
                  subst ec_
                  clear en_
                  go_wp2
                  go_ret
                  exact ⟨by first | rfl | (simp; done) | (simp [*]; done), by repeat (first | exact Drawn0.refl _ | apply Drawn0.step)⟩
                · rw [if_neg c7] at H
                  have c7b0 : decide (100 < (((rd_T28 l0 x3_1).f7).length : Int)) = false := decide_eq_false c7
                  have c7b1 : decide (100 < ((rd_T28 l0 x3_1).f7).length) = false := decide_eq_false (by omega)
                  clear c7
                  have H' := Aside0.mk H
                  clear H
                  have p101 : 0 ≤ (x3_1 : Int) := of_decide_eq_true (by first | (with_reducible assumption) | assumption)
                  have q101 : x3_1 < (l0.length : Int) := of_decide_eq_true (by first | (with_reducible assumption) | assumption)
                  obtain ⟨ad101, A101_7, c101_7, e101, hx101_0, hx101_1, hx101_2, hx101_3, hx101_4, hx101_5, hx101_6, hx101_7, hl101_7, hi101_7⟩ := at_T28 HR0.out x3_1 p101 q101
                  cases e101
                  have HR101_7 := Aside0.mk hi101_7
                  have HC101_7 := Aside0.mk hl101_7
                  clear hi101_7 hl101_7
                  replace p101 := eq_true p101
                  replace q101 := eq_true q101
                  have p102 : 0 ≤ (x3_1 : Int) := of_decide_eq_true (by first | (with_reducible assumption) | assumption)
                  have q102 : x3_1 < (l0.length : Int) := of_decide_eq_true (by first | (with_reducible assumption) | assumption)
                  obtain ⟨ad102, A102_7, c102_7, e102, hx102_0, hx102_1, hx102_2, hx102_3, hx102_4, hx102_5, hx102_6, hx102_7, hl102_7, hi102_7⟩ := at_T28 HR0.out x3_1 p102 q102
                  obtain rfl : ad101 = ad102 := (by injection e102)
                  have HR102_7 := Aside0.mk hi102_7
                  have HC102_7 := Aside0.mk hl102_7
                  clear hi102_7 hl102_7
                  replace p102 := eq_true p102
                  replace q102 := eq_true q102
                  have ea_ := Option.some.inj (hx101_7.symm.trans hx102_7)
                  injection ea_ with ea_ en_ ec_
                  subst ea_
                  subst ec_
                  clear en_
                  have p103 : 0 ≤ (x3_1 : Int) := of_decide_eq_true (by first | (with_reducible assumption) | assumption)
                  have q103 : x3_1 < (l0.length : Int) := of_decide_eq_true (by first | (with_reducible assumption) | assumption)
                  obtain ⟨ad103, A103_7, c103_7, e103, hx103_0, hx103_1, hx103_2, hx103_3, hx103_4, hx103_5, hx103_6, hx103_7, hl103_7, hi103_7⟩ := at_T28 HR0.out x3_1 p103 q103
                  obtain rfl : ad101 = ad103 := (by injection e103)
                  have HR103_7 := Aside0.mk hi103_7
                  have HC103_7 := Aside0.mk hl103_7
                  clear hi103_7 hl103_7
                  replace p103 := eq_true p103
                  replace q103 := eq_true q103
                  have ea_ := Option.some.inj (hx101_7.symm.trans hx103_7)
                  injection ea_ with ea_ en_ ec_
                  subst ea_
                  subst ec_
                  clear en_
                  go_wp2
                  go_roundg k1
                  case measure => have := HK1.out; omega
                  case rel => exact ⟨(wrap64 (x3_1 + 1)), (by first | rfl | (simp; done) | (simp [*]; done)), H', ⟨by have := HK1.out; omega⟩, by repeat (first | exact Drawn0.refl _ | apply Drawn0.step)⟩
          · rw [if_neg c4] at H
            exact absurd H (by simp)
        · rw [if_neg c3] at H
          have c3b0 : decide (x3_1 < (l0.length : Int)) = false := decide_eq_false c3
          clear c3
          obtain rfl := Option.some.inj H
          go_wp2
          go_ret
          exact ⟨by first | rfl | (simp; done) | (simp [*]; done), by repeat (first | exact Drawn0.refl _ | apply Drawn0.step)⟩
-- NOT PRINTED: function 33 (op_forms)

end Go.Proofs.YtdcknajlioalgaaDoor.QD
namespace Go.Proofs.YtdcknajlioalgaaDoor.QD
open Go.RowKit Go.Proofs.YtdcknajlioalgaaDoorW.PrintWords Go.Proofs.YtdcknajlioalgaaDoorW.PrintLast Go.Proofs.YtdcknajlioalgaaDoorW.PrintMore
attribute [local go_sem] max2_int min2_int max_two min_two max_three min_three max_four min_four   -- for this text's walks alone
set_option linter.unusedVariables false
set_option linter.unusedSimpArgs false

/-! ### strings_Split: function 39 -/
/-- strings.Split at a separator of one byte. -/
def splitO (c : UInt8) (s : ByteArray) : List ByteArray := Lib.splitB ⟨#[c]⟩ 0 (Lib.countB s ⟨#[c]⟩) s
theorem splitO_len (c : UInt8) (s : ByteArray) : (splitO c s).length = Lib.countB s ⟨#[c]⟩ + 1 := Lib.splitB_all ⟨#[c]⟩ (Nat.le_refl _) 0 _ s rfl
theorem Split_one (s : ByteArray) (c : UInt8) (w : World) (hs : s.size < 4294967281) :
    Calls Tryd.prog 39 #[.string s, .string ⟨#[c]⟩] w fun e w' => e = .returned (.slice (some ⟨w.heap.size, 0, none⟩) (splitO c s).length (splitO c s).length) ∧ w' = w.alloc (.cells ((splitO c s).map Value.string).toArray 9) := by
  have hle := Lib.countB_le ⟨#[c]⟩ (Nat.le_refl 1) s.size s (Nat.le_refl _)
  have hlen : (Lib.splitB ⟨#[c]⟩ 0 (Lib.countB s ⟨#[c]⟩) s).length = Lib.countB s ⟨#[c]⟩ + 1 := splitO_len c s
  have hcnt : ∀ w, Calls Tryd.prog 97 #[.string s, .string ⟨#[c]⟩] w fun e w' => e = .returned (.int .i64 (Lib.countB s ⟨#[c]⟩)) ∧ w' = w := fun w =>
    (Tryd.strings_Count_one s c w).mono fun e w' ⟨he, hw⟩ => ⟨by
      rw [he]
      show _ = Ending.returned (Value.int .i64 ((Lib.count s.data.toList [c] : Nat) : Int))
      rw [Lib.count_one]
      rfl, hw⟩
  have cc := Any.strings_genSplit_core Tryd.lays221 (by kernel_rfl) s ⟨#[c]⟩ 0 (-1) (Lib.countB s ⟨#[c]⟩ + 1) w hs (Nat.le_refl _) (Nat.zero_le _)
    (fun x cs hx => (Tryd.strings_Index_one x c _).mono fun e w' ⟨he, hw⟩ => ⟨by
      rw [he]
      show _ = Ending.returned (Value.int .i64 (Lib.index x.data.toList [c]))
      rw [Lib.index_one], hw⟩)
    (hcnt w) (by decide) (by decide) (by rw [if_pos (by decide)]; omega)
  rw [Nat.add_sub_cancel, hlen] at cc
  have e2 : Lib.cellsOf (Lib.splitB ⟨#[c]⟩ 0 (Lib.countB s ⟨#[c]⟩) s) (Lib.countB s ⟨#[c]⟩ + 1) = ((Lib.splitB ⟨#[c]⟩ 0 (Lib.countB s ⟨#[c]⟩) s).map Value.string).toArray := by rw [← hlen]; exact Lib.cellsOf_full _
  rw [e2] at cc
  have CC := Aside0.mk cc
  have HL := Aside0.mk (splitO_len c s)
  clear cc hlen e2 hcnt
  go_enter Tryd.func39, Tryd.ntmps39
  go_wp2_with (fail)
  refine CC.out.mono ?_
  rintro e w1 ⟨rfl, rfl⟩
  go_wp2_with (fail)
  go_ret
  exact ⟨by rw [HL.out]; rfl, rfl⟩
end Go.Proofs.YtdcknajlioalgaaDoor.QD
namespace Go.Proofs.YtdcknajlioalgaaDoor.QD
open Go.RowKit Go.Proofs.YtdcknajlioalgaaDoorW.PrintWords Go.Proofs.YtdcknajlioalgaaDoorW.PrintLast Go.Proofs.YtdcknajlioalgaaDoorW.PrintMore
attribute [local go_sem] max2_int min2_int max_two min_two max_three min_three max_four min_four   -- for this text's walks alone
set_option linter.unusedVariables false
set_option linter.unusedSimpArgs false

/-! ### num_Print: function 76 -/
open Go.Lib
def num_Print.f (n : Int) : Option ByteArray := if n < 0 then some (⟨#[]⟩ : ByteArray) else if n ≤ 9223372036854775807 then some ⟨(Lib.itoa n).toArray⟩ else none
theorem num_Print.calls (a0 : Int) (r : ByteArray) (w : World) (HLD : Laid w) (h : num_Print.f a0 = some r) :
    Calls Tryd.prog 76 #[.int .i64 a0] w fun e w' => e = .returned (.string r) ∧ Below w.heap.size w w' := by
  unfold num_Print.f at h
  by_cases c : a0 < 0
  · rw [if_pos c] at h
    obtain rfl := Option.some.inj h
    have cb : decide (a0 < 0) = true := decide_eq_true c
    go_enter Tryd.func76, Tryd.ntmps76
    go_wp2
    go_ret
    exact ⟨rfl, Below.refl _ _⟩
  · rw [if_neg c] at h
    by_cases c2 : a0 ≤ 9223372036854775807
    · rw [if_pos c2] at h
      obtain rfl := Option.some.inj h
      have cb : decide (a0 < 0) = false := decide_eq_false c
      have HI := Aside0.mk (Tryd.strconv_Itoa a0 (by omega) c2 w HLD.p)
      go_enter Tryd.func76, Tryd.ntmps76
      go_wp2_with (fail)
      refine HI.out.mono ?_
      rintro e w' ⟨rfl, k, os, rfl⟩
      go_wp2_with (fail)
      go_ret
      exact ⟨rfl, below_grow _ w (Nat.le_refl _) k os⟩
    · rw [if_neg c2] at h; cases h
end Go.Proofs.YtdcknajlioalgaaDoor.QD
namespace Go.Proofs.YtdcknajlioalgaaDoor.QD
open Go.RowKit Go.Proofs.YtdcknajlioalgaaDoorW.PrintWords Go.Proofs.YtdcknajlioalgaaDoorW.PrintLast Go.Proofs.YtdcknajlioalgaaDoorW.PrintMore
attribute [local go_sem] max2_int min2_int max_two min_two max_three min_three max_four min_four   -- for this text's walks alone
set_option linter.unusedVariables false
set_option linter.unusedSimpArgs false

/-! ### op_count: function 47 -/
def op_count.f (a0 : Int) : Option (ByteArray) := if a0 > 1073741824 then (some (⟨#[]⟩ : ByteArray)) else ((num_Print.f a0).bind fun t105 => (some t105))
set_option maxHeartbeats 8000000 in
set_option maxRecDepth 100000 in
theorem op_count.calls (a0 : Int) (r : ByteArray) (w : World) (HLD : Laid w) (h : op_count.f a0 = some r) :
    Calls Tryd.prog 47 #[.int .i64 a0] w fun e w' => e = .returned (.string r) ∧ Below w.heap.size w w' := by
  have HB := Aside0.mk (Below.refl w.heap.size w)
  have H : (if a0 > 1073741824 then (some (⟨#[]⟩ : ByteArray)) else ((num_Print.f a0).bind fun t105 => (some t105))) = some r := h
  clear h
  by_cases c2 : a0 > 1073741824
  · rw [if_pos c2] at H
    have c2b0 : decide (1073741824 < a0) = true := decide_eq_true c2
    clear c2
    obtain rfl := Option.some.inj H
    go_enter Tryd.func47, Tryd.ntmps47
    go_wp2
    go_ret
    exact ⟨by first | rfl | (simp [errW_none, errW_some] <;> rfl) | (simp [*, errW_none, errW_some] <;> rfl), by repeat (first | (with_reducible first | exact HB.out | apply below_alloc | apply pw_below_drewN | apply below_drew1) | exact HB.out)⟩
  · rw [if_neg c2] at H
    have c2b0 : decide (1073741824 < a0) = false := decide_eq_false c2
    clear c2
    replace H := Option.bind_eq_some_iff.mp H
    obtain ⟨t105, A30, H⟩ := H
    replace H : (some t105) = some r := H
    have A3 := Aside0.mk A30
    clear A30
    obtain rfl := Option.some.inj H
    go_enter Tryd.func47, Tryd.ntmps47
    go_wp2_with (first | ((with_reducible refine gate_callee (f := 76) rfl ?_); refine goesL_ (some 6) rfl rfl Tryd.func76 (by kernel_rfl) rfl #[.int .i64 a0] rfl (by (try simp only [List.map_toArray, List.map_cons, List.map_nil]); first | done | rfl | (simp only [List.length_drop, List.length_take]; rfl)) ?_; (with_reducible refine (num_Print.calls a0 t105 _ ?side1 A3.out).mono ?_); (case side1 => exact Laid.below HLD (by repeat (first | (with_reducible first | exact HB.out | apply below_alloc | apply pw_below_drewN | apply below_drew1) | exact HB.out))); rintro e w4 ⟨rfl, hb⟩; refine ⟨_, rfl, ?_⟩; have n0_ := Aside0.mk (below_step (by repeat (first | (with_reducible first | exact HB.out | apply below_alloc | apply pw_below_drewN | apply below_drew1) | exact HB.out)) hb); clear HB; have HB := n0_; clear n0_; (try clear hb); (try clear hb2); (try clear hk); (try clear hi)))
    go_ret
    exact ⟨by first | rfl | (simp [errW_none, errW_some] <;> rfl) | (simp [*, errW_none, errW_some] <;> rfl), by repeat (first | (with_reducible first | exact HB.out | apply below_alloc | apply pw_below_drewN | apply below_drew1) | exact HB.out)⟩
/-! ### utf_Upper: function 112 -/
def utf_Upper.f (a0 : Int) : Option (Bool) := if 65 ≤ a0 then (if a0 ≤ 90 then (some true) else (if 192 ≤ a0 then (if a0 ≤ 222 then (some (a0 != 215)) else (some false)) else (some false))) else (if 192 ≤ a0 then (if a0 ≤ 222 then (some (a0 != 215)) else (some false)) else (some false))
set_option maxHeartbeats 8000000 in
set_option maxRecDepth 100000 in
theorem utf_Upper.calls (a0 : Int) (r : Bool) (w : World) (h : utf_Upper.f a0 = some r) :
    Calls Tryd.prog 112 #[.int .i32 a0] w fun e w' => e = .returned (.bool r) ∧ Drawn0 w w' := by
  have H : (if 65 ≤ a0 then (if a0 ≤ 90 then (some true) else (if 192 ≤ a0 then (if a0 ≤ 222 then (some (a0 != 215)) else (some false)) else (some false))) else (if 192 ≤ a0 then (if a0 ≤ 222 then (some (a0 != 215)) else (some false)) else (some false))) = some r := h
  clear h
  by_cases c2 : 65 ≤ a0
  · rw [if_pos c2] at H
    have c2b0 : decide (65 ≤ a0) = true := decide_eq_true c2
    clear c2
    by_cases c3 : a0 ≤ 90
    · rw [if_pos c3] at H
      have c3b0 : decide (a0 ≤ 90) = true := decide_eq_true c3
      clear c3
      obtain rfl := Option.some.inj H
      go_enter Tryd.func112, Tryd.ntmps112
      go_wp2
      go_ret
      exact ⟨by first | rfl | (simp; done) | (simp [*]; done), by repeat (first | exact Drawn0.refl _ | apply Drawn0.step)⟩
    · rw [if_neg c3] at H
      have c3b0 : decide (a0 ≤ 90) = false := decide_eq_false c3
      clear c3
      by_cases c4 : 192 ≤ a0
      · rw [if_pos c4] at H
        have c4b0 : decide (192 ≤ a0) = true := decide_eq_true c4
        clear c4
        by_cases c5 : a0 ≤ 222
        · rw [if_pos c5] at H
          have c5b0 : decide (a0 ≤ 222) = true := decide_eq_true c5
          clear c5
          obtain rfl := Option.some.inj H
          go_enter Tryd.func112, Tryd.ntmps112
          go_wp2
          go_ret
          exact ⟨by first | rfl | (simp; done) | (simp [*]; done), by repeat (first | exact Drawn0.refl _ | apply Drawn0.step)⟩
        · rw [if_neg c5] at H
          have c5b0 : decide (a0 ≤ 222) = false := decide_eq_false c5
          clear c5
          obtain rfl := Option.some.inj H
          go_enter Tryd.func112, Tryd.ntmps112
          go_wp2
          go_ret
          exact ⟨by first | rfl | (simp; done) | (simp [*]; done), by repeat (first | exact Drawn0.refl _ | apply Drawn0.step)⟩
      · rw [if_neg c4] at H
        have c4b0 : decide (192 ≤ a0) = false := decide_eq_false c4
        clear c4
        obtain rfl := Option.some.inj H
        go_enter Tryd.func112, Tryd.ntmps112
        go_wp2
        go_ret
        exact ⟨by first | rfl | (simp; done) | (simp [*]; done), by repeat (first | exact Drawn0.refl _ | apply Drawn0.step)⟩
  · rw [if_neg c2] at H
    have c2b0 : decide (65 ≤ a0) = false := decide_eq_false c2
    clear c2
    by_cases c6 : 192 ≤ a0
    · rw [if_pos c6] at H
      have c6b0 : decide (192 ≤ a0) = true := decide_eq_true c6
      clear c6
      by_cases c7 : a0 ≤ 222
      · rw [if_pos c7] at H
        have c7b0 : decide (a0 ≤ 222) = true := decide_eq_true c7
        clear c7
        obtain rfl := Option.some.inj H
        go_enter Tryd.func112, Tryd.ntmps112
        go_wp2
        go_ret
        exact ⟨by first | rfl | (simp; done) | (simp [*]; done), by repeat (first | exact Drawn0.refl _ | apply Drawn0.step)⟩
      · rw [if_neg c7] at H
        have c7b0 : decide (a0 ≤ 222) = false := decide_eq_false c7
        clear c7
        obtain rfl := Option.some.inj H
        go_enter Tryd.func112, Tryd.ntmps112
        go_wp2
        go_ret
        exact ⟨by first | rfl | (simp; done) | (simp [*]; done), by repeat (first | exact Drawn0.refl _ | apply Drawn0.step)⟩
    · rw [if_neg c6] at H
      have c6b0 : decide (192 ≤ a0) = false := decide_eq_false c6
      clear c6
      obtain rfl := Option.some.inj H
      go_enter Tryd.func112, Tryd.ntmps112
      go_wp2
      go_ret
      exact ⟨by first | rfl | (simp; done) | (simp [*]; done), by repeat (first | exact Drawn0.refl _ | apply Drawn0.step)⟩
/-! ### utf_Letter: function 111 -/
def utf_Letter.f (a0 : Int) : Option (Bool) := (utf_Upper.f a0).bind fun t106 => (if t106 = true then (some true) else (if a0 = 247 then (some false) else (if 97 ≤ a0 then (if a0 ≤ 122 then (some true) else (if 223 ≤ a0 then (some (decide (a0 ≤ 255))) else (some false))) else (if 223 ≤ a0 then (some (decide (a0 ≤ 255))) else (some false)))))
set_option maxHeartbeats 8000000 in
set_option maxRecDepth 100000 in
theorem utf_Letter.calls (a0 : Int) (r : Bool) (w : World) (h : utf_Letter.f a0 = some r) :
    Calls Tryd.prog 111 #[.int .i32 a0] w fun e w' => e = .returned (.bool r) ∧ Drawn0 w w' := by
  have H : ((utf_Upper.f a0).bind fun t106 => (if t106 = true then (some true) else (if a0 = 247 then (some false) else (if 97 ≤ a0 then (if a0 ≤ 122 then (some true) else (if 223 ≤ a0 then (some (decide (a0 ≤ 255))) else (some false))) else (if 223 ≤ a0 then (some (decide (a0 ≤ 255))) else (some false)))))) = some r := h
  clear h
  replace H := Option.bind_eq_some_iff.mp H
  obtain ⟨t106, A20, H⟩ := H
  replace H : (if t106 = true then (some true) else (if a0 = 247 then (some false) else (if 97 ≤ a0 then (if a0 ≤ 122 then (some true) else (if 223 ≤ a0 then (some (decide (a0 ≤ 255))) else (some false))) else (if 223 ≤ a0 then (some (decide (a0 ≤ 255))) else (some false))))) = some r := H
  have A2 := Aside0.mk A20
  clear A20
  by_cases c3 : t106 = true
  · subst c3
    have H1 : (some true) = some r := by rw [if_pos rfl] at H; exact H
    clear H
    have H := H1
    clear H1
    obtain rfl := Option.some.inj H
    go_enter Tryd.func111, Tryd.ntmps111
    go_wp2_with (first | ((with_reducible refine gate_callee (f := 112) rfl ?_); refine goesL_ (some 5) rfl rfl Tryd.func112 (by kernel_rfl) rfl #[.int .i32 a0] rfl (by (try simp only [List.map_toArray, List.map_cons, List.map_nil]); first | done | rfl | (simp only [List.length_drop, List.length_take]; rfl)) ?_; (with_reducible refine (utf_Upper.calls a0 true _ A2.out).mono ?_); rintro e w' ⟨rfl, ⟨nd, rfl⟩⟩; refine ⟨_, rfl, ?_⟩))
    go_ret
    exact ⟨by first | rfl | (simp; done) | (simp [*]; done), by repeat (first | exact Drawn0.refl _ | apply Drawn0.step)⟩
  · replace c3 := Bool.eq_false_iff.mpr c3
    subst c3
    have H1 : (if a0 = 247 then (some false) else (if 97 ≤ a0 then (if a0 ≤ 122 then (some true) else (if 223 ≤ a0 then (some (decide (a0 ≤ 255))) else (some false))) else (if 223 ≤ a0 then (some (decide (a0 ≤ 255))) else (some false)))) = some r := by rw [if_neg (show ¬ (false = true) by decide)] at H; exact H
    clear H
    have H := H1
    clear H1
    by_cases c4 : a0 = 247
    · rw [if_pos c4] at H
      have c4b0 : (a0 == 247) = true := beq_iff_eq.mpr c4
      have c4b1 : (a0 != 247) = false := bne_eq_false_iff_eq.mpr c4
      clear c4
      obtain rfl := Option.some.inj H
      go_enter Tryd.func111, Tryd.ntmps111
      go_wp2_with (first | ((with_reducible refine gate_callee (f := 112) rfl ?_); refine goesL_ (some 5) rfl rfl Tryd.func112 (by kernel_rfl) rfl #[.int .i32 a0] rfl (by (try simp only [List.map_toArray, List.map_cons, List.map_nil]); first | done | rfl | (simp only [List.length_drop, List.length_take]; rfl)) ?_; (with_reducible refine (utf_Upper.calls a0 false _ A2.out).mono ?_); rintro e w' ⟨rfl, ⟨nd, rfl⟩⟩; refine ⟨_, rfl, ?_⟩))
      go_ret
      exact ⟨by first | rfl | (simp; done) | (simp [*]; done), by repeat (first | exact Drawn0.refl _ | apply Drawn0.step)⟩
    · rw [if_neg c4] at H
      have c4b0 : (a0 == 247) = false := beq_eq_false_iff_ne.mpr c4
      have c4b1 : (a0 != 247) = true := bne_iff_ne.mpr c4
      by_cases c5 : 97 ≤ a0
      · rw [if_pos c5] at H
        have c5b0 : decide (97 ≤ a0) = true := decide_eq_true c5
        clear c5
        by_cases c6 : a0 ≤ 122
        · rw [if_pos c6] at H
          have c6b0 : decide (a0 ≤ 122) = true := decide_eq_true c6
          clear c6
          obtain rfl := Option.some.inj H
          go_enter Tryd.func111, Tryd.ntmps111
          go_wp2_with (first | ((with_reducible refine gate_callee (f := 112) rfl ?_); refine goesL_ (some 5) rfl rfl Tryd.func112 (by kernel_rfl) rfl #[.int .i32 a0] rfl (by (try simp only [List.map_toArray, List.map_cons, List.map_nil]); first | done | rfl | (simp only [List.length_drop, List.length_take]; rfl)) ?_; (with_reducible refine (utf_Upper.calls a0 false _ A2.out).mono ?_); rintro e w' ⟨rfl, ⟨nd, rfl⟩⟩; refine ⟨_, rfl, ?_⟩))
          go_ret
          exact ⟨by first | rfl | (simp; done) | (simp [*]; done), by repeat (first | exact Drawn0.refl _ | apply Drawn0.step)⟩
        · rw [if_neg c6] at H
          have c6b0 : decide (a0 ≤ 122) = false := decide_eq_false c6
          clear c6
          by_cases c7 : 223 ≤ a0
          · rw [if_pos c7] at H
            have c7b0 : decide (223 ≤ a0) = true := decide_eq_true c7
            clear c7
            obtain rfl := Option.some.inj H
            go_enter Tryd.func111, Tryd.ntmps111
            go_wp2_with (first | ((with_reducible refine gate_callee (f := 112) rfl ?_); refine goesL_ (some 5) rfl rfl Tryd.func112 (by kernel_rfl) rfl #[.int .i32 a0] rfl (by (try simp only [List.map_toArray, List.map_cons, List.map_nil]); first | done | rfl | (simp only [List.length_drop, List.length_take]; rfl)) ?_; (with_reducible refine (utf_Upper.calls a0 false _ A2.out).mono ?_); rintro e w' ⟨rfl, ⟨nd, rfl⟩⟩; refine ⟨_, rfl, ?_⟩))
            go_ret
            exact ⟨by first | rfl | (simp; done) | (simp [*]; done), by repeat (first | exact Drawn0.refl _ | apply Drawn0.step)⟩
          · rw [if_neg c7] at H
            have c7b0 : decide (223 ≤ a0) = false := decide_eq_false c7
            clear c7
            obtain rfl := Option.some.inj H
            go_enter Tryd.func111, Tryd.ntmps111
            go_wp2_with (first | ((with_reducible refine gate_callee (f := 112) rfl ?_); refine goesL_ (some 5) rfl rfl Tryd.func112 (by kernel_rfl) rfl #[.int .i32 a0] rfl (by (try simp only [List.map_toArray, List.map_cons, List.map_nil]); first | done | rfl | (simp only [List.length_drop, List.length_take]; rfl)) ?_; (with_reducible refine (utf_Upper.calls a0 false _ A2.out).mono ?_); rintro e w' ⟨rfl, ⟨nd, rfl⟩⟩; refine ⟨_, rfl, ?_⟩))
            go_ret
            exact ⟨by first | rfl | (simp; done) | (simp [*]; done), by repeat (first | exact Drawn0.refl _ | apply Drawn0.step)⟩
      · rw [if_neg c5] at H
        have c5b0 : decide (97 ≤ a0) = false := decide_eq_false c5
        clear c5
        by_cases c8 : 223 ≤ a0
        · rw [if_pos c8] at H
          have c8b0 : decide (223 ≤ a0) = true := decide_eq_true c8
          clear c8
          obtain rfl := Option.some.inj H
          go_enter Tryd.func111, Tryd.ntmps111
          go_wp2_with (first | ((with_reducible refine gate_callee (f := 112) rfl ?_); refine goesL_ (some 5) rfl rfl Tryd.func112 (by kernel_rfl) rfl #[.int .i32 a0] rfl (by (try simp only [List.map_toArray, List.map_cons, List.map_nil]); first | done | rfl | (simp only [List.length_drop, List.length_take]; rfl)) ?_; (with_reducible refine (utf_Upper.calls a0 false _ A2.out).mono ?_); rintro e w' ⟨rfl, ⟨nd, rfl⟩⟩; refine ⟨_, rfl, ?_⟩))
          go_ret
          exact ⟨by first | rfl | (simp; done) | (simp [*]; done), by repeat (first | exact Drawn0.refl _ | apply Drawn0.step)⟩
        · rw [if_neg c8] at H
          have c8b0 : decide (223 ≤ a0) = false := decide_eq_false c8
          clear c8
          obtain rfl := Option.some.inj H
          go_enter Tryd.func111, Tryd.ntmps111
          go_wp2_with (first | ((with_reducible refine gate_callee (f := 112) rfl ?_); refine goesL_ (some 5) rfl rfl Tryd.func112 (by kernel_rfl) rfl #[.int .i32 a0] rfl (by (try simp only [List.map_toArray, List.map_cons, List.map_nil]); first | done | rfl | (simp only [List.length_drop, List.length_take]; rfl)) ?_; (with_reducible refine (utf_Upper.calls a0 false _ A2.out).mono ?_); rintro e w' ⟨rfl, ⟨nd, rfl⟩⟩; refine ⟨_, rfl, ?_⟩))
          go_ret
          exact ⟨by first | rfl | (simp; done) | (simp [*]; done), by repeat (first | exact Drawn0.refl _ | apply Drawn0.step)⟩
/-! ### name_small: function 100 -/
def name_small.f (a0 : Int) : Option (Bool) := if 48 ≤ a0 then (if a0 ≤ 57 then (some true) else ((utf_Letter.f a0).bind fun t107 => (if t107 = true then ((utf_Upper.f a0).bind fun t108 => (some (!t108))) else (some false)))) else ((utf_Letter.f a0).bind fun t109 => (if t109 = true then ((utf_Upper.f a0).bind fun t110 => (some (!t110))) else (some false)))
set_option maxHeartbeats 8000000 in
set_option maxRecDepth 100000 in
theorem name_small.calls (a0 : Int) (r : Bool) (w : World) (h : name_small.f a0 = some r) :
    Calls Tryd.prog 100 #[.int .i32 a0] w fun e w' => e = .returned (.bool r) ∧ Drawn0 w w' := by
  have H : (if 48 ≤ a0 then (if a0 ≤ 57 then (some true) else ((utf_Letter.f a0).bind fun t107 => (if t107 = true then ((utf_Upper.f a0).bind fun t108 => (some (!t108))) else (some false)))) else ((utf_Letter.f a0).bind fun t109 => (if t109 = true then ((utf_Upper.f a0).bind fun t110 => (some (!t110))) else (some false)))) = some r := h
  clear h
  by_cases c2 : 48 ≤ a0
  · rw [if_pos c2] at H
    have c2b0 : decide (48 ≤ a0) = true := decide_eq_true c2
    clear c2
    by_cases c3 : a0 ≤ 57
    · rw [if_pos c3] at H
      have c3b0 : decide (a0 ≤ 57) = true := decide_eq_true c3
      clear c3
      obtain rfl := Option.some.inj H
      go_enter Tryd.func100, Tryd.ntmps100
      go_wp2
      go_ret
      exact ⟨by first | rfl | (simp; done) | (simp [*]; done), by repeat (first | exact Drawn0.refl _ | apply Drawn0.step)⟩
    · rw [if_neg c3] at H
      have c3b0 : decide (a0 ≤ 57) = false := decide_eq_false c3
      clear c3
      replace H := Option.bind_eq_some_iff.mp H
      obtain ⟨t107, A40, H⟩ := H
      replace H : (if t107 = true then ((utf_Upper.f a0).bind fun t108 => (some (!t108))) else (some false)) = some r := H
      have A4 := Aside0.mk A40
      clear A40
      by_cases c5 : t107 = true
      · subst c5
        have H1 : ((utf_Upper.f a0).bind fun t108 => (some (!t108))) = some r := by rw [if_pos rfl] at H; exact H
        clear H
        have H := H1
        clear H1
        replace H := Option.bind_eq_some_iff.mp H
        obtain ⟨t108, A60, H⟩ := H
        replace H : (some (!t108)) = some r := H
        have A6 := Aside0.mk A60
        clear A60
        obtain rfl := Option.some.inj H
        go_enter Tryd.func100, Tryd.ntmps100
        go_wp2_with (first | (go_at_call 111; (with_reducible refine (utf_Letter.calls a0 true _ A4.out).mono ?_); rintro e w' ⟨rfl, ⟨nd, rfl⟩⟩) | (go_at_call 112; (with_reducible refine (utf_Upper.calls a0 t108 _ A6.out).mono ?_); rintro e w' ⟨rfl, ⟨nd, rfl⟩⟩))
        go_ret
        exact ⟨by first | rfl | (simp; done) | (simp [*]; done), by repeat (first | exact Drawn0.refl _ | apply Drawn0.step)⟩
      · replace c5 := Bool.eq_false_iff.mpr c5
        subst c5
        have H1 : (some false) = some r := by rw [if_neg (show ¬ (false = true) by decide)] at H; exact H
        clear H
        have H := H1
        clear H1
        obtain rfl := Option.some.inj H
        go_enter Tryd.func100, Tryd.ntmps100
        go_wp2_with (first | (go_at_call 111; (with_reducible refine (utf_Letter.calls a0 false _ A4.out).mono ?_); rintro e w' ⟨rfl, ⟨nd, rfl⟩⟩))
        go_ret
        exact ⟨by first | rfl | (simp; done) | (simp [*]; done), by repeat (first | exact Drawn0.refl _ | apply Drawn0.step)⟩
  · rw [if_neg c2] at H
    have c2b0 : decide (48 ≤ a0) = false := decide_eq_false c2
    clear c2
    replace H := Option.bind_eq_some_iff.mp H
    obtain ⟨t109, A70, H⟩ := H
    replace H : (if t109 = true then ((utf_Upper.f a0).bind fun t110 => (some (!t110))) else (some false)) = some r := H
    have A7 := Aside0.mk A70
    clear A70
    by_cases c8 : t109 = true
    · subst c8
      have H1 : ((utf_Upper.f a0).bind fun t110 => (some (!t110))) = some r := by rw [if_pos rfl] at H; exact H
      clear H
      have H := H1
      clear H1
      replace H := Option.bind_eq_some_iff.mp H
      obtain ⟨t110, A90, H⟩ := H
      replace H : (some (!t110)) = some r := H
      have A9 := Aside0.mk A90
      clear A90
      obtain rfl := Option.some.inj H
      go_enter Tryd.func100, Tryd.ntmps100
      go_wp2_with (first | (go_at_call 111; (with_reducible refine (utf_Letter.calls a0 true _ A7.out).mono ?_); rintro e w' ⟨rfl, ⟨nd, rfl⟩⟩) | (go_at_call 112; (with_reducible refine (utf_Upper.calls a0 t110 _ A9.out).mono ?_); rintro e w' ⟨rfl, ⟨nd, rfl⟩⟩))
      go_ret
      exact ⟨by first | rfl | (simp; done) | (simp [*]; done), by repeat (first | exact Drawn0.refl _ | apply Drawn0.step)⟩
    · replace c8 := Bool.eq_false_iff.mpr c8
      subst c8
      have H1 : (some false) = some r := by rw [if_neg (show ¬ (false = true) by decide)] at H; exact H
      clear H
      have H := H1
      clear H1
      obtain rfl := Option.some.inj H
      go_enter Tryd.func100, Tryd.ntmps100
      go_wp2_with (first | (go_at_call 111; (with_reducible refine (utf_Letter.calls a0 false _ A7.out).mono ?_); rintro e w' ⟨rfl, ⟨nd, rfl⟩⟩))
      go_ret
      exact ⟨by first | rfl | (simp; done) | (simp [*]; done), by repeat (first | exact Drawn0.refl _ | apply Drawn0.step)⟩
end Go.Proofs.YtdcknajlioalgaaDoor.QD
namespace Go.Proofs.YtdcknajlioalgaaDoor.QD
open Go.RowKit Go.Proofs.YtdcknajlioalgaaDoorW.PrintWords Go.Proofs.YtdcknajlioalgaaDoorW.PrintLast Go.Proofs.YtdcknajlioalgaaDoorW.PrintMore
attribute [local go_sem] max2_int min2_int max_two min_two max_three min_three max_four min_four   -- for this text's walks alone
set_option linter.unusedVariables false
set_option linter.unusedSimpArgs false

/-! ### name_Part: function 77 -/
def upperB (r : Int) : Bool := decide ((65 ≤ r ∧ r ≤ 90) ∨ (192 ≤ r ∧ r ≤ 222 ∧ r ≠ 215))
def letterB (r : Int) : Bool := decide ((65 ≤ r ∧ r ≤ 90) ∨ (97 ≤ r ∧ r ≤ 122) ∨ (192 ≤ r ∧ r ≤ 255 ∧ r ≠ 215 ∧ r ≠ 247))
def smallB (r : Int) : Bool := decide ((48 ≤ r ∧ r ≤ 57) ∨ (97 ≤ r ∧ r ≤ 122) ∨ (223 ≤ r ∧ r ≤ 255 ∧ r ≠ 247))
theorem utf_Upper_eq (r : Int) : utf_Upper.f r = some (upperB r) := by
  unfold utf_Upper.f upperB
  repeat' split
  all_goals (rw [Option.some.injEq, Bool.eq_iff_iff]; simp; omega)
theorem utf_Letter_eq (r : Int) : utf_Letter.f r = some (letterB r) := by
  unfold utf_Letter.f
  rw [utf_Upper_eq]
  simp only [Option.bind_some]
  unfold upperB letterB
  repeat' split
  all_goals (rw [Option.some.injEq, Bool.eq_iff_iff]; simp at *; omega)
theorem name_small_eq (r : Int) : name_small.f r = some (smallB r) := by
  unfold name_small.f
  rw [utf_Letter_eq, utf_Upper_eq]
  simp only [Option.bind_some]
  unfold upperB letterB smallB
  repeat' split
  all_goals (rw [Option.some.injEq, Bool.eq_iff_iff]; simp at *; omega)
def runesG (s : ByteArray) : Nat → Nat → List Int
  | 0, _ => []
  | b + 1, pos => if pos < s.size then ((Utf8.decode s pos).1 : Int) :: runesG s b (pos + (Utf8.decode s pos).2) else []
def runesOf (s : ByteArray) : List Int := runesG s s.size 0
theorem width_pos (s : ByteArray) (pos : Nat) (h : pos < s.size) : 1 ≤ (Utf8.decode s pos).2 := by
  by_cases ha : (s[pos]'h).toNat < 128
  · rw [decode_ascii s pos h ha]
    exact Nat.le_refl _
  · exact (decode_high s pos h (by omega)).2
theorem runesG_end (s : ByteArray) (b pos : Nat) (h : ¬ pos < s.size) : runesG s b pos = [] := by
  cases b with
  | zero => rfl
  | succ b => simp [runesG, h]
def name_Part.f (s : ByteArray) : Option Bool :=
  if s.size ≤ 140737488351232 then some ((runesOf s).all smallB && (decide (1 ≤ (runesOf s).length) && decide ((runesOf s).length ≤ 8))) else none
set_option maxHeartbeats 800000 in
theorem name_Part.calls (a0 : ByteArray) (r : Bool) (w : World) (h : name_Part.f a0 = some r) :
    Calls Tryd.prog 77 #[.string a0] w fun e w' => e = .returned (.bool r) ∧ Below w.heap.size w w' := by
  unfold name_Part.f at h
  split at h
  case isFalse => simp at h
  rename_i hs
  obtain rfl := Option.some.inj h
  clear h
  go_enter Tryd.func77, Tryd.ntmps77
  go_wp2
  go_loopw [3] (fun n wr => ∃ (pos b k : Nat), n = .int .i64 k ∧ wr.heap[w.heap.size]? = some (.stringIter a0 pos) ∧ Aside0 (Below w.heap.size w wr) ∧ a0.size ≤ pos + b ∧ k + b ≤ a0.size
      ∧ Aside0 (((runesOf a0).all smallB && (decide (1 ≤ (runesOf a0).length) && decide ((runesOf a0).length ≤ 8))) = ((runesG a0 b pos).all smallB && (decide (1 ≤ (runesG a0 b pos).length + k) && decide ((runesG a0 b pos).length + k ≤ 8)))))
    (fun _ wr => a0.size - wr.iterPos w.heap.size)
  case atStart => exact ⟨0, a0.size, 0, rfl, World.iter_heap _ _ _, ⟨(Below.refl _ _).alloc (Nat.le_refl _) _⟩, by omega, by omega, ⟨rfl⟩⟩
  case round =>
    obtain ⟨pos, b, k, rfl, hk, HB, hb, hkb, HC⟩ := hrel
    by_cases hp : pos < a0.size
    · have hnx : ∀ ty, (Instr.next (.pointer (some ⟨w.heap.size, 0, none⟩)) true ty).run Tryd.prog wr = _ := fun ty => Lib.run_next_any_at wr w.heap.size a0 pos ty hk hp
      have hw := width_pos a0 pos hp
      cases b with
      | zero => omega
      | succ b =>
      have HC2 := HC.out
      rw [runesG, if_pos hp] at HC2
      have hk2 := Lib.iterAt_heap wr w.heap.size a0 pos (pos + (Utf8.decode a0 pos).2) hk
      have hB2 := Lib.below_iterAt HB.out (Nat.le_refl _) a0 (pos + (Utf8.decode a0 pos).2)
      have HB2 := Aside0.mk hB2
      clear hB2 HC
      cases hsm : smallB ((Utf8.decode a0 pos).1 : Int) with
      | false =>
        have Hsm := Aside0.mk ((name_small_eq ((Utf8.decode a0 pos).1 : Int)).trans (congrArg some hsm))
        have HC := Aside0.mk HC2
        have Hs := Aside0.mk hsm
        clear HC2 hsm
        go_wp2_with (fail)
        refine (name_small.calls _ _ _ Hsm.out).mono ?_
        rintro e w' ⟨rfl, ⟨nd, rfl⟩⟩
        go_wp2_with (fail)
        go_ret
        exact ⟨by rw [HC.out]; simp [Hs.out], pw_below_drewN HB2.out _⟩
      | true =>
        have Hsm := Aside0.mk ((name_small_eq ((Utf8.decode a0 pos).1 : Int)).trans (congrArg some hsm))
        have HC := Aside0.mk HC2
        have Hs := Aside0.mk hsm
        clear HC2 hsm
        go_wp2_with (fail)
        refine (name_small.calls _ _ _ Hsm.out).mono ?_
        rintro e w' ⟨rfl, ⟨nd, rfl⟩⟩
        go_wp2_with (fail)
        go_roundw
        case rel => exact ⟨pos + (Utf8.decode a0 pos).2, b, k + 1, by go_num, by simpa using hk2, ⟨pw_below_drewN HB2.out _⟩, by omega, by omega, ⟨by rw [HC.out]; simp [Hs.out, Nat.add_assoc, Nat.add_comm 1 k]⟩⟩
        case measure =>
          have e1 : wr.iterPos w.heap.size = pos := by simp [World.iterPos, hk]
          have e2 : World.iterPos ((wr.iterAt w.heap.size a0 (pos + (Utf8.decode a0 pos).2)).drewN nd) w.heap.size = pos + (Utf8.decode a0 pos).2 := by simp [World.iterPos, hk2]
          rw [e1, e2]
          omega
    · have hnx : ∀ ty, (Instr.next (.pointer (some ⟨w.heap.size, 0, none⟩)) true ty).run Tryd.prog wr = _ := fun ty => Lib.run_next_end_at wr w.heap.size a0 pos ty hk hp
      have HC2 := HC.out
      rw [runesG_end _ _ _ hp] at HC2
      have HC := Aside0.mk HC2
      clear HC2
      by_cases h1 : 1 ≤ k
      · go_wp2
        go_ret
        exact ⟨by rw [HC.out]; simp [h1]; omega, HB.out⟩
      · go_wp2
        go_ret
        exact ⟨by rw [HC.out]; simp [h1], HB.out⟩
end Go.Proofs.YtdcknajlioalgaaDoor.QD
namespace Go.Proofs.YtdcknajlioalgaaDoor.QD
open Go.RowKit Go.Proofs.YtdcknajlioalgaaDoorW.PrintWords Go.Proofs.YtdcknajlioalgaaDoorW.PrintLast Go.Proofs.YtdcknajlioalgaaDoorW.PrintMore
attribute [local go_sem] max2_int min2_int max_two min_two max_three min_three max_four min_four   -- for this text's walks alone
set_option linter.unusedVariables false
set_option linter.unusedSimpArgs false

/-! ### op_part: function 49 -/
def op_part.f (a0 : ByteArray) : Option (ByteArray) := (name_Part.f a0).bind fun t111 => (if t111 = true then (some a0) else (some (⟨#[]⟩ : ByteArray)))
set_option maxHeartbeats 8000000 in
set_option maxRecDepth 100000 in
theorem op_part.calls (a0 : ByteArray) (r : ByteArray) (w : World) (h : op_part.f a0 = some r) :
    Calls Tryd.prog 49 #[.string a0] w fun e w' => e = .returned (.string r) ∧ Below w.heap.size w w' := by
  have HB := Aside0.mk (Below.refl w.heap.size w)
  have H : ((name_Part.f a0).bind fun t111 => (if t111 = true then (some a0) else (some (⟨#[]⟩ : ByteArray)))) = some r := h
  clear h
  replace H := Option.bind_eq_some_iff.mp H
  obtain ⟨t111, A20, H⟩ := H
  replace H : (if t111 = true then (some a0) else (some (⟨#[]⟩ : ByteArray))) = some r := H
  have A2 := Aside0.mk A20
  clear A20
  by_cases c3 : t111 = true
  · subst c3
    have H1 : (some a0) = some r := by rw [if_pos rfl] at H; exact H
    clear H
    have H := H1
    clear H1
    obtain rfl := Option.some.inj H
    go_enter Tryd.func49, Tryd.ntmps49
    go_wp2_with (first | ((with_reducible refine gate_callee (f := 77) rfl ?_); refine goesL_ (some 4) rfl rfl Tryd.func77 (by kernel_rfl) rfl #[.string a0] rfl (by (try simp only [List.map_toArray, List.map_cons, List.map_nil]); first | done | rfl | (simp only [List.length_drop, List.length_take]; rfl)) ?_; (with_reducible refine (name_Part.calls a0 true _ A2.out).mono ?_); rintro e w4 ⟨rfl, hb⟩; refine ⟨_, rfl, ?_⟩; have n0_ := Aside0.mk (below_step (by repeat (first | (with_reducible first | exact HB.out | apply below_alloc | apply pw_below_drewN | apply below_drew1) | exact HB.out)) hb); clear HB; have HB := n0_; clear n0_; (try clear hb); (try clear hb2); (try clear hk); (try clear hi)))
    go_ret
    exact ⟨by first | rfl | (simp [errW_none, errW_some] <;> rfl) | (simp [*, errW_none, errW_some] <;> rfl), by repeat (first | (with_reducible first | exact HB.out | apply below_alloc | apply pw_below_drewN | apply below_drew1) | exact HB.out)⟩
  · replace c3 := Bool.eq_false_iff.mpr c3
    subst c3
    have H1 : (some (⟨#[]⟩ : ByteArray)) = some r := by rw [if_neg (show ¬ (false = true) by decide)] at H; exact H
    clear H
    have H := H1
    clear H1
    obtain rfl := Option.some.inj H
    go_enter Tryd.func49, Tryd.ntmps49
    go_wp2_with (first | ((with_reducible refine gate_callee (f := 77) rfl ?_); refine goesL_ (some 4) rfl rfl Tryd.func77 (by kernel_rfl) rfl #[.string a0] rfl (by (try simp only [List.map_toArray, List.map_cons, List.map_nil]); first | done | rfl | (simp only [List.length_drop, List.length_take]; rfl)) ?_; (with_reducible refine (name_Part.calls a0 false _ A2.out).mono ?_); rintro e w5 ⟨rfl, hb⟩; refine ⟨_, rfl, ?_⟩; have n0_ := Aside0.mk (below_step (by repeat (first | (with_reducible first | exact HB.out | apply below_alloc | apply pw_below_drewN | apply below_drew1) | exact HB.out)) hb); clear HB; have HB := n0_; clear n0_; (try clear hb); (try clear hb2); (try clear hk); (try clear hi)))
    go_ret
    exact ⟨by first | rfl | (simp [errW_none, errW_some] <;> rfl) | (simp [*, errW_none, errW_some] <;> rfl), by repeat (first | (with_reducible first | exact HB.out | apply below_alloc | apply pw_below_drewN | apply below_drew1) | exact HB.out)⟩
/-! ### hex_digit: function 78 -/
def hex_digit.f (a0 : Int) : Option (Int) := if a0 < 10 then (some ((48 + a0) % 256)) else (some ((((97 + a0) % 256) - 10) % 256))
set_option maxHeartbeats 8000000 in
set_option maxRecDepth 100000 in
theorem hex_digit.calls (a0 : Int) (r : Int) (w : World) (h : hex_digit.f a0 = some r) :
    Calls Tryd.prog 78 #[.int .u8 a0] w fun e w' => e = .returned (.int .u8 r) ∧ Drawn0 w w' := by
  have H : (if a0 < 10 then (some ((48 + a0) % 256)) else (some ((((97 + a0) % 256) - 10) % 256))) = some r := h
  clear h
  by_cases c2 : a0 < 10
  · rw [if_pos c2] at H
    have c2b0 : decide (a0 < 10) = true := decide_eq_true c2
    clear c2
    obtain rfl := Option.some.inj H
    go_enter Tryd.func78, Tryd.ntmps78
    go_wp2
    go_ret
    exact ⟨by first | rfl | (simp; done) | (simp [*]; done), by repeat (first | exact Drawn0.refl _ | apply Drawn0.step)⟩
  · rw [if_neg c2] at H
    have c2b0 : decide (a0 < 10) = false := decide_eq_false c2
    clear c2
    obtain rfl := Option.some.inj H
    go_enter Tryd.func78, Tryd.ntmps78
    go_wp2
    go_ret
    exact ⟨by first | rfl | (simp; done) | (simp [*]; done), by repeat (first | exact Drawn0.refl _ | apply Drawn0.step)⟩
end Go.Proofs.YtdcknajlioalgaaDoor.QD
namespace Go.Proofs.YtdcknajlioalgaaDoor.QD
open Go.RowKit Go.Proofs.YtdcknajlioalgaaDoorW.PrintWords Go.Proofs.YtdcknajlioalgaaDoorW.PrintLast Go.Proofs.YtdcknajlioalgaaDoorW.PrintMore
attribute [local go_sem] max2_int min2_int max_two min_two max_three min_three max_four min_four   -- for this text's walks alone
set_option linter.unusedVariables false
set_option linter.unusedSimpArgs false

/-! ### hex_Print: function 50 -/
open Go.Proofs.YtdcknajlioalgaaDoor.Hex
theorem digit_f (x : Int) (h0 : 0 ≤ x) (h1 : x < 16) : hex_digit.f x = some (hexD x) := by
  unfold hex_digit.f hexD
  split
  · rw [Int.emod_eq_of_lt (by omega) (by omega)]
  · congr 1; omega
set_option maxRecDepth 100000 in
theorem hexPrint (A : Option Addr) (c : Nat) (l : List Int) (w : World) (hr : ReadsInt w .u8 A l.length l) (hby : ∀ x ∈ l, 0 ≤ x ∧ x < 256) (hl : l.length ≤ 1000000) :
    Calls Tryd.prog 50 #[.slice A l.length c] w fun e w' => e = .returned (.string (hexS l)) ∧ Below w.heap.size w w' := by
  have HR := Aside0.mk hr
  have HB := Aside0.mk hby
  clear hr hby
  obtain ⟨i0, hi, hz0, hz1, hz2⟩ := info_parts info5
  go_enter Tryd.func50, Tryd.ntmps50
  go_wp2_with (at_make; refine wpList_make_own _ rfl _ _ 26 rfl w.heap.size 5 i0 (.int .u8 0) 1 Tryd.underlying26 hi hz0 hz1 .i64 .i64 _ (2 * l.length) rfl rfl (by simp <;> omega) (by rw [hz2]; omega) (by unfold maxLen; omega) (Nat.le_refl _) ?_; intro w0 hown0 hg0; have HO0 := Aside0.mk hown0; have HG0 := Aside0.mk hg0; clear hown0 hg0)
  go_loopw [3, 5, 12] (fun v3 v5 v12 wr => ∃ k : Nat, v12 = .int .i64 k ∧ k ≤ l.length ∧ Aside0 (wr.ownsRow w.heap.size 5 1 v3 (hexL (l.take k)).length (nums .u8 (hexL (l.take k)))) ∧ Aside0 (Below w.heap.size w wr)) (fun _ _ v12 _ => l.length - (intOf v12).toNat)
  case atStart => exact ⟨0, rfl, Nat.zero_le _, HO0, ⟨(Below.refl _ _).grown HG0.out (Nat.le_refl _) (fun _ h => by cases h)⟩⟩
  case round =>
    obtain ⟨k, rfl, hk, HO, HB1⟩ := hrel
    by_cases hlt : k < l.length
    · obtain ⟨x, hx⟩ : ∃ x, l[k]? = some x := ⟨_, List.getElem?_eq_getElem hlt⟩
      obtain ⟨hx0, hx1⟩ := HB.out x (List.mem_of_getElem? hx)
      obtain ⟨ad, hA, hcell⟩ := (HR.out.below HB1.out).2.2 (by omega)
      have hc0 := hcell k hlt
      have e0 : l.getD k 0 = x := by rw [List.getD_eq_getElem?_getD, hx]; rfl
      rw [e0] at hc0
      subst hA
      have HX := Aside0.mk hx
      have HC := Aside0.mk hcell
      have hlt1 : decide ((k : Int) < l.length) = true := decide_eq_true (by omega)
      have i1 : (k : Int) < (l.length : Int) := by omega
      clear hx hcell e0
      go_wp2_with (fail)
      refine (hex_digit.calls (x / 16) _ wr (digit_f _ (by omega) (by omega))).mono ?_
      rintro _ _ ⟨rfl, ⟨q1, rfl⟩⟩
      clear hc0
      go_wp2_with (fail)
      refine (hex_digit.calls (x % 16) _ (wr.drewN q1) (digit_f _ (by omega) (by omega))).mono ?_
      rintro _ _ ⟨rfl, ⟨q2, rfl⟩⟩
      have HB2 := Aside0.mk (pw_below_drewN HB1.out (q1 + q2))
      have HO2 := Aside0.mk (show (wr.drewN (q1 + q2)).ownsRow _ _ _ _ _ _ from HO.out)
      have hk2 : (hexL (l.take k)).length = 2 * k := by rw [hexL_len, List.length_take]; omega
      have HL2 := Aside0.mk hk2
      clear hk2
      go_wp2_with (at_builtin; go_loud (refine print_append_row (w0 := w) w.heap.size rfl (.tmp 16) (.tmp 23) 26 5 .u8 1 rfl Tryd.underlying26 info5 (by decide) _ (hexL (l.take k)) [hexD (x / 16), hexD (x % 16)] _ 2 2 rfl rfl (own_alloc HO2.out _) (ReadsInt.two _ _ _ _) (below_alloc HB2.out _) (Nat.le_trans HB2.out.size (by simp [World.alloc])) (by rw [HL2.out]; omega) ?_); intro v1 w1 hown1 hB1 hg1 hat1; have HO3 := Aside0.mk hown1; have HB3 := Aside0.mk hB1; clear hown1 hB1 hg1 hat1)
      refine ⟨⟨k + 1, by norm_cast, by omega, ⟨?_⟩, HB3⟩, by show _ < _; simp only [intOf]; omega⟩
      have ht : l.take (k + 1) = l.take k ++ [x] := by rw [List.take_add_one, HX.out]; rfl
      rw [ht, hexL_snoc]
      exact HO3.out
    · have hlt1 : decide ((k : Int) < l.length) = false := decide_eq_false (by omega)
      have hkk : k = l.length := by omega
      subst hkk
      rw [List.take_length] at HO
      obtain ⟨A3, c3, e3, hR3⟩ := own_reads HO.out
      subst e3
      have hcv := string_of_reads (P := Tryd.prog) (src := 26) (dst := 9) (c := c3) Tryd.underlying26 Tryd.underlying5 Tryd.underlying9 hR3
      clear hR3
      go_wp2_with (fail)
      go_ret
      exact ⟨rfl, HB1.out⟩
def hex_Print.f (l0 : List Int) : Option ByteArray := if l0.length ≤ 1000000 ∧ (∀ x ∈ l0, 0 ≤ x ∧ x < 256) then some (hexS l0) else none
theorem hex_Print.calls (A0 : Option Addr) (c0 : Nat) (l0 : List Int) (r : ByteArray) (w : World) (hr0 : Kd.C (Kd.int .u8) w A0 l0.length l0) (hc0 : l0.length ≤ c0) (h : hex_Print.f l0 = some r) :
    Calls Tryd.prog 50 #[.slice A0 l0.length c0] w fun e w' => e = .returned (.string r) ∧ Below w.heap.size w w' := by
  unfold hex_Print.f at h
  split at h
  case isFalse => simp at h
  rename_i hl
  obtain rfl := Option.some.inj h
  exact hexPrint A0 c0 l0 w (Kd.reads_of_C (enc := Value.int .u8) (d := (0 : Int)) (h1 := fun _ => rfl) hr0) hl.2 hl.1
end Go.Proofs.YtdcknajlioalgaaDoor.QD
namespace Go.Proofs.YtdcknajlioalgaaDoor.QD
open Go.RowKit Go.Proofs.YtdcknajlioalgaaDoorW.PrintWords Go.Proofs.YtdcknajlioalgaaDoorW.PrintLast Go.Proofs.YtdcknajlioalgaaDoorW.PrintMore
attribute [local go_sem] max2_int min2_int max_two min_two max_three min_three max_four min_four   -- for this text's walks alone
set_option linter.unusedVariables false
set_option linter.unusedSimpArgs false

-- NOT PRINTED: function 64 (op_sayings)

-- NOT PRINTED: function 34 (op_field)

/-! ### num_Parse_1: function 79 -/
def num_Parse_1.f (a0 : Int) : Option (Bool) := if a0 ≥ 48 then (some (decide (a0 ≤ 57))) else (some false)
set_option maxHeartbeats 8000000 in
set_option maxRecDepth 100000 in
theorem num_Parse_1.calls (a0 : Int) (r : Bool) (w : World) (h : num_Parse_1.f a0 = some r) :
    Calls Tryd.prog 79 #[.int .u8 a0] w fun e w' => e = .returned (.bool r) ∧ Drawn0 w w' := by
  have H : (if a0 ≥ 48 then (some (decide (a0 ≤ 57))) else (some false)) = some r := h
  clear h
  by_cases c2 : a0 ≥ 48
  · rw [if_pos c2] at H
    have c2b0 : decide (48 ≤ a0) = true := decide_eq_true c2
    clear c2
    obtain rfl := Option.some.inj H
    go_enter Tryd.func79, Tryd.ntmps79
    go_wp2
    go_ret
    exact ⟨by first | rfl | (simp; done) | (simp [*]; done), by repeat (first | exact Drawn0.refl _ | apply Drawn0.step)⟩
  · rw [if_neg c2] at H
    have c2b0 : decide (48 ≤ a0) = false := decide_eq_false c2
    clear c2
    obtain rfl := Option.some.inj H
    go_enter Tryd.func79, Tryd.ntmps79
    go_wp2
    go_ret
    exact ⟨by first | rfl | (simp; done) | (simp [*]; done), by repeat (first | exact Drawn0.refl _ | apply Drawn0.step)⟩
end Go.Proofs.YtdcknajlioalgaaDoor.QD
namespace Go.Proofs.YtdcknajlioalgaaDoor.QD
open Go.RowKit Go.Proofs.YtdcknajlioalgaaDoorW.PrintWords Go.Proofs.YtdcknajlioalgaaDoorW.PrintLast Go.Proofs.YtdcknajlioalgaaDoorW.PrintMore
attribute [local go_sem] max2_int min2_int max_two min_two max_three min_three max_four min_four   -- for this text's walks alone
set_option linter.unusedVariables false
set_option linter.unusedSimpArgs false

/-! ### num_Parse: function 52 -/
open Go.Proofs.YtdcknajlioalgaaDoor.Hex
def NPost (w : World) (r : Int × Int) (e : Ending) (w' : World) : Prop := e = .returned (.tuple #[.int .i64 r.1, .int .i64 r.2]) ∧ Below w.heap.size w w'
set_option maxRecDepth 100000 in
theorem numParse (s : ByteArray) (most : Int) (w : World) (hs : s.size ≤ 1000000) :
    Calls Tryd.prog 52 #[.string s, .int .i64 most] w (NPost w (numP (bytesOf s) most)) := by
  have hlb := bytesOf_length s
  unfold numP
  rw [hlb, bt_list s 0]
  clear hlb
  simp only [Int.natCast_zero]
  by_cases h0 : s.size = 0
  · rw [if_pos (Or.inl h0)]
    obtain rfl := size_zero h0
    go_enter Tryd.func52, Tryd.ntmps52
    go_wp2
    go_ret2
    exact ⟨rfl, Below.refl _ _⟩
  have e0 : s.toList.isEmpty = false := by
    rw [Lib.toList_data]
    cases hd : s.data.toList with
    | nil => exact absurd (by rw [← data_length, hd]; rfl) h0
    | cons a l => rfl
  by_cases h1 : 18 < s.size
  · rw [if_pos (Or.inr (Or.inl h1))]
    have e1 : decide ((s.size : Int) > 18) = true := decide_eq_true (by omega)
    have e1' : decide (18 < (s.size : Int)) = true := decide_eq_true (by omega)
    go_enter Tryd.func52, Tryd.ntmps52
    go_wp2
    go_ret2
    exact ⟨rfl, Below.refl _ _⟩
  have e1' : decide (18 < (s.size : Int)) = false := decide_eq_false (by omega)
  have p0 : 0 < s.size := by omega
  have b0 : ((s[0]'p0).toNat : Int) = bt s 0 := bt_at s 0 p0
  by_cases h2 : bt s 0 = 48 ∧ s.size ≠ 1
  · rw [if_pos (Or.inr (Or.inr h2))]
    obtain ⟨h2a, h2b⟩ := h2
    have a1 : (((s[0]'p0).toNat : Int) == 48) = true := by rw [b0, h2a]; rfl
    have e2 : (s.toList == [48]) = false := beq_eq_false_iff_ne.mpr (by
      intro h
      apply h2b
      rw [← data_length, ← Lib.toList_data, h]
      rfl)
    clear b0
    go_enter Tryd.func52, Tryd.ntmps52
    go_wp2
    go_ret2
    exact ⟨rfl, Below.refl _ _⟩
  rw [if_neg (fun h => h.elim h0 (fun h => h.elim h1 h2))]
  have hor : ((((s[0]'p0).toNat : Int) == 48) = true ∧ (s.toList == [48]) = true) ∨ (((s[0]'p0).toNat : Int) == 48) = false := by
    rw [b0]
    by_cases h3 : bt s 0 = 48
    · left
      have h4 : s.size = 1 := by
        by_cases h5 : s.size = 1
        · exact h5
        · exact absurd ⟨h3, h5⟩ h2
      rw [one_48 h3 h4]
      exact ⟨rfl, by rw [Lib.toList_data]; rfl⟩
    · right
      exact beq_eq_false_iff_ne.mpr h3
  have hcv := print_bytes (P := Tryd.prog) 9 26 5 Tryd.underlying9 Tryd.underlying26 Tryd.underlying5 s w
  have HR := Aside0.mk (bytes_reads w 5 s (by omega))
  have HW := Aside0.mk (show Below w.heap.size w (Lib.bytesWorld w 5 s) from bytes_below (Below.refl _ _) (Nat.le_refl _) 5 s)
  clear b0 h2
  have HBY := Aside0.mk (bytesOf_range s)
  generalize hl : bytesOf s = l at HR HBY ⊢
  have hll : l.length = s.size := by rw [← hl]; exact bytesOf_length s
  have HLL := Aside0.mk hll
  clear hl hll
  generalize hrr : (if l.all digB = true then if digV l > most then ((0 : Int), (2 : Int)) else (digV l, 0) else (0, 3)) = r
  have HRR := Aside0.mk hrr
  clear hrr
  rcases hor with ⟨a1, e2⟩ | a1
  all_goals (
    go_enter Tryd.func52, Tryd.ntmps52
    go_wp2
    clear hcv a1
    go_loopw [4, 8, 28] (fun v4 v8 v28 wr => ∃ k : Nat, v28 = .int .i64 k ∧ k ≤ s.size ∧ v4 = .int .i64 (digV (l.take k)) ∧ Aside0 (∀ c ∈ l.take k, digB c = true) ∧ Aside0 (Drawn0 (Lib.bytesWorld w 5 s) wr)) (fun _ _ v28 _ => s.size - (intOf v28).toNat)
    case atStart => exact ⟨0, rfl, Nat.zero_le _, rfl, ⟨fun c hc => by simp at hc⟩, ⟨Drawn0.refl _⟩⟩
    case round =>
      obtain ⟨k, rfl, hk, rfl, HA, HD⟩ := hrel
      have hln : (l.take k).length = k := by rw [List.length_take, HLL.out]; omega
      obtain ⟨dr0, dr1⟩ := digV_range k (l.take k) hln HA.out
      have dr2 : digV (l.take k) < 1000000000000000000 := Int.lt_of_lt_of_le dr1 (by
        exact ten_pow k (by omega))
      clear dr1 hln
      by_cases hlt : k < s.size
      · obtain ⟨x, hx⟩ : ∃ x, l[k]? = some x := ⟨_, List.getElem?_eq_getElem (by rw [HLL.out]; exact hlt)⟩
        have hlt1 : decide ((k : Int) < s.size) = true := decide_eq_true (by omega)
        have i1 : (k : Int) < (s.size : Int) := by omega
        obtain ⟨ad, hA, hcell⟩ := HR.out.2.2 (by omega)
        have hc0 := hcell k hlt
        have e0 : l.getD k 0 = x := by rw [List.getD_eq_getElem?_getD, hx]; rfl
        obtain ⟨qq, hq⟩ := HD.out
        rw [e0] at hc0
        injection hA with hA
        subst hA
        have hc1 : wr.cell? (Addr.add ⟨w.heap.size, 0, none⟩ k) = some (.int .u8 x) := by rw [hq]; exact hc0
        have HX := Aside0.mk hx
        rw [add_plain] at hc1
        clear hx hcell hc0 e0 hq
        go_wp2_with (fail)
        obtain ⟨x0, x1⟩ := HBY.out x (List.mem_of_getElem? HX.out)
        refine (num_Parse_1.calls x (digB x) wr (by unfold num_Parse_1.f digB; by_cases h : x ≥ 48 <;> simp [h])).mono ?_
        rintro _ _ ⟨rfl, ⟨q1, rfl⟩⟩
        by_cases hd : digB x = true
        · have hd1 : 48 ≤ x ∧ x ≤ 57 := by unfold digB at hd; simpa using hd
          obtain ⟨hd2, hd3⟩ := hd1
          have hd4 : (!(digB x)) = false := by rw [hd]; rfl
          go_wp2_with (fail)
          have dr3 : digV (l.take k) < 100000000000000000 := by
            obtain ⟨_, hdr⟩ := digV_range k (l.take k) (by rw [List.length_take, HLL.out]; omega) HA.out
            exact Int.lt_of_lt_of_le hdr (ten_pow' k (by omega))
          have e1 : (x - 48) % 256 = x - 48 := Int.emod_eq_of_lt (by omega) (by omega)
          refine ⟨⟨k + 1, by norm_cast, by omega, ?_, ⟨?_⟩, ⟨HD.out.step q1⟩⟩, by show _ < _; simp only [intOf]; omega⟩
          · have ht : l.take (k + 1) = l.take k ++ [x] := by rw [List.take_add_one, HX.out]; rfl
            rw [ht, digV_snoc, IntWalk.wrap64_in (digV (l.take k) * 10) (by omega), IntWalk.wrap64_in _ (by omega)]
          · have ht : l.take (k + 1) = l.take k ++ [x] := by rw [List.take_add_one, HX.out]; rfl
            rw [ht]
            intro c hc
            rcases List.mem_append.1 hc with hc | hc
            · exact HA.out c hc
            · rw [List.mem_singleton.1 hc]; exact hd
        · have hd1 : digB x = false := by simpa using hd
          go_wp2_with (fail)
          go_ret2
          refine ⟨?_, pw_below_drewN (Below.trans HW.out (HD.out.below.mono HW.out.size)) q1⟩
          have hall : ¬ l.all digB = true := fun hall => hd (List.all_eq_true.mp hall x (List.mem_of_getElem? HX.out))
          rw [← HRR.out, if_neg hall]
          rfl
      · have hlt1 : decide ((k : Int) < s.size) = false := decide_eq_false (by omega)
        have hkk : k = s.size := by omega
        subst hkk
        rw [List.take_of_length_le (Nat.le_of_eq HLL.out)] at HA dr0 dr2 ⊢
        have HLA : l.all digB = true := List.all_eq_true.mpr HA.out
        rw [if_pos HLA] at HRR
        clear HLA
        by_cases hm : most < digV l
        · have hm1 : decide (most < digV l) = true := decide_eq_true hm
          rw [if_pos hm] at HRR
          go_wp2_with (fail)
          go_ret2
          refine ⟨?_, Below.trans HW.out (HD.out.below.mono HW.out.size)⟩
          rw [← HRR.out]
          rfl
        · have hm1 : decide (most < digV l) = false := decide_eq_false hm
          rw [if_neg hm] at HRR
          go_wp2_with (fail)
          go_ret2
          refine ⟨?_, Below.trans HW.out (HD.out.below.mono HW.out.size)⟩
          rw [← HRR.out]
          rfl)
def num_Parse.f (a0 : ByteArray) (a1 : Int) : Option (Int × Int) := if a0.size ≤ 1000000 then some (numP (bytesOf a0) a1) else none
theorem num_Parse.calls (a0 : ByteArray) (a1 : Int) (r1 : Int) (r2 : Int) (w : World) (h : num_Parse.f a0 a1 = some (r1, r2)) :
    Calls Tryd.prog 52 #[.string a0, .int .i64 a1] w fun e w' => e = .returned (.tuple #[.int .i64 r1, .int .i64 r2]) ∧ Below w.heap.size w w' := by
  unfold num_Parse.f at h
  split at h
  case isFalse => simp at h
  rename_i hl
  have h2 := Option.some.inj h
  have h3 := numParse a0 a1 w hl
  rw [h2] at h3
  exact h3
end Go.Proofs.YtdcknajlioalgaaDoor.QD
namespace Go.Proofs.YtdcknajlioalgaaDoor.QD
open Go.RowKit Go.Proofs.YtdcknajlioalgaaDoorW.PrintWords Go.Proofs.YtdcknajlioalgaaDoorW.PrintLast Go.Proofs.YtdcknajlioalgaaDoorW.PrintMore
attribute [local go_sem] max2_int min2_int max_two min_two max_three min_three max_four min_four   -- for this text's walks alone
set_option linter.unusedVariables false
set_option linter.unusedSimpArgs false

/-! ### hex_Parse_1: function 81 -/
def hex_Parse_1.j0 : Nat → Int → Bool → Option (Int × Bool)
  | 0, _, _ => none
  | k + 1, x0, x4 => if x4 = true then (some ((x0 - 48) % 256, true)) else (if x0 ≥ 97 then (if x0 ≤ 102 then (some ((((x0 - 97) % 256) + 10) % 256, true)) else (some (0, false))) else (some (0, false)))
def hex_Parse_1.f (k : Nat) (a0 : Int) : Option (Int × Bool) := if a0 ≥ 48 then (hex_Parse_1.j0 k a0 (decide (a0 ≤ 57))) else (hex_Parse_1.j0 k a0 false)
theorem hex_Parse_1.mono_l : ∀ k, (∀ y0 y1, LeO (hex_Parse_1.j0 k y0 y1) (hex_Parse_1.j0 (k + 1) y0 y1))
  | 0 => fun _ _ r h => by simp [hex_Parse_1.j0] at h
  | k + 1 => by
    have ih0 := hex_Parse_1.mono_l k
    · intro y0 y1
      unfold hex_Parse_1.j0
      repeat' first
      | (with_reducible exact ih0 _ _)
      | (with_reducible exact LeO.refl _)
      | (with_reducible exact LeO.none _)
      | (with_reducible refine LeO.ite ?_ ?_)
      | (with_reducible refine LeO.bind ?_ (fun _ => ?_))
      | exact ih0 _ _
      | exact LeO.none _
      | refine LeO.ite ?_ ?_
      | refine LeO.bind ?_ (fun _ => ?_)
theorem hex_Parse_1.mono : ∀ a0 k, LeO (hex_Parse_1.f k a0) (hex_Parse_1.f (k + 1) a0) := by
  intro a0 k
  have ih0 := hex_Parse_1.mono_l k
  unfold hex_Parse_1.f
  repeat' first
      | (with_reducible exact ih0 _ _)
      | (with_reducible exact LeO.refl _)
      | (with_reducible exact LeO.none _)
      | (with_reducible refine LeO.ite ?_ ?_)
      | (with_reducible refine LeO.bind ?_ (fun _ => ?_))
      | exact ih0 _ _
      | exact LeO.none _
      | refine LeO.ite ?_ ?_
      | refine LeO.bind ?_ (fun _ => ?_)
set_option maxHeartbeats 8000000 in
set_option maxRecDepth 100000 in
theorem hex_Parse_1.calls (k : Nat) (a0 : Int) (r1 : Int) (r2 : Bool) (w : World) (h : hex_Parse_1.f k a0 = some (r1, r2)) :
    Calls Tryd.prog 81 #[.int .u8 a0] w fun e w' => e = .returned (.tuple #[.int .u8 r1, .bool r2]) ∧ Drawn0 w w' := by
  have H : (if a0 ≥ 48 then (hex_Parse_1.j0 k a0 (decide (a0 ≤ 57))) else (hex_Parse_1.j0 k a0 false)) = some (r1, r2) := h
  clear h
  have HC2 := Aside0.mk H
  clear H
  go_enter Tryd.func81, Tryd.ntmps81
  go_upto_region 1 with (fail)
  go_cut [4] (fun v4 wc => ∃ (kq : Nat) (x4_1 : Bool), v4 = .bool x4_1 ∧ Aside0 (hex_Parse_1.j0 kq a0 x4_1 = some (r1, r2)) ∧ Aside0 (kq ≤ k) ∧ Drawn0 w wc)
  case first =>
    have H := HC2.out
    clear HC2
    by_cases c3 : a0 ≥ 48
    · rw [if_pos c3] at H
      have c3b0 : decide (48 ≤ a0) = true := decide_eq_true c3
      clear c3
      (first | rw [c3b0] | (simp only [i64_w, i32_w]; rw [c3b0]) | skip)
      have H' := Aside0.mk H
      clear H
      go_wp2
      go_meet
      case rel => exact ⟨_, (decide (a0 ≤ 57)), (by first | rfl | (simp; done) | (simp [*]; done)), H', ⟨by first | omega | exact Nat.le_refl _⟩, by repeat (first | exact Drawn0.refl _ | apply Drawn0.step)⟩
    · rw [if_neg c3] at H
      have c3b0 : decide (48 ≤ a0) = false := decide_eq_false c3
      clear c3
      (first | rw [c3b0] | (simp only [i64_w, i32_w]; rw [c3b0]) | skip)
      have H' := Aside0.mk H
      clear H
      go_wp2
      go_meet
      case rel => exact ⟨_, (false), (by first | rfl | (simp; done) | (simp [*]; done)), H', ⟨by first | omega | exact Nat.le_refl _⟩, by repeat (first | exact Drawn0.refl _ | apply Drawn0.step)⟩
  case rest =>
    clear HC2
    try clear p2
    try clear c3
    try clear c3b0
    obtain ⟨kq, x4_1, rfl, HA, HJ1, ⟨mc1, rfl⟩⟩ := hcut
    cases kq with
    | zero => exact absurd HA.out (by simp [hex_Parse_1.j0])
    | succ kj1 =>
      have H := HA.out
      clear HA
      simp only [hex_Parse_1.j0] at H
      by_cases c4 : x4_1 = true
      · subst c4
        have H1 : (some ((a0 - 48) % 256, true)) = some (r1, r2) := by rw [if_pos rfl] at H; exact H
        clear H
        have H := H1
        clear H1
        simp only [Option.some.injEq, Prod.mk.injEq] at H
        obtain ⟨rfl, rfl⟩ := H
        go_wp2
        go_ret2
        exact ⟨by first | rfl | (simp; done) | (simp [*]; done), by repeat (first | exact Drawn0.refl _ | apply Drawn0.step)⟩
      · replace c4 := Bool.eq_false_iff.mpr c4
        subst c4
        have H1 : (if a0 ≥ 97 then (if a0 ≤ 102 then (some ((((a0 - 97) % 256) + 10) % 256, true)) else (some (0, false))) else (some (0, false))) = some (r1, r2) := by rw [if_neg (show ¬ (false = true) by decide)] at H; exact H
        clear H
        have H := H1
        clear H1
        by_cases c5 : a0 ≥ 97
        · rw [if_pos c5] at H
          have c5b0 : decide (97 ≤ a0) = true := decide_eq_true c5
          clear c5
          by_cases c6 : a0 ≤ 102
          · rw [if_pos c6] at H
            have c6b0 : decide (a0 ≤ 102) = true := decide_eq_true c6
            clear c6
            simp only [Option.some.injEq, Prod.mk.injEq] at H
            obtain ⟨rfl, rfl⟩ := H
            go_wp2
            go_ret2
            exact ⟨by first | rfl | (simp; done) | (simp [*]; done), by repeat (first | exact Drawn0.refl _ | apply Drawn0.step)⟩
          · rw [if_neg c6] at H
            have c6b0 : decide (a0 ≤ 102) = false := decide_eq_false c6
            clear c6
            simp only [Option.some.injEq, Prod.mk.injEq] at H
            obtain ⟨rfl, rfl⟩ := H
            go_wp2
            go_ret2
            exact ⟨by first | rfl | (simp; done) | (simp [*]; done), by repeat (first | exact Drawn0.refl _ | apply Drawn0.step)⟩
        · rw [if_neg c5] at H
          have c5b0 : decide (97 ≤ a0) = false := decide_eq_false c5
          clear c5
          simp only [Option.some.injEq, Prod.mk.injEq] at H
          obtain ⟨rfl, rfl⟩ := H
          go_wp2
          go_ret2
          exact ⟨by first | rfl | (simp; done) | (simp [*]; done), by repeat (first | exact Drawn0.refl _ | apply Drawn0.step)⟩
end Go.Proofs.YtdcknajlioalgaaDoor.QD
namespace Go.Proofs.YtdcknajlioalgaaDoor.QD
open Go.RowKit Go.Proofs.YtdcknajlioalgaaDoorW.PrintWords Go.Proofs.YtdcknajlioalgaaDoorW.PrintLast Go.Proofs.YtdcknajlioalgaaDoorW.PrintMore
attribute [local go_sem] max2_int min2_int max_two min_two max_three min_three max_four min_four   -- for this text's walks alone
set_option linter.unusedVariables false
set_option linter.unusedSimpArgs false

/-! ### hex_Parse: function 54 -/
open Go.Proofs.YtdcknajlioalgaaDoor.Hex
theorem hexv_f (c : Int) (h0 : 0 ≤ c) (h1 : c < 256) : hex_Parse_1.f 1 c = some (hexVal c, hexOk c) := by
  unfold hex_Parse_1.f hex_Parse_1.j0 hexVal hexOk
  by_cases a : 48 ≤ c <;> by_cases b : c ≤ 57 <;> by_cases e : 97 ≤ c <;> by_cases f : c ≤ 102 <;> simp [a, b, e, f] <;> omega
def HPost (w : World) (r : List Int × Int × Int) (e : Ending) (w' : World) : Prop := ∃ v : Value, e = .returned (.tuple #[v, .int .i64 r.2.1, .int .i64 r.2.2]) ∧ w'.ownsRow w.heap.size 5 1 v r.1.length (nums .u8 r.1) ∧ Below w.heap.size w w'
set_option maxRecDepth 100000 in
set_option maxHeartbeats 1000000 in
theorem hexParse (s : ByteArray) (w : World) (hs : s.size ≤ 1000000) :
    Calls Tryd.prog 54 #[.string s] w (HPost w (hexP (bytesOf s))) := by
  have HBY := Aside0.mk (bytesOf_range s)
  have HLL := Aside0.mk (bytesOf_length s)
  have HBT := Aside0.mk (bt_list s)
  generalize bytesOf s = l at HBY HLL HBT ⊢
  generalize hrr : hexP l = r
  have HRR := Aside0.mk hrr
  clear hrr
  go_enter Tryd.func54, Tryd.ntmps54
  go_wp2
  go_loopw [2, 6, 7, 8, 9, 12] (fun v2 v6 v7 v8 v9 v12 wr => ∃ (k : Nat) (h : Int), v12 = .int .i64 k ∧ k ≤ s.size ∧ v6 = .int .u8 h ∧ 0 ≤ h ∧ h < 16 ∧ Aside0 (k % 2 = 1 → h = hexVal (l.getD (k - 1) 0)) ∧ Aside0 (wr.ownsRow w.heap.size 5 1 v2 (hexO l (k / 2)).length (nums .u8 (hexO l (k / 2)))) ∧ Aside0 (∀ c ∈ l.take k, hexOk c = true) ∧ Aside0 (Below w.heap.size w wr)) (fun _ _ _ _ _ v12 _ => s.size - (intOf v12).toNat)
  case atStart => exact ⟨0, 0, rfl, Nat.zero_le _, rfl, by omega, by omega, ⟨fun h => by omega⟩, ⟨own_nil _ _ _ _⟩, ⟨fun c hc => by simp at hc⟩, ⟨Below.refl _ _⟩⟩
  case round =>
    obtain ⟨k, h, rfl, hk, rfl, h0, h1, HH, HO, HA, HB⟩ := hrel
    by_cases hlt : k < s.size
    · have a0 := bt_at s k (by omega)
      have hlt1 : decide ((k : Int) < s.size) = true := decide_eq_true (by omega)
      have i1 : (k : Int) < (s.size : Int) := by omega
      have a1 := HBT.out k
      have HX := Aside0.mk a1
      have hm : bt s k ∈ l := by
        rw [← a1, List.getD_eq_getElem?_getD, List.getElem?_eq_getElem (by rw [HLL.out]; exact hlt)]
        exact List.getElem_mem _
      obtain ⟨x0, x1⟩ := HBY.out _ hm
      clear a1 hm
      have ak : ((s[k]'hlt).toNat : Int) = bt s k := a0
      go_wp2_with (fail)
      have hcall := hex_Parse_1.calls 1 (bt s k) (hexVal (bt s k)) (hexOk (bt s k)) wr (hexv_f _ x0 x1)
      refine hcall.mono ?_
      rintro _ _ ⟨rfl, ⟨q1, rfl⟩⟩
      clear a0 ak
      obtain ⟨y0, y1⟩ := hexVal_range (bt s k)
      by_cases hd : hexOk (bt s k) = true
      · rw [hd]
        have hall : ∀ c ∈ l.take (k + 1), hexOk c = true := by
          have ht : l.take (k + 1) = l.take k ++ [bt s k] := by
            rw [List.take_add_one]
            congr 1
            have h2 := HX.out
            rw [List.getD_eq_getElem?_getD, List.getElem?_eq_getElem (by rw [HLL.out]; exact hlt)] at h2
            rw [List.getElem?_eq_getElem (by rw [HLL.out]; exact hlt)]
            show [_] = [_]
            rw [← h2]
            rfl
          rw [ht]
          intro c hc
          rcases List.mem_append.1 hc with hc | hc
          · exact HA.out c hc
          · rw [List.mem_singleton.1 hc]; exact hd
        have HA1 := Aside0.mk hall
        clear hall
        by_cases hev : k % 2 = 0
        · have ev1 : ((k : Int) % 2 == 0) = true := by simp; omega
          go_wp2_with (fail)
          refine ⟨⟨k + 1, _, by norm_cast, by omega, rfl, y0, y1, ⟨fun _ => by rw [Nat.add_sub_cancel, HX.out]⟩, ⟨?_⟩, HA1, ⟨pw_below_drewN HB.out q1⟩⟩, by show _ < _; simp only [intOf]; omega⟩
          rw [show (k + 1) / 2 = k / 2 from by omega]
          exact HO.out
        · have ev1 : ((k : Int) % 2 == 0) = false := by simp; omega
          have hb := bits_pair h (hexVal (bt s k)) h0 h1 y0 y1
          have HB2 := Aside0.mk (pw_below_drewN HB.out q1)
          have HO2 := Aside0.mk (show (wr.drewN q1).ownsRow _ _ _ _ _ _ from HO.out)
          have HL2 := Aside0.mk (hexO_len l (k / 2))
          go_wp2_with (at_builtin; go_loud (refine print_append_num (w0 := w) w.heap.size rfl (.tmp 30) (.tmp 35) 26 5 .u8 1 rfl Tryd.underlying26 info5 (by decide) _ (hexO l (k / 2)) _ rfl rfl HO2.out HB2.out HB2.out.size (by rw [HL2.out]; omega) ?_); intro v1 w1 hown1 hB1 hg1 hat1; have HO3 := Aside0.mk hown1; have HB3 := Aside0.mk hB1; clear hown1 hB1 hg1 hat1)
          refine ⟨⟨k + 1, h, by norm_cast, by omega, rfl, h0, h1, ⟨fun _ => by omega⟩, ⟨?_⟩, HA1, HB3⟩, by show _ < _; simp only [intOf]; omega⟩
          rw [show (k + 1) / 2 = k / 2 + 1 from by omega, hexO_succ]
          have e1 := HH.out (by omega)
          have e2 : hexVal (l.getD (2 * (k / 2)) 0) = h := by rw [e1]; congr 2; omega
          have e3 : l.getD (2 * (k / 2) + 1) 0 = bt s k := by rw [← HX.out]; congr 1; omega
          rw [e2, e3]
          exact HO3.out
      · have hd1 : hexOk (bt s k) = false := by simpa using hd
        rw [hd1]
        have hk2 := takeWhile_at hexOk l k (by rw [HLL.out]; exact hlt) HA.out (by rw [HX.out]; exact hd1)
        have HK2 := Aside0.mk hk2
        clear hk2
        go_wp2_with (fail)
        go_ret3
        refine ⟨.slice none 0 0, ?_, ?_, pw_below_drewN HB.out q1⟩
        · rw [← HRR.out]
          unfold hexP
          rw [HK2.out, if_pos (by rw [HLL.out]; exact hlt)]
          rfl
        · rw [← HRR.out]
          unfold hexP
          rw [HK2.out, if_pos (by rw [HLL.out]; exact hlt)]
          exact own_nil _ _ _ _
    · have hlt1 : decide ((k : Int) < s.size) = false := decide_eq_false (by omega)
      have hkk : k = s.size := by omega
      subst hkk
      have hal : ∀ c ∈ l, hexOk c = true := by
        have := HA.out
        rw [List.take_of_length_le (Nat.le_of_eq HLL.out)] at this
        exact this
      have HK2 := Aside0.mk (takeWhile_all hexOk l hal)
      clear hal
      by_cases hod : s.size % 2 = 1
      · have ev1 : ((s.size : Int) % 2 != 0) = true := by simp; omega
        go_wp2_with (fail)
        go_ret3
        refine ⟨.slice none 0 0, ?_, ?_, HB.out⟩
        · rw [← HRR.out]
          unfold hexP
          rw [HK2.out, if_neg (Nat.lt_irrefl _), HLL.out, if_pos hod]
          rfl
        · rw [← HRR.out]
          unfold hexP
          rw [HK2.out, if_neg (Nat.lt_irrefl _), HLL.out, if_pos hod]
          exact own_nil _ _ _ _
      · have ev1 : ((s.size : Int) % 2 != 0) = false := by simp; omega
        go_wp2_with (fail)
        go_ret3
        have er : r = (hexO l (s.size / 2), 0, 0) := by
          rw [← HRR.out]
          unfold hexP
          rw [HK2.out, if_neg (Nat.lt_irrefl _), HLL.out, if_neg hod]
        rw [er]
        exact ⟨_, rfl, HO.out, HB.out⟩
def hex_Parse.f (a0 : ByteArray) : Option (List Int × Int × Int) := if a0.size ≤ 1000000 then some (hexP (bytesOf a0)) else none
theorem hex_Parse.calls (a0 : ByteArray) (r1 : List Int) (r2 : Int) (r3 : Int) (w : World) (h : hex_Parse.f a0 = some (r1, r2, r3)) :
    Calls Tryd.prog 54 #[.string a0] w fun e w' => ∃ v0_ : Value, e = .returned (.tuple #[v0_, .int .i64 r2, .int .i64 r3]) ∧ Kd.R (Kd.int .u8) 5 w' w.heap.size (fun _ => True) v0_ r1 ∧ Below w.heap.size w w' := by
  unfold hex_Parse.f at h
  split at h
  case isFalse => simp at h
  rename_i hl
  have h2 := Option.some.inj h
  have h3 := hexParse a0 w hl
  rw [h2] at h3
  refine h3.mono ?_
  rintro e w' ⟨v, he, ho, hb⟩
  exact ⟨v, he, Kd.R_of_own ho (fun _ _ => trivial), hb⟩
end Go.Proofs.YtdcknajlioalgaaDoor.QD
