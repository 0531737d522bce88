/- The document's Rows: of rows that are the same it says so. -/
import Derived.Test.YtloagejeeakikaaDoorNdP
import Derived.Deep.QuietTactic
import Derived.BigQuiet
namespace Go.Proofs.YtloagejeeakikaaDoor.QB
open Go.RowKit Go.Proofs.YtloagejeeakikaaDoorW.PrintWords Go.Proofs.YtloagejeeakikaaDoorW.PrintLast Go.Proofs.YtloagejeeakikaaDoorW.PrintMore
open Go.Proofs.YtloagejeeakikaaDoor.Mem
attribute [local go_sem] max2_int min2_int max_two min_two max_three min_three max_four min_four
set_option linter.unusedVariables false
set_option linter.unusedSimpArgs false
set_option maxHeartbeats 1600000 in
theorem Diff_same (k0 : Nat) (A B : Option Addr) (c d : Nat) (l : List (List Int)) (w : World) (hA : Kd.C (Kd.slice 5 (Kd.int .u8)) w A l.length l) (hB : Kd.C (Kd.slice 5 (Kd.int .u8)) w B l.length l) (hc : l.length ≤ c) (hd : l.length ≤ d) (hl : l.length ≤ 1000)
    (hx : ∀ x ∈ l, x.length ≤ 1000000 ∧ x.length + 1 ≤ k0) :
    Calls Tryd.prog 50 #[.slice A l.length c, .slice B l.length d] w fun e w' => e = .returned (.slice none 0 0) ∧ Drawn0 w w' := by
  have HA := Aside0.mk hA
  have HB := Aside0.mk hB
  have HX := Aside0.mk hx
  clear hA hB hx
  go_enter Tryd.func50, Tryd.ntmps50
  go_wp2
  go_loopw [5, 6] (fun v5 v6 wr => ∃ k : Nat, v6 = .int .i64 k ∧ k ≤ l.length ∧ v5 = .slice none 0 0 ∧ Aside0 (Drawn0 w wr)) (fun _ v6 _ => l.length - (intOf v6).toNat)
  case atStart => exact ⟨0, rfl, Nat.zero_le _, rfl, ⟨Drawn0.refl w⟩⟩
  case round =>
    obtain ⟨k, rfl, hk, rfl, HD⟩ := hrel
    by_cases hlt : k < l.length
    · obtain ⟨x, hx⟩ : ∃ x, l[k]? = some x := ⟨_, List.getElem?_eq_getElem hlt⟩
      have hrd := rd_row l k x hx
      obtain ⟨ad, Ai, ci, rfl, h1, h2, h3⟩ := at_L1 (Kd.C_below HA.out HD.out.below) (k : Int) (by omega) (by omega)
      obtain ⟨bd, Bi, di, rfl, g1, g2, g3⟩ := at_L1 (Kd.C_below HB.out HD.out.below) (k : Int) (by omega) (by omega)
      rw [hrd] at h1 h2 h3 g1 g2 g3
      rw [Int.toNat_natCast] at h1 g1
      have HS := Aside0.mk (same_refl x (HX.out x (List.mem_of_getElem? hx)).1 k0 (HX.out x (List.mem_of_getElem? hx)).2)
      have H3 := Aside0.mk h3
      have G3 := Aside0.mk g3
      have hlt1 : decide ((k : Int) < l.length) = true := decide_eq_true (by omega)
      have hge : decide ((l.length : Int) ≤ k) = false := decide_eq_false (by omega)
      clear hx hrd h3 g3
      go_wp2_with (fail)
      go_quiet ((go_at_call 12; refine Calls.quiet_of (v := .bool true) ?_; exact (oublietteref01_Same.calls k0 Ai ci x Bi di x true _ (Kd.C_below H3.out (pw_below_drewN (Below.refl _ _) _)) h2 (Kd.C_below G3.out (pw_below_drewN (Below.refl _ _) _)) g2 HS.out).mono fun e w' hp => ⟨hp.1, hp.2.out⟩))
      go_wp2_with (fail)
      go_roundw
      case rel => exact ⟨k + 1, by go_num, by omega, rfl, ⟨HD.out.step _⟩⟩
      case measure => simp [intOf]; omega
    · obtain rfl : k = l.length := by omega
      have hge : decide ((l.length : Int) < l.length) = false := decide_eq_false (by omega)
      go_wp2_with (fail)
      go_ret
      exact ⟨rfl, HD.out⟩
theorem Rows_same (k0 : Nat) (A B : Option Addr) (c d : Nat) (l : List (List Int)) (w : World) (hA : Kd.C (Kd.slice 5 (Kd.int .u8)) w A l.length l) (hB : Kd.C (Kd.slice 5 (Kd.int .u8)) w B l.length l) (hc : l.length ≤ c) (hd : l.length ≤ d) (hl : l.length ≤ 1000)
    (hx : ∀ x ∈ l, x.length ≤ 1000000 ∧ x.length + 1 ≤ k0) :
    Calls Tryd.prog 22 #[.slice A l.length c, .slice B l.length d] w fun e w' => e = .returned (.bool true) ∧ Drawn0 w w' := by
  have HA := Aside0.mk hA
  have HB := Aside0.mk hB
  have HX := Aside0.mk hx
  clear hA hB hx
  go_enter Tryd.func22, Tryd.ntmps22
  go_wp2_with (fail)
  refine (Diff_same k0 A B c d l w HA.out HB.out hc hd hl HX.out).mono ?_
  rintro e w1 ⟨rfl, hd1⟩
  have HD := Aside0.mk hd1
  clear hd1
  go_wp2_with (fail)
  go_ret
  exact ⟨rfl, HD.out⟩
end Go.Proofs.YtloagejeeakikaaDoor.QB
