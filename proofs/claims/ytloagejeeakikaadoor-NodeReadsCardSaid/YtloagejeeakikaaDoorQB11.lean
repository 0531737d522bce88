-- Written by a program of this session (px.py) out of the translation's print. Not trusted: Lean checks it.
import Derived.Test.YtloagejeeakikaaDoorQB0
import Derived.Test.YtloagejeeakikaaDoorQB10
namespace Go.Proofs.YtloagejeeakikaaDoor.QB
open Go.RowKit Go.Proofs.YtloagejeeakikaaDoorW.PrintWords Go.Proofs.YtloagejeeakikaaDoorW.PrintLast Go.Proofs.YtloagejeeakikaaDoorW.PrintMore
attribute [local go_sem] max2_int min2_int max_two min_two max_three min_three max_four min_four   -- for this text's walks alone
set_option linter.unusedVariables false
set_option linter.unusedSimpArgs false

/-! ### oublietteref05_Bytes: function 64 -/
theorem put_two (n : Nat) (hn : n ≤ 65535) : oublietteref01_Put.f 10 (n : Int) 2 = some [(n : Int) / 256, (n : Int) % 256] := by
  have w1 : wrap64 (2 - 1) = 1 := by unfold wrap64; omega
  have t1 : Int.tdiv (n : Int) 256 = (n : Int) / 256 := Int.tdiv_eq_ediv_of_nonneg (by omega)
  have t2 : Int.tmod (n : Int) 256 = (n : Int) % 256 := Int.tmod_eq_emod_of_nonneg (by omega)
  have t3 : Int.tmod ((n : Int) / 256) 256 = (n : Int) / 256 % 256 := Int.tmod_eq_emod_of_nonneg (by omega)
  have w2 : IntKind.u64.wrap ((n : Int) / 256) = (n : Int) / 256 := by simp [IntKind.wrap, IntKind.bits, IntKind.signed]; omega
  unfold oublietteref01_Put.f
  rw [if_neg (by omega), decide_eq_false (by omega), oublietteref01_Put.j0.eq_2, if_neg (by simp), if_pos (by omega), if_pos (by decide), w1]
  rw [oublietteref01_Put.l0.eq_2, if_pos (by omega), if_pos (by omega), if_pos (by decide), t1, w2, t2]
  rw [show wrap64 (1 - 1) = 0 from by unfold wrap64; omega, oublietteref01_Put.l0.eq_2, if_pos (by omega), if_pos (by omega), if_pos (by simp), t3]
  rw [show wrap64 (0 - 1) = -1 from by unfold wrap64; omega, oublietteref01_Put.l0.eq_2, if_neg (by omega)]
  simp
  omega
attribute [local go_sem] max2_int min2_int max_two min_two
theorem ref05_walk (a1 a2 : Int) (A : Option Addr) (c : Nat) (l : List Int) (w : World) (hr : Kd.C (Kd.int .u8) w A l.length l) (hc : l.length ≤ c) (hl : l.length ≤ 65535) :
    Calls Tryd.prog 64 #[.agg #[.int .i64 2, .int .i64 a1, .int .u64 a2, .slice A l.length c]] w fun e w' => ∃ v0_ : Value, e = .returned v0_ ∧ Kd.R (Kd.int .u8) 5 w' w.heap.size (fun _ => True) v0_ ([(l.length : Int) / 256, (l.length : Int) % 256] ++ l) ∧ Below w.heap.size w w' := by
  have HR := Aside0.mk hr
  clear hr
  have huF := Tryd.underlying74
  have hmin : min (l.length : Int) 65535 = l.length := by omega
  go_enter Tryd.func64, Tryd.ntmps64
  go_wp2_with (fail)
  have HB1 := Aside0.mk ((Below.refl _ w).alloc (Nat.le_refl _) (.cells #[.int .i64 2, .int .i64 a1, .int .u64 a2, .slice A l.length c] 74))
  refine (oublietteref01_Put.calls 10 _ 2 _ _ (put_two l.length hl)).mono ?_
  rintro e w2 ⟨v, rfl, hv, hb2⟩
  obtain ⟨A2, c2, rfl, hc2, hC2⟩ := Kd.R_reads hv
  have HV := Aside0.mk hC2
  have HC2 := Aside0.mk hc2
  clear hC2 hc2
  have HB2 := Aside0.mk (HB1.out.trans (hb2.mono HB1.out.size))
  clear hv hb2
  have hj : oublietteref01_Join.f [(l.length : Int) / 256, (l.length : Int) % 256] l = some ([(l.length : Int) / 256, (l.length : Int) % 256] ++ l) := by
    unfold oublietteref01_Join.f
    rw [if_pos (by simp), Option.bind_some, if_pos (by simp; omega)]
    rfl
  have HJ := Aside0.mk hj
  clear hj
  go_wp2_with (fail)
  refine (oublietteref01_Join.calls A2 c2 _ A c l _ _ HV.out HC2.out (Kd.C_below HR.out HB2.out) hc HJ.out).mono ?_
  rintro e w3 ⟨v, rfl, hv, hb3⟩
  have HB3 := Aside0.mk (HB2.out.trans (hb3.mono HB2.out.size))
  have HV3 := Aside0.mk hv
  clear hv hb3
  obtain ⟨A3, c3, rfl, _, _⟩ := Kd.R_reads HV3.out
  go_wp2_with (fail)
  go_ret
  exact ⟨_, rfl, Kd.R_lower HV3.out HB2.out.size, HB3.out⟩
def oublietteref05_Bytes.f (a0_0 a0_1 a0_2 : Int) (l0_3 : List Int) : Option (List Int) := if a0_0 = 2 ∧ l0_3.length ≤ 65535 then some ([(l0_3.length : Int) / 256, (l0_3.length : Int) % 256] ++ l0_3) else none
theorem oublietteref05_Bytes.calls (a0_0 : Int) (a0_1 : Int) (a0_2 : Int) (A0_3 : Option Addr) (c0_3 : Nat) (l0_3 : List Int) (r : List Int) (w : World) (hr0_3 : Kd.C (Kd.int .u8) w A0_3 l0_3.length l0_3) (hc0_3 : l0_3.length ≤ c0_3) (h : oublietteref05_Bytes.f a0_0 a0_1 a0_2 l0_3 = some r) :
    Calls Tryd.prog 64 #[.agg #[.int .i64 a0_0, .int .i64 a0_1, .int .u64 a0_2, .slice A0_3 l0_3.length c0_3]] w fun e w' => ∃ v0_ : Value, e = .returned (v0_) ∧ Kd.R (Kd.int .u8) 5 w' w.heap.size (fun _ => True) v0_ r ∧ Below w.heap.size w w' := by
  unfold oublietteref05_Bytes.f at h
  by_cases hg : a0_0 = 2 ∧ l0_3.length ≤ 65535
  · rw [if_pos hg] at h
    obtain rfl := Option.some.inj h
    obtain ⟨rfl, hl⟩ := hg
    exact ref05_walk a0_1 a0_2 A0_3 c0_3 l0_3 w hr0_3 hc0_3 hl
  · rw [if_neg hg] at h; cases h

end Go.Proofs.YtloagejeeakikaaDoor.QB
