-- Written by a program of this session (px.py) out of the translation's print. Not trusted: Lean checks it.
import Derived.Test.YtloagejeeakikaaDoorQB0
import Derived.Test.YtloagejeeakikaaDoorMem
import Derived.WalkMore
import Derived.ScopeJumps
namespace Go.Proofs.YtloagejeeakikaaDoor.QB
open Go.RowKit Go.Proofs.YtloagejeeakikaaDoorW.PrintWords Go.Proofs.YtloagejeeakikaaDoorW.PrintLast Go.Proofs.YtloagejeeakikaaDoorW.PrintMore
attribute [local go_sem] max2_int min2_int max_two min_two max_three min_three max_four min_four   -- for this text's walks alone
set_option linter.unusedVariables false
set_option linter.unusedSimpArgs false

/-! ### num_Put: function 76 -/
open Go.Proofs.YtloagejeeakikaaDoor.Mem
def putFrom (n : Int) (k j : Nat) : List Int := (List.range' j (k - j)).reverse.map fun i => n / 2 ^ (8 * i) % 256
def putB (n : Int) (k : Nat) : List Int := putFrom n k 0
theorem putFrom_step (n : Int) (k j : Nat) (h : j < k) : putFrom n k j = putFrom n k (j + 1) ++ [n / 2 ^ (8 * j) % 256] := by
  unfold putFrom
  obtain ⟨d, hd⟩ : ∃ d, k - j = d + 1 := ⟨k - j - 1, by omega⟩
  rw [hd, show k - (j + 1) = d from by omega, List.range'_succ]
  simp
theorem putFrom_end (n : Int) (k : Nat) : putFrom n k k = [] := by simp [putFrom]
theorem putFrom_len (n : Int) (k j : Nat) : (putFrom n k j).length = k - j := by simp [putFrom]
def num_Put.f (n size : Int) : Option (List Int) :=
  if 0 ≤ n ∧ n ≤ 18446744073709551615 then (if 1 ≤ size ∧ size ≤ 8 then some (putB n size.toNat) else some []) else none
def PutRow (w : World) (bs : List Int) (e : Ending) (w' : World) : Prop :=
  ∃ v0_ : Value, e = .returned v0_ ∧ Kd.R (Kd.int .u8) 5 w' w.heap.size (fun _ => True) v0_ bs ∧ Below w.heap.size w w'
theorem num_Put.calls' (n size : Int) (r : List Int) (w : World) (h : num_Put.f n size = some r) :
    Calls Tryd.prog 76 #[.int .u64 n, .int .i64 size] w (PutRow w r) := by
  unfold num_Put.f at h
  split at h
  case isFalse => simp at h
  rename_i hn
  obtain ⟨hn0, hn1⟩ := hn
  by_cases hs : 1 ≤ size ∧ size ≤ 8
  · rw [if_pos hs] at h
    obtain rfl := Option.some.inj h
    clear h
    obtain ⟨k, rfl⟩ := Int.eq_ofNat_of_zero_le (show 0 ≤ size by omega)
    obtain ⟨hs1, hs8⟩ := hs
    have b1 : decide ((k : Int) < 1) = false := by simp; omega
    have b2 : decide (8 < (k : Int)) = false := by simp; omega
    go_enter Tryd.func76, Tryd.ntmps76
    go_wp2
    go_step3
    go_wp2
    go_step3
    go_wp2
    go_loopw [4, 5] (fun v4 v5 wr => ∃ (i : Int), v5 = .int .i64 i ∧ -1 ≤ i ∧ i < (k : Int) ∧ i ≤ 7 ∧ Aside0 (wr.ownsRow w.heap.size 5 1 v4 (putFrom n k (i + 1).toNat).length (nums .u8 (putFrom n k (i + 1).toNat))) ∧ Aside0 (Below w.heap.size w wr))
      (fun _ v5 _ => (intOf v5 + 1).toNat)
    case atStart => exact ⟨_, rfl, by omega, by omega, by omega, ⟨by rw [show ((k : Int) - 1 + 1).toNat = k from by omega, putFrom_end]; exact own_nil _ _ _ _⟩, ⟨Below.refl _ _⟩⟩
    case round =>
      obtain ⟨i, rfl, hi0, hi1, hi7, HO, HB⟩ := hrel
      by_cases hi : 0 ≤ i
      · have hb : 0 ≤ 8 * i := by omega
        have hb2 : 8 * i ≤ 64 := by omega
        go_wp2_with (at_builtin; go_loud (refine print_append_num (w0 := w) w.heap.size rfl (.tmp 18) (.tmp 24) 25 5 .u8 1 rfl Tryd.underlying25 info5 (by decide) _ (putFrom n k (i + 1).toNat) _ rfl rfl HO.out HB.out HB.out.size (by rw [putFrom_len]; omega) ?_); intro v1 w1 hown1 hB1 hg1 hat1; have HO1 := Aside0.mk hown1; have HB1 := Aside0.mk hB1; clear hown1 hB1 hg1 hat1)
        go_roundw
        case rel =>
          refine ⟨i - 1, rfl, by omega, by omega, by omega, ⟨?_⟩, HB1⟩
          have h1 := HO1.out
          have e1 : putFrom n k (i - 1 + 1).toNat = putFrom n k (i + 1).toNat ++ [n / 2 ^ (8 * i).toNat % 256] := by
            rw [show (i - 1 + 1).toNat = i.toNat from by omega, putFrom_step n k i.toNat (by omega), show (i + 1).toNat = i.toNat + 1 from by omega, show (8 * i).toNat = 8 * i.toNat from by omega]
          rw [e1]
          exact h1
        case measure => simp [intOf]; omega
      · obtain rfl : i = -1 := by omega
        go_wp2
        (try rw [Exit.noGoto_ret])
        go_ret
        exact ⟨_, rfl, Kd.R_of_own HO.out (fun _ _ => trivial), HB.out⟩
  · rw [if_neg hs] at h
    obtain rfl := Option.some.inj h
    clear h
    by_cases hs1 : size < 1
    · go_enter Tryd.func76, Tryd.ntmps76
      go_wp2
      go_step3
      go_wp2
      (try rw [Exit.noGoto_ret])
      go_ret
      exact ⟨_, rfl, Kd.R_nil _ _ _ _ _, Below.refl _ _⟩
    · have hs2 : 8 < size := by omega
      go_enter Tryd.func76, Tryd.ntmps76
      go_wp2
      go_step3
      go_wp2
      (try rw [Exit.noGoto_ret])
      go_ret
      exact ⟨_, rfl, Kd.R_nil _ _ _ _ _, Below.refl _ _⟩
theorem num_Put.calls (a0 a1 : Int) (r : List Int) (w : World) (h : num_Put.f a0 a1 = some r) :
    Calls Tryd.prog 76 #[.int .u64 a0, .int .i64 a1] w fun e w' => ∃ v0_ : Value, e = .returned v0_ ∧ Kd.R (Kd.int .u8) 5 w' w.heap.size (fun _ => True) v0_ r ∧ Below w.heap.size w w' :=
  (num_Put.calls' a0 a1 r w h).mono fun _ _ h => h

end Go.Proofs.YtloagejeeakikaaDoor.QB
