-- Written by a program of this session (px.py) out of the translation's print. Not trusted: Lean checks it.
import Derived.Test.YtloagejeeakikaaDoorQB0
import Derived.Test.YtloagejeeakikaaDoorQB5
import Derived.Lib.OthersKept
namespace Go.Proofs.YtloagejeeakikaaDoor.QB
open Go.RowKit Go.Proofs.YtloagejeeakikaaDoorW.PrintWords Go.Proofs.YtloagejeeakikaaDoorW.PrintLast Go.Proofs.YtloagejeeakikaaDoorW.PrintMore
attribute [local go_sem] max2_int min2_int max_two min_two max_three min_three max_four min_four   -- for this text's walks alone
set_option linter.unusedVariables false
set_option linter.unusedSimpArgs false

/-! ### name_Part: function 78 -/
def upperB (r : Int) : Bool := decide ((65 ≤ r ∧ r ≤ 90) ∨ (192 ≤ r ∧ r ≤ 222 ∧ r ≠ 215))
def letterB (r : Int) : Bool := decide ((65 ≤ r ∧ r ≤ 90) ∨ (97 ≤ r ∧ r ≤ 122) ∨ (192 ≤ r ∧ r ≤ 255 ∧ r ≠ 215 ∧ r ≠ 247))
def smallB (r : Int) : Bool := decide ((48 ≤ r ∧ r ≤ 57) ∨ (97 ≤ r ∧ r ≤ 122) ∨ (223 ≤ r ∧ r ≤ 255 ∧ r ≠ 247))
theorem utf_Upper_eq (r : Int) : utf_Upper.f r = some (upperB r) := by
  unfold utf_Upper.f upperB
  repeat' split
  all_goals (rw [Option.some.injEq, Bool.eq_iff_iff]; simp; omega)
theorem utf_Letter_eq (r : Int) : utf_Letter.f r = some (letterB r) := by
  unfold utf_Letter.f
  rw [utf_Upper_eq]
  simp only [Option.bind_some]
  unfold upperB letterB
  repeat' split
  all_goals (rw [Option.some.injEq, Bool.eq_iff_iff]; simp at *; omega)
theorem name_small_eq (r : Int) : name_small.f r = some (smallB r) := by
  unfold name_small.f
  rw [utf_Letter_eq, utf_Upper_eq]
  simp only [Option.bind_some]
  unfold upperB letterB smallB
  repeat' split
  all_goals (rw [Option.some.injEq, Bool.eq_iff_iff]; simp at *; omega)
def runesG (s : ByteArray) : Nat → Nat → List Int
  | 0, _ => []
  | b + 1, pos => if pos < s.size then ((Utf8.decode s pos).1 : Int) :: runesG s b (pos + (Utf8.decode s pos).2) else []
def runesOf (s : ByteArray) : List Int := runesG s s.size 0
theorem width_pos (s : ByteArray) (pos : Nat) (h : pos < s.size) : 1 ≤ (Utf8.decode s pos).2 := by
  by_cases ha : (s[pos]'h).toNat < 128
  · rw [decode_ascii s pos h ha]
    exact Nat.le_refl _
  · exact (decode_high s pos h (by omega)).2
theorem runesG_end (s : ByteArray) (b pos : Nat) (h : ¬ pos < s.size) : runesG s b pos = [] := by
  cases b with
  | zero => rfl
  | succ b => simp [runesG, h]
theorem runesG_len (s : ByteArray) (b : Nat) : ∀ pos, (runesG s b pos).length ≤ b := by
  induction b with
  | zero => intro pos; simp [runesG]
  | succ b ih =>
    intro pos
    unfold runesG
    split
    · have := ih (pos + (Utf8.decode s pos).2); simp; omega
    · simp
def name_Part.f (s : ByteArray) : Option Bool :=
  if s.size ≤ 140737488351232 then some ((runesOf s).all smallB && (decide (1 ≤ (runesOf s).length) && decide ((runesOf s).length ≤ 8))) else none
set_option maxHeartbeats 800000 in
theorem name_Part.calls (a0 : ByteArray) (r : Bool) (w : World) (h : name_Part.f a0 = some r) :
    Calls Tryd.prog 78 #[.string a0] w fun e w' => e = .returned (.bool r) ∧ Below w.heap.size w w' := by
  unfold name_Part.f at h
  split at h
  case isFalse => simp at h
  rename_i hs
  obtain rfl := Option.some.inj h
  clear h
  go_enter Tryd.func78, Tryd.ntmps78
  go_wp2
  go_loopw [3] (fun n wr => ∃ (pos b k : Nat), n = .int .i64 k ∧ wr.heap[w.heap.size]? = some (.stringIter a0 pos) ∧ Aside0 (Below w.heap.size w wr) ∧ a0.size ≤ pos + b ∧ k + b ≤ a0.size
      ∧ Aside0 (((runesOf a0).all smallB && (decide (1 ≤ (runesOf a0).length) && decide ((runesOf a0).length ≤ 8))) = ((runesG a0 b pos).all smallB && (decide (1 ≤ (runesG a0 b pos).length + k) && decide ((runesG a0 b pos).length + k ≤ 8)))))
    (fun _ wr => a0.size - wr.iterPos w.heap.size)
  case atStart => exact ⟨0, a0.size, 0, rfl, World.iter_heap _ _ _, ⟨(Below.refl _ _).alloc (Nat.le_refl _) _⟩, by omega, by omega, ⟨rfl⟩⟩
  case round =>
    obtain ⟨pos, b, k, rfl, hk, HB, hb, hkb, HC⟩ := hrel
    by_cases hp : pos < a0.size
    · have hnx : ∀ ty, (Instr.next (.pointer (some ⟨w.heap.size, 0, none⟩)) true ty).run Tryd.prog wr = _ := fun ty => Lib.run_next_any_at wr w.heap.size a0 pos ty hk hp
      have hw := width_pos a0 pos hp
      cases b with
      | zero => omega
      | succ b =>
      have HC2 := HC.out
      rw [runesG, if_pos hp] at HC2
      have hk2 := Lib.iterAt_heap wr w.heap.size a0 pos (pos + (Utf8.decode a0 pos).2) hk
      have hB2 := Lib.below_iterAt HB.out (Nat.le_refl _) a0 (pos + (Utf8.decode a0 pos).2)
      have HB2 := Aside0.mk hB2
      clear hB2 HC
      cases hsm : smallB ((Utf8.decode a0 pos).1 : Int) with
      | false =>
        have Hsm := Aside0.mk ((name_small_eq ((Utf8.decode a0 pos).1 : Int)).trans (congrArg some hsm))
        have HC := Aside0.mk HC2
        have Hs := Aside0.mk hsm
        clear HC2 hsm
        go_wp2_with (fail)
        refine (name_small.calls _ _ _ Hsm.out).mono ?_
        rintro e w' ⟨rfl, ⟨nd, rfl⟩⟩
        go_wp2_with (fail)
        go_ret
        exact ⟨by rw [HC.out]; simp [Hs.out], pw_below_drewN HB2.out _⟩
      | true =>
        have Hsm := Aside0.mk ((name_small_eq ((Utf8.decode a0 pos).1 : Int)).trans (congrArg some hsm))
        have HC := Aside0.mk HC2
        have Hs := Aside0.mk hsm
        clear HC2 hsm
        go_wp2_with (fail)
        refine (name_small.calls _ _ _ Hsm.out).mono ?_
        rintro e w' ⟨rfl, ⟨nd, rfl⟩⟩
        go_wp2_with (fail)
        go_roundw
        case rel => exact ⟨pos + (Utf8.decode a0 pos).2, b, k + 1, by go_num, by simpa using hk2, ⟨pw_below_drewN HB2.out _⟩, by omega, by omega, ⟨by rw [HC.out]; simp [Hs.out, Nat.add_assoc, Nat.add_comm 1 k]⟩⟩
        case measure =>
          have e1 : wr.iterPos w.heap.size = pos := by simp [World.iterPos, hk]
          have e2 : World.iterPos ((wr.iterAt w.heap.size a0 (pos + (Utf8.decode a0 pos).2)).drewN nd) w.heap.size = pos + (Utf8.decode a0 pos).2 := by simp [World.iterPos, hk2]
          rw [e1, e2]
          omega
    · have hnx : ∀ ty, (Instr.next (.pointer (some ⟨w.heap.size, 0, none⟩)) true ty).run Tryd.prog wr = _ := fun ty => Lib.run_next_end_at wr w.heap.size a0 pos ty hk hp
      have HC2 := HC.out
      rw [runesG_end _ _ _ hp] at HC2
      have HC := Aside0.mk HC2
      clear HC2
      by_cases h1 : 1 ≤ k
      · go_wp2
        go_ret
        exact ⟨by rw [HC.out]; simp [h1]; omega, HB.out⟩
      · go_wp2
        go_ret
        exact ⟨by rw [HC.out]; simp [h1], HB.out⟩

end Go.Proofs.YtloagejeeakikaaDoor.QB
