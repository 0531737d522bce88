-- Written by a program of this session (px.py) out of the translation's print. Not trusted: Lean checks it.
import Derived.Test.YtloagejeeakikaaDoorQB0
import Derived.Test.YtloagejeeakikaaDoorQB6
import Derived.Lib.OthersKept
namespace Go.Proofs.YtloagejeeakikaaDoor.QB
open Go.RowKit Go.Proofs.YtloagejeeakikaaDoorW.PrintWords Go.Proofs.YtloagejeeakikaaDoorW.PrintLast Go.Proofs.YtloagejeeakikaaDoorW.PrintMore
attribute [local go_sem] max2_int min2_int max_two min_two max_three min_three max_four min_four   -- for this text's walks alone
set_option linter.unusedVariables false
set_option linter.unusedSimpArgs false

/-! ### utf_Count: function 79 -/
def utf_Count.f (s : ByteArray) : Option Int :=
  if s.size ≤ 140737488351232 then some (if Lib.validD s.data.toList = true then ((runesOf s).length : Int) else -1) else none
set_option maxHeartbeats 800000 in
theorem utf_Count.calls (a0 : ByteArray) (r : Int) (w : World) (HLD : Laid w) (h : utf_Count.f a0 = some r) :
    Calls Tryd.prog 79 #[.string a0] w fun e w' => e = .returned (.int .i64 r) ∧ Below w.heap.size w w' := by
  unfold utf_Count.f at h
  split at h
  case isFalse => simp at h
  rename_i hs
  have h := Option.some.inj h
  cases hv : Lib.validD a0.data.toList with
  | false =>
    rw [hv, if_neg (by simp)] at h
    subst h
    have HV := Aside0.mk (Tryd.utf8_ValidString a0 w (by omega) HLD.u)
    rw [hv] at HV
    clear hv
    go_enter Tryd.func79, Tryd.ntmps79
    go_wp2_with (fail)
    refine HV.out.mono ?_
    rintro e w2 ⟨rfl, hb⟩
    go_wp2_with (fail)
    go_ret
    exact ⟨rfl, hb⟩
  | true =>
    rw [hv, if_pos rfl] at h
    have HV := Aside0.mk (Tryd.utf8_ValidString a0 w (by omega) HLD.u)
    rw [hv] at HV
    clear hv
    have H := Aside0.mk h
    clear h
    go_enter Tryd.func79, Tryd.ntmps79
    go_wp2_with (fail)
    refine HV.out.mono ?_
    rintro e w2 ⟨rfl, hb⟩
    have HB2 := Aside0.mk hb
    clear hb HV
    go_wp2_with (fail)
    go_loopw [2] (fun n wr => ∃ (pos b k : Nat), n = .int .i64 k ∧ wr.heap[w2.heap.size]? = some (.stringIter a0 pos) ∧ Aside0 (Below w2.heap.size w2 wr) ∧ a0.size ≤ pos + b ∧ k + b ≤ a0.size
        ∧ Aside0 (((runesOf a0).length : Int) = ((runesG a0 b pos).length : Int) + k))
      (fun _ wr => a0.size - wr.iterPos w2.heap.size)
    case atStart => exact ⟨0, a0.size, 0, rfl, World.iter_heap _ _ _, ⟨(Below.refl _ _).alloc (Nat.le_refl _) _⟩, by omega, by omega, ⟨by simp [runesOf]⟩⟩
    case round =>
      obtain ⟨pos, b, k, rfl, hk, HB, hb, hkb, HC⟩ := hrel
      by_cases hp : pos < a0.size
      · have hnx : ∀ ty, (Instr.next (.pointer (some ⟨w2.heap.size, 0, none⟩)) true ty).run Tryd.prog wr = _ := fun ty => Lib.run_next_any_at wr w2.heap.size a0 pos ty hk hp
        have hw := width_pos a0 pos hp
        cases b with
        | zero => omega
        | succ b =>
        have HC2 := HC.out
        rw [runesG, if_pos hp] at HC2
        have hk2 := Lib.iterAt_heap wr w2.heap.size a0 pos (pos + (Utf8.decode a0 pos).2) hk
        have hB2 := Lib.below_iterAt HB.out (Nat.le_refl _) a0 (pos + (Utf8.decode a0 pos).2)
        have HB3 := Aside0.mk hB2
        have HC := Aside0.mk HC2
        clear hB2 HC2
        go_wp2_with (fail)
        go_roundw
        case rel => exact ⟨pos + (Utf8.decode a0 pos).2, b, k + 1, by go_num, by simpa using hk2, ⟨HB3.out⟩, by omega, by omega, ⟨by rw [HC.out]; simp; omega⟩⟩
        case measure =>
          have e1 : wr.iterPos w2.heap.size = pos := by simp [World.iterPos, hk]
          have e2 : World.iterPos (wr.iterAt w2.heap.size a0 (pos + (Utf8.decode a0 pos).2)) w2.heap.size = pos + (Utf8.decode a0 pos).2 := by simp [World.iterPos, hk2]
          rw [e1, e2]
          omega
      · have hnx : ∀ ty, (Instr.next (.pointer (some ⟨w2.heap.size, 0, none⟩)) true ty).run Tryd.prog wr = _ := fun ty => Lib.run_next_end_at wr w2.heap.size a0 pos ty hk hp
        have HC2 := HC.out
        rw [runesG_end _ _ _ hp] at HC2
        have HC := Aside0.mk HC2
        clear HC2
        go_wp2
        go_ret
        exact ⟨by rw [← H.out, HC.out]; simp, HB2.out.trans (HB.out.mono HB2.out.size)⟩

end Go.Proofs.YtloagejeeakikaaDoor.QB
