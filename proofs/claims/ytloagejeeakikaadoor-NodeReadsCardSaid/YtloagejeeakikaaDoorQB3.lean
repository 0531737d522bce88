-- Written by a program of this session (px.py) out of the translation's print. Not trusted: Lean checks it.
import Derived.Test.YtloagejeeakikaaDoorQB0
import Derived.Test.YtloagejeeakikaaDoorQB2
import Derived.Test.YtloagejeeakikaaDoorMem
import Derived.WalkSpells
namespace Go.Proofs.YtloagejeeakikaaDoor.QB
open Go.RowKit Go.Proofs.YtloagejeeakikaaDoorW.PrintWords Go.Proofs.YtloagejeeakikaaDoorW.PrintLast Go.Proofs.YtloagejeeakikaaDoorW.PrintMore
attribute [local go_sem] max2_int min2_int max_two min_two max_three min_three max_four min_four   -- for this text's walks alone
set_option linter.unusedVariables false
set_option linter.unusedSimpArgs false

/-! ### slices_Clone_byte_byte: function 62 -/
open Go.Proofs.YtloagejeeakikaaDoor.Mem
theorem Clone_bytes (A : Option Addr) (c : Nat) (xs : List Int) (w : World) (hR : ReadsInt w .u8 A xs.length xs) (hl : xs.length ≤ 140737488355328) :
    Calls Tryd.prog 62 #[.slice A xs.length c] w (PutRow w xs) := by
  have heq := fun W => Lib.run_eql_slice_nil (P := Tryd.prog) W 25 5 A xs.length c 0 0 Tryd.underlying25
  have HR := Aside0.mk hR
  have HL := Aside0.mk hl
  clear hR hl
  cases A with
  | none =>
    have h0 : xs = [] := by
      rcases Nat.eq_zero_or_pos xs.length with h | h
      · exact List.eq_nil_of_length_eq_zero h
      · obtain ⟨ad, e, _⟩ := HR.out.2.2 h
        cases e
    subst h0
    replace heq : ∀ W, (binOp .eql 25 (.slice none 0 c) (.slice none 0 0)).run Tryd.prog W = .ok (.bool true) W := fun W => Lib.run_eql_slice_nil (P := Tryd.prog) W 25 5 none 0 c 0 0 Tryd.underlying25
    go_enter Tryd.func62, Tryd.ntmps62
    go_wp2
    go_ret
    exact ⟨_, rfl, Kd.R_nil _ _ _ _ _, Below.refl _ _⟩
  | some ad =>
    go_enter Tryd.func62, Tryd.ntmps62
    go_wp2_with (at_builtin; go_loud (refine print_append_row (w0 := w) w.heap.size rfl (.tmp 5) (.tmp 6) 25 5 .u8 1 rfl Tryd.underlying25 info5 (by decide) _ [] xs (some ad) xs.length c rfl rfl (own_lit w w.heap.size 5 .u8 [] (Nat.le_refl _) (by simp)) (reads_kept HR.out (FrameS.of_below (below_alloc (Below.refl _ _) _) (fun _ => False)) (fun _ _ _ h => h)) (below_alloc (Below.refl _ _) _) (by simp) (by have := HL.out; simp; omega) ?_); intro v1 w1 hown1 hB1 hg1 hat1; have HO1 := Aside0.mk hown1; have HB1 := Aside0.mk hB1; clear hown1 hB1 hg1 hat1)
    go_ret
    exact ⟨_, rfl, Kd.R_of_own HO1.out (fun _ _ => trivial), HB1.out⟩

end Go.Proofs.YtloagejeeakikaaDoor.QB
