/- Text of this claim: plain Lean over the printed functions (First). -/
import Derived.Test.YtloagejeeakikaaDoorQAUtf
namespace Go.Proofs.YtloagejeeakikaaDoor.QA
open Go.RowKit Go.Proofs.YtloagejeeakikaaDoorW.PrintWords Go.Proofs.YtloagejeeakikaaDoorW.PrintLast Go.Proofs.YtloagejeeakikaaDoorW.PrintMore
set_option linter.unusedVariables false
set_option linter.unusedSimpArgs false
def outL (p : Int × Nat) : Int × Int := if p = (65533, 1) then (0, 0) else (p.1, (p.2 : Int))
theorem outL_bad : outL (65533, 1) = (0, 0) := if_pos rfl
theorem outL_ok (x : Int) (n : Nat) (h : ¬ (x = 65533 ∧ n = 1)) : outL (x, n) = (x, (n : Int)) := by
  unfold outL
  rw [if_neg (fun e => h (by injection e with a b; exact ⟨a, b⟩))]
theorem firstL_cons (b0 : Int) (r : List Int) : firstL (b0 :: r) = outL (decL (b0 :: r)) := rfl
def guardL (v : Int) (n : Nat) (bs : List Int) : Int × Int := if rightB v = true ∧ bytesL v = bs then (v, (n : Int)) else (0, 0)
theorem guard_ok (v : Int) (n : Nat) (bs : List Int) (h1 : rightB v = true) (h2 : bytesL v = bs) : guardL v n bs = (v, (n : Int)) := if_pos ⟨h1, h2⟩
theorem guard_bad (v : Int) (n : Nat) (bs : List Int) (h : ¬ (rightB v = true ∧ bytesL v = bs)) : guardL v n bs = (0, 0) := if_neg h
def endL (o : Option Int) (n : Nat) (bs : List Int) : Int × Int := match o with | some v => guardL v n bs | none => (0, 0)
theorem restL_cons (n : Nat) (b : Int) (t : List Int) (r : Int) : restL (n + 1) (b :: t) r = if 128 ≤ b ∧ b ≤ 191 then restL n t (r * 64 + b - 128) else none := rfl
theorem decL1 (b0 : Int) (r : List Int) (h : b0 < 128) : decL (b0 :: r) = (b0, 1) := by simp only [decL]; rw [if_pos h]
theorem decLb (b0 : Int) (r : List Int) (h : 128 ≤ b0) (h2 : b0 < 192) : decL (b0 :: r) = (65533, 1) := by
  simp only [decL]; rw [if_neg (by omega), if_neg (by omega), if_neg (by omega), if_neg (by omega)]
theorem decL2 (b0 b1 : Int) (r : List Int) (h : 192 ≤ b0) (h2 : b0 < 224) : decL (b0 :: b1 :: r) = if 128 ≤ b1 ∧ b1 ≤ 191 ∧ 128 ≤ (b0 - 192) * 64 + (b1 - 128) then ((b0 - 192) * 64 + (b1 - 128), 2) else (65533, 1) := by
  simp only [decL]; rw [if_neg (by omega), if_pos ⟨h, h2⟩]
theorem decL3 (b0 b1 b2 : Int) (r : List Int) (h : 224 ≤ b0) (h2 : b0 < 240) : decL (b0 :: b1 :: b2 :: r) = if 128 ≤ b1 ∧ b1 ≤ 191 ∧ 128 ≤ b2 ∧ b2 ≤ 191 ∧ 2048 ≤ (b0 - 224) * 4096 + (b1 - 128) * 64 + (b2 - 128) ∧ ((b0 - 224) * 4096 + (b1 - 128) * 64 + (b2 - 128) < 55296 ∨ 57344 ≤ (b0 - 224) * 4096 + (b1 - 128) * 64 + (b2 - 128))
          then ((b0 - 224) * 4096 + (b1 - 128) * 64 + (b2 - 128), 3) else (65533, 1) := by
  simp only [decL]; rw [if_neg (by omega), if_neg (by omega), if_pos ⟨h, h2⟩]
theorem decL4 (b0 b1 b2 b3 : Int) (r : List Int) (h : 240 ≤ b0) : decL (b0 :: b1 :: b2 :: b3 :: r) = if b0 < 248 ∧ 128 ≤ b1 ∧ b1 ≤ 191 ∧ 128 ≤ b2 ∧ b2 ≤ 191 ∧ 128 ≤ b3 ∧ b3 ≤ 191 ∧ 65536 ≤ (b0 - 240) * 262144 + (b1 - 128) * 4096 + (b2 - 128) * 64 + (b3 - 128) ∧ (b0 - 240) * 262144 + (b1 - 128) * 4096 + (b2 - 128) * 64 + (b3 - 128) ≤ 1114111
          then ((b0 - 240) * 262144 + (b1 - 128) * 4096 + (b2 - 128) * 64 + (b3 - 128), 4) else (65533, 1) := by
  simp only [decL]; rw [if_neg (by omega), if_neg (by omega), if_neg (by omega)]
  repeat' split
  all_goals first | rfl | (exfalso; omega)
theorem decLs (b0 : Int) (r : List Int) (h : 192 ≤ b0) (h2 : r.length + 1 < sizeL b0) : decL (b0 :: r) = (65533, 1) := by
  unfold sizeL at h2
  simp only [decL]; rw [if_neg (by omega)]
  match r with
  | [] => simp
  | [b1] => simp only [List.length_cons, List.length_nil] at h2; rw [if_neg (by intro h; rw [if_neg (by omega), if_neg (by omega), if_pos (by omega)] at h2; omega)]; simp
  | [b1, b2] =>
    simp only [List.length_cons, List.length_nil] at h2
    by_cases c : b0 ≥ 240
    · rw [if_neg (by omega), if_neg (by omega)]; simp
    · rw [if_neg c] at h2; split at h2 <;> first | omega | (split at h2 <;> omega)
  | _ :: _ :: _ :: _ => simp only [List.length_cons] at h2; split at h2 <;> first | omega | (split at h2 <;> first | omega | (split at h2 <;> omega))
theorem endL_some (v : Int) (n : Nat) (bs : List Int) : endL (some v) n bs = guardL v n bs := rfl
theorem endL_none (n : Nat) (bs : List Int) : endL none n bs = (0, 0) := rfl
theorem list1 (b0 : Int) (r : List Int) (h0 : 0 ≤ b0) (h : b0 < 128) : guardL b0 1 [b0] = outL (decL (b0 :: r)) := by
  rw [decL1 b0 r h, outL_ok _ _ (by omega), guard_ok _ _ _ (by unfold rightB; simp; omega) (by unfold bytesL; rw [if_pos h])]
theorem listb (b0 : Int) (r : List Int) (h0 : 128 ≤ b0) (h : b0 < 192) : guardL b0 1 [b0] = outL (decL (b0 :: r)) := by
  rw [decLb b0 r h0 h, outL_bad, guard_bad _ _ _ (by rintro ⟨_, h⟩; unfold bytesL at h; rw [if_neg (by omega), if_pos (by omega)] at h; simp at h)]
theorem list2 (b0 b1 : Int) (r : List Int) (h0 : 192 ≤ b0) (h : b0 < 224) : endL (restL 1 (b1 :: r) (b0 - 192)) 2 [b0, b1] = outL (decL (b0 :: b1 :: r)) := by
  rw [decL2 b0 b1 r h0 h, restL_cons]
  by_cases d : 128 ≤ b1 ∧ b1 ≤ 191
  · rw [if_pos d, restL, endL_some]
    by_cases e : 128 ≤ (b0 - 192) * 64 + (b1 - 128)
    · rw [if_pos ⟨d.1, d.2, e⟩, outL_ok _ _ (by omega), guard_ok]
      · refine Prod.ext ?_ rfl
        dsimp only
        omega
      · unfold rightB; simp; omega
      · unfold bytesL
        rw [if_neg (by omega), if_pos (by omega)]
        simp only [List.cons.injEq, and_true]; omega
    · rw [if_neg (by omega), outL_bad, guard_bad]
      rintro ⟨_, h⟩
      unfold bytesL at h
      rw [if_pos (by omega)] at h
      simp at h
  · rw [if_neg d, endL_none, if_neg (by omega), outL_bad]
theorem list3 (b0 b1 b2 : Int) (r : List Int) (h0 : 224 ≤ b0) (h : b0 < 240) : endL (restL 2 (b1 :: b2 :: r) (b0 - 224)) 3 [b0, b1, b2] = outL (decL (b0 :: b1 :: b2 :: r)) := by
  rw [decL3 b0 b1 b2 r h0 h, restL_cons]
  by_cases d : 128 ≤ b1 ∧ b1 ≤ 191
  · rw [if_pos d, restL_cons]
    by_cases d2 : 128 ≤ b2 ∧ b2 ≤ 191
    · rw [if_pos d2, restL, endL_some]
      have ev : ((b0 - 224) * 64 + b1 - 128) * 64 + b2 - 128 = (b0 - 224) * 4096 + (b1 - 128) * 64 + (b2 - 128) := by omega
      rw [ev]
      by_cases e : 2048 ≤ (b0 - 224) * 4096 + (b1 - 128) * 64 + (b2 - 128) ∧ ((b0 - 224) * 4096 + (b1 - 128) * 64 + (b2 - 128) < 55296 ∨ 57344 ≤ (b0 - 224) * 4096 + (b1 - 128) * 64 + (b2 - 128))
      · rw [if_pos ⟨d.1, d.2, d2.1, d2.2, e⟩, outL_ok _ _ (by omega), guard_ok]
        · unfold rightB; simp; omega
        · unfold bytesL
          rw [if_neg (by omega), if_neg (by omega), if_pos (by omega)]
          simp only [List.cons.injEq, and_true]; omega
      · rw [if_neg (by omega), outL_bad, guard_bad]
        rintro ⟨h3, h⟩
        unfold rightB at h3
        simp only [decide_eq_true_eq] at h3
        unfold bytesL at h
        split at h
        · simp at h
        rw [if_pos (by omega)] at h
        simp at h
    · rw [if_neg d2, endL_none, if_neg (by omega), outL_bad]
  · rw [if_neg d, endL_none, if_neg (by omega), outL_bad]
theorem list4 (b0 b1 b2 b3 : Int) (r : List Int) (h0 : 240 ≤ b0) (h : b0 ≤ 255) : endL (restL 3 (b1 :: b2 :: b3 :: r) (b0 - 240)) 4 [b0, b1, b2, b3] = outL (decL (b0 :: b1 :: b2 :: b3 :: r)) := by
  rw [decL4 b0 b1 b2 b3 r h0, restL_cons]
  by_cases d : 128 ≤ b1 ∧ b1 ≤ 191
  · rw [if_pos d, restL_cons]
    by_cases d2 : 128 ≤ b2 ∧ b2 ≤ 191
    · rw [if_pos d2, restL_cons]
      by_cases d3 : 128 ≤ b3 ∧ b3 ≤ 191
      · rw [if_pos d3, restL, endL_some]
        have ev : (((b0 - 240) * 64 + b1 - 128) * 64 + b2 - 128) * 64 + b3 - 128 = (b0 - 240) * 262144 + (b1 - 128) * 4096 + (b2 - 128) * 64 + (b3 - 128) := by omega
        rw [ev]
        by_cases e : 65536 ≤ (b0 - 240) * 262144 + (b1 - 128) * 4096 + (b2 - 128) * 64 + (b3 - 128) ∧ (b0 - 240) * 262144 + (b1 - 128) * 4096 + (b2 - 128) * 64 + (b3 - 128) ≤ 1114111
        · rw [if_pos ⟨by omega, d.1, d.2, d2.1, d2.2, d3.1, d3.2, e⟩, outL_ok _ _ (by omega), guard_ok]
          · unfold rightB; simp; omega
          · unfold bytesL
            rw [if_neg (by omega), if_neg (by omega), if_neg (by omega)]
            simp only [List.cons.injEq, and_true]; omega
        · rw [if_neg (by omega), outL_bad, guard_bad]
          rintro ⟨h4, h⟩
          unfold rightB at h4
          simp only [decide_eq_true_eq] at h4
          unfold bytesL at h
          split at h
          · simp at h
          split at h
          · simp at h
          rw [if_pos (by omega)] at h
          simp at h
      · rw [if_neg d3, endL_none, if_neg (by omega), outL_bad]
    · rw [if_neg d2, endL_none, if_neg (by omega), outL_bad]
  · rw [if_neg d, endL_none, if_neg (by omega), outL_bad]
theorem first_list (b0 : Int) (r : List Int) (hall : ∀ x ∈ b0 :: r, 0 ≤ x ∧ x ≤ 255) :
    (if sizeL b0 ≤ r.length + 1 then endL (restL (sizeL b0 - 1) r (bitsL b0)) (sizeL b0) ((b0 :: r).take (sizeL b0)) else (0, 0)) = firstL (b0 :: r) := by
  have h0 := hall b0 (by simp)
  rw [firstL_cons]
  by_cases hs : ¬ sizeL b0 ≤ r.length + 1
  · rw [if_neg hs, decLs b0 r ?_ (by omega), outL_bad]
    unfold sizeL at hs
    by_cases c : 192 ≤ b0
    · exact c
    · rw [if_neg (by omega), if_neg (by omega), if_neg (by omega)] at hs; omega
  have hs := Decidable.of_not_not hs
  rw [if_pos hs]
  by_cases c4 : b0 ≥ 240
  · have e1 : sizeL b0 = 4 := if_pos c4
    have e2 : bitsL b0 = b0 - 240 := if_pos c4
    rw [e1] at hs ⊢
    rw [e2]
    match r, hs with
    | b1 :: b2 :: b3 :: t, _ => exact list4 b0 b1 b2 b3 t c4 h0.2
    | [], hs => simp at hs
    | [_], hs => simp at hs
    | [_, _], hs => simp at hs
  by_cases c3 : b0 ≥ 224
  · have e1 : sizeL b0 = 3 := by unfold sizeL; rw [if_neg c4, if_pos c3]
    have e2 : bitsL b0 = b0 - 224 := by unfold bitsL; rw [if_neg c4, if_pos c3]
    rw [e1] at hs ⊢
    rw [e2]
    match r, hs with
    | b1 :: b2 :: t, _ => exact list3 b0 b1 b2 t c3 (by omega)
    | [], hs => simp at hs
    | [_], hs => simp at hs
  by_cases c2 : b0 ≥ 192
  · have e1 : sizeL b0 = 2 := by unfold sizeL; rw [if_neg c4, if_neg c3, if_pos c2]
    have e2 : bitsL b0 = b0 - 192 := by unfold bitsL; rw [if_neg c4, if_neg c3, if_pos c2]
    rw [e1] at hs ⊢
    rw [e2]
    match r, hs with
    | b1 :: t, _ => exact list2 b0 b1 t c2 (by omega)
    | [], hs => simp at hs
  have e1 : sizeL b0 = 1 := by unfold sizeL; rw [if_neg c4, if_neg c3, if_neg c2]
  have e2 : bitsL b0 = b0 := by unfold bitsL; rw [if_neg c4, if_neg c3, if_neg c2]
  rw [e1, e2]
  by_cases c1 : b0 < 128
  · exact list1 b0 r h0.1 c1
  · exact listb b0 r (by omega) (by omega)
theorem First_eq (k : Nat) (s : ByteArray) : oublietteref02_First.f (k + 6) s = some (firstL (bytesOf s)) := by
  match hb : bytesOf s with
  | [] =>
    have hl : s.size = 0 := by rw [← bytesOf_length s, hb]; rfl
    unfold oublietteref02_First.f
    rw [if_pos (by omega)]
    rfl
  | b0 :: r =>
    have hl : s.size = r.length + 1 := by rw [← bytesOf_length s, hb]; rfl
    have hz : 1 ≤ sizeL b0 ∧ sizeL b0 ≤ 4 := by unfold sizeL; repeat' split
                                                all_goals omega
    have h0 := bytesOf_range s b0 (by rw [hb]; simp)
    rw [show k + 6 = (k + 5) + 1 from rfl, First_head _ s b0 r hb, ← first_list b0 r (by rw [← hb]; exact bytesOf_range s), hl, show (1 : Int) = ((1 : Nat) : Int) from rfl]
    split
    · rename_i hle
      rw [show k + 5 = (k + 5 - (sizeL b0 - 1) - 1) + (sizeL b0 - 1) + 1 from by omega,
        first_rest (sizeL b0 - 1) _ s (sizeL b0) (bitsL b0) 1 (by omega) (by omega) (by omega) (by omega) ?_ ?_, hb]
      · rfl
      · unfold bitsL; repeat' split
        all_goals omega
      · intro hne
        unfold sizeL bitsL at *
        split
        · simp; omega
        rename_i n4
        rw [if_neg n4] at hne
        split
        · simp; omega
        rename_i n3
        rw [if_neg n3] at hne
        split
        · simp; omega
        rename_i n2
        rw [if_neg n2] at hne
        omega
    · rfl
end Go.Proofs.YtloagejeeakikaaDoor.QA
