-- Written by a program of this session (px.py) out of the translation's print. Not trusted: Lean checks it.
import Derived.Test.YtloagejeeakikaaQX0
import Derived.Test.YtloagejeeakikaaQX5
import Derived.Test.YtloagejeeakikaaQX6
import Derived.Test.YtloagejeeakikaaQX8
import Derived.Test.YtloagejeeakikaaQX9
import Derived.Test.YtloagejeeakikaaMem
namespace Go.Proofs.Ytloagejeeakikaa.QX
open Go.RowKit Go.Proofs.YtloagejeeakikaaW.PrintWords Go.Proofs.YtloagejeeakikaaW.PrintLast Go.Proofs.YtloagejeeakikaaW.PrintMore
attribute [local go_sem] max2_int min2_int max_two min_two max_three min_three max_four min_four   -- for this text's walks alone
set_option linter.unusedVariables false
set_option linter.unusedSimpArgs false

/-! ### record_PutHeader: function 21 -/
open Go.Proofs.Ytloagejeeakikaa.Mem
/-- What begun comes to: a new Writer of one byte. -/
def BPost (c : Int) (w : World) (e : Ending) (w' : World) : Prop :=
  e = .returned (.pointer (some ⟨w.heap.size, 0, none⟩)) ∧ ∃ S : Nat → Prop, IsW S w.heap.size [c] w' ∧ (∀ k, S k → w.heap.size ≤ k) ∧ Below w.heap.size w w'
theorem isW_new (w : World) : IsW (fun k => k = w.heap.size) w.heap.size [] (w.alloc (.cells #[.slice none 0 0] 69)) :=
  ⟨_, heap_alloc_new w _, own_nil _ _ _ _, fun k hk => by simp [Value.ownBlock] at hk, rfl, fun k hk => by subst hk; simp⟩
set_option maxHeartbeats 800000 in
theorem begun_calls (c : Int) (w : World) : Calls Try.prog 26 #[.int .u8 c] w (BPost c w) := by
  go_enter Try.func26, Try.ntmps26
  go_wp2_with (fail)
  refine (Writer_Byte _ w.heap.size [] c _ (isW_new w) (by simp)).mono ?_
  rintro e w' ⟨rfl, S1, hW1, hS1, hF1⟩
  have HP := Aside0.mk (And.intro hW1 (And.intro hS1 hF1))
  clear hW1 hS1 hF1
  go_wp2_with (fail)
  go_ret
  refine ⟨rfl, S1, HP.out.1, fun k hk => (HP.out.2.1 k hk).elim (fun h => by omega) (fun h => by simp at h; omega), ?_⟩
  exact (below_alloc (Below.refl _ _) _).trans (HP.out.2.2.below (B := w.heap.size) (by simp) (fun k hk => by omega))
/-- Two ints, one int more and a text in block b: cell by cell. -/
def Hdr (b : Nat) (x y z : Int) (s : ByteArray) (w : World) : Prop :=
  w.cell? ⟨b, 0, none⟩ = some (.int .i64 x) ∧ w.cell? ⟨b, 1, none⟩ = some (.int .i64 y) ∧ w.cell? ⟨b, 2, none⟩ = some (.int .i64 z) ∧ w.cell? ⟨b, 3, none⟩ = some (.string s)
theorem Hdr.new (w : World) (x y z : Int) (s : ByteArray) (T : TypeId) : Hdr w.heap.size x y z s (w.alloc (.cells #[.int .i64 x, .int .i64 y, .int .i64 z, .string s] T)) := by
  refine ⟨?_, ?_, ?_, ?_⟩ <;> (unfold World.cell?; rw [heap_alloc_new]; rfl)
theorem Hdr.step {b : Nat} {x y z : Int} {s : ByteArray} {w w1 : World} (h : Hdr b x y z s w) {B : Nat} (hB : Below B w w1) (hb : b < B) : Hdr b x y z s w1 :=
  ⟨(hB.cell (p := ⟨b, 0, none⟩) hb).trans h.1, (hB.cell (p := ⟨b, 1, none⟩) hb).trans h.2.1, (hB.cell (p := ⟨b, 2, none⟩) hb).trans h.2.2.1, (hB.cell (p := ⟨b, 3, none⟩) hb).trans h.2.2.2⟩
/-- A step of a Writer whose blocks lie from B on. -/
theorem WPost.below {S : Nat → Prop} {g : Nat} {bs : List Int} {w w' : World} {e : Ending} (h : WPost S g bs w e w') {B : Nat} (hB : B ≤ w.heap.size) (hS : ∀ k, S k → B ≤ k) :
    ∃ S' : Nat → Prop, IsW S' g bs w' ∧ (∀ k, S' k → B ≤ k) ∧ Below B w w' := by
  obtain ⟨_, S', hW, hS', hF⟩ := h
  exact ⟨S', hW, fun k hk => (hS' k hk).elim (hS k) (fun h => by omega), hF.below hB hS⟩
theorem put_wrap (x : Int) : num_Put.f (IntKind.u64.wrap x) 4 = some (putB (IntKind.u64.wrap x) 4) := by
  unfold num_Put.f
  have h : 0 ≤ IntKind.u64.wrap x ∧ IntKind.u64.wrap x ≤ 18446744073709551615 := by simp only [IntKind.wrap_u64]; omega
  rw [if_pos h, if_pos (by decide)]
  rfl
/-- A header's bytes. -/
def hdrBytes (e o s : Int) (st : ByteArray) : List Int := [1] ++ putB (IntKind.u64.wrap e) 4 ++ putB (IntKind.u64.wrap o) 4 ++ [s % 256] ++ putB st.size 2 ++ bytesOf st
def record_PutHeader.f (a0_0 a0_1 a0_2 : Int) (a0_3 : ByteArray) : Option (List Int × Int) :=
  if a0_3.size ≤ 65535 then (record_Header_right.f a0_0 a0_1 a0_2 a0_3).bind fun t => if t = true then some (hdrBytes a0_0 a0_1 a0_2 a0_3, 0) else some ([], 2) else none
def HPost (w : World) (bs : List Int) (f : Int) (e : Ending) (w' : World) : Prop :=
  ∃ v0_ : Value, e = .returned (.tuple #[v0_, .int .i64 f]) ∧ Kd.R (Kd.int .u8) 5 w' w.heap.size (fun _ => True) v0_ bs ∧ Below w.heap.size w w'
set_option maxHeartbeats 1600000 in
theorem record_PutHeader.calls' (a0_0 a0_1 a0_2 : Int) (a0_3 : ByteArray) (r1 : List Int) (r2 : Int) (w : World) (h : record_PutHeader.f a0_0 a0_1 a0_2 a0_3 = some (r1, r2)) :
    Calls Try.prog 21 #[.agg #[.int .i64 a0_0, .int .i64 a0_1, .int .i64 a0_2, .string a0_3]] w (HPost w r1 r2) := by
  unfold record_PutHeader.f at h
  split at h
  case isFalse => simp at h
  rename_i hs
  obtain ⟨t, ht, h⟩ := Option.bind_eq_some_iff.mp h
  have HT := Aside0.mk ht
  have HSZ := Aside0.mk hs
  clear ht hs
  have hH := Hdr.new w a0_0 a0_1 a0_2 a0_3 27
  have HH := Aside0.mk hH
  clear hH
  cases t with
  | false =>
    simp at h
    obtain ⟨rfl, rfl⟩ := h
    go_enter Try.func21, Try.ntmps21
    go_wp2_with (fail)
    refine (record_Header_right.calls a0_0 a0_1 a0_2 a0_3 false _ HT.out).mono ?_
    rintro e w1 ⟨rfl, hb⟩
    have HB := Aside0.mk ((below_alloc (Below.refl _ _) _).trans (hb.mono (by simp)))
    clear hb
    go_wp2_with (fail)
    go_ret2
    exact ⟨_, rfl, Kd.R_nil _ _ _ _ _, HB.out⟩
  | true =>
    simp at h
    obtain ⟨rfl, rfl⟩ := h
    go_enter Try.func21, Try.ntmps21
    go_wp2_with (fail)
    refine (record_Header_right.calls a0_0 a0_1 a0_2 a0_3 true _ HT.out).mono ?_
    rintro e w1 ⟨rfl, hb⟩
    have hsz : w.heap.size + 1 ≤ w1.heap.size := by have := hb.size; simp at this; omega
    have hh1 := HH.out.step hb (by simp)
    have HB := Aside0.mk ((below_alloc (Below.refl _ _) _).trans (hb.mono (by simp)))
    have HH1 := Aside0.mk hh1
    clear hb HH hh1
    go_wp2_with (fail)
    refine (begun_calls 1 w1).mono ?_
    rintro e w2 ⟨rfl, S2, hW2, hS2, hB2⟩
    have hh2 := HH1.out.step hB2 (by omega)
    have hsz2 : w.heap.size + 1 ≤ w2.heap.size := by have := hB2.size; omega
    obtain ⟨c20, c21, c22, c23⟩ := hh2
    have HH2 := Aside0.mk (show Hdr w.heap.size a0_0 a0_1 a0_2 a0_3 w2 from And.intro c20 (And.intro c21 (And.intro c22 c23)))
    have HW2 := Aside0.mk hW2
    have HS2 := Aside0.mk (fun k hk => show w.heap.size + 1 ≤ k from by have := hS2 k hk; omega)
    have HB2 := Aside0.mk ((HB.out.mono (Nat.le_refl _)).trans (hB2.mono (B' := w.heap.size) (by omega)))
    clear hW2 hS2 hB2 HH1 HB
    go_wp2_with (fail)
    clear c20 c21 c22 c23
    refine (Writer_Number S2 w1.heap.size _ _ _ 4 w2 HW2.out (put_wrap a0_0) (by simp [putB, putFrom_len])).mono ?_
    intro e w3 hp
    obtain ⟨S3, hW3, hS3, hB3⟩ := hp.below (B := w.heap.size + 1) (by have := hsz2; omega) HS2.out
    obtain ⟨rfl, -⟩ := hp
    have hsz3 : w.heap.size + 1 ≤ w3.heap.size := by have := hB3.size; have := hsz2; omega
    obtain ⟨c30, c31, c32, c33⟩ := Hdr.step HH2.out hB3 (by omega)
    have HH3 := Aside0.mk (show Hdr w.heap.size a0_0 a0_1 a0_2 a0_3 w3 from And.intro c30 (And.intro c31 (And.intro c32 c33)))
    have HW3 := Aside0.mk hW3
    have HS3 := Aside0.mk hS3
    have HB3 := Aside0.mk (HB2.out.trans (hB3.mono (B' := w.heap.size) (by omega)))
    clear hW3 hS3 hB3 HH2 HW2 HS2 HB2
    go_wp2_with (fail)
    clear c30 c31 c32 c33
    refine (Writer_Number S3 w1.heap.size _ _ _ 4 w3 HW3.out (put_wrap a0_1) (by simp [putB, putFrom_len])).mono ?_
    intro e w4 hp
    obtain ⟨S4, hW4, hS4, hB4⟩ := hp.below (B := w.heap.size + 1) (by have := hsz3; omega) HS3.out
    obtain ⟨rfl, -⟩ := hp
    have hsz4 : w.heap.size + 1 ≤ w4.heap.size := by have := hB4.size; have := hsz3; omega
    obtain ⟨c40, c41, c42, c43⟩ := Hdr.step HH3.out hB4 (by omega)
    have HH4 := Aside0.mk (show Hdr w.heap.size a0_0 a0_1 a0_2 a0_3 w4 from And.intro c40 (And.intro c41 (And.intro c42 c43)))
    have HW4 := Aside0.mk hW4
    have HS4 := Aside0.mk hS4
    have HB4 := Aside0.mk (HB3.out.trans (hB4.mono (B' := w.heap.size) (by omega)))
    clear hW4 hS4 hB4 HH3 HW3 HS3 HB3
    go_wp2_with (fail)
    clear c40 c41 c42 c43
    refine (Writer_Byte S4 w1.heap.size _ _ w4 HW4.out (by simp [putB, putFrom_len])).mono ?_
    intro e w5 hp
    obtain ⟨S5, hW5, hS5, hB5⟩ := hp.below (B := w.heap.size + 1) (by have := hsz4; omega) HS4.out
    obtain ⟨rfl, -⟩ := hp
    have hsz5 : w.heap.size + 1 ≤ w5.heap.size := by have := hB5.size; have := hsz4; omega
    obtain ⟨c50, c51, c52, c53⟩ := Hdr.step HH4.out hB5 (by omega)
    have HH5 := Aside0.mk (show Hdr w.heap.size a0_0 a0_1 a0_2 a0_3 w5 from And.intro c50 (And.intro c51 (And.intro c52 c53)))
    have HW5 := Aside0.mk hW5
    have HS5 := Aside0.mk hS5
    have HB5 := Aside0.mk (HB4.out.trans (hB5.mono (B' := w.heap.size) (by omega)))
    clear hW5 hS5 hB5 HH4 HW4 HS4 HB4
    go_wp2_with (fail)
    clear c50 c51 c52 c53
    refine (Writer_Text S5 w1.heap.size _ a0_3 w5 HW5.out HSZ.out (by have := HSZ.out; simp [putB, putFrom_len]; omega)).mono ?_
    intro e w6 hp
    obtain ⟨S6, hW6, hS6, hB6⟩ := hp.below (B := w.heap.size + 1) (by have := hsz5; omega) HS5.out
    obtain ⟨rfl, -⟩ := hp
    have hsz6 : w.heap.size + 1 ≤ w6.heap.size := by have := hB6.size; have := hsz5; omega
    obtain ⟨c60, c61, c62, c63⟩ := Hdr.step HH5.out hB6 (by omega)
    have HH6 := Aside0.mk (show Hdr w.heap.size a0_0 a0_1 a0_2 a0_3 w6 from And.intro c60 (And.intro c61 (And.intro c62 c63)))
    have HW6 := Aside0.mk hW6
    have HS6 := Aside0.mk hS6
    have HB6 := Aside0.mk (HB5.out.trans (hB6.mono (B' := w.heap.size) (by omega)))
    clear hW6 hS6 hB6 HH5 HW5 HS5 HB5
    go_wp2_with (fail)
    clear c60 c61 c62 c63
    refine (Writer_Out S6 w1.heap.size _ w6 HW6.out (by have := HSZ.out; simp [putB, putFrom_len, bytesOf_length]; omega)).mono ?_
    rintro e w7 ⟨v, rfl, hr, hb⟩
    have HP := Aside0.mk (And.intro hr hb)
    clear hr hb
    go_wp2_with (fail)
    go_ret2
    exact ⟨_, rfl, Kd.R_lower HP.out.1 (by omega), HB6.out.trans (HP.out.2.mono (by omega))⟩
theorem record_PutHeader.calls (a0_0 a0_1 a0_2 : Int) (a0_3 : ByteArray) (r1 : List Int) (r2 : Int) (w : World) (h : record_PutHeader.f a0_0 a0_1 a0_2 a0_3 = some (r1, r2)) :
    Calls Try.prog 21 #[.agg #[.int .i64 a0_0, .int .i64 a0_1, .int .i64 a0_2, .string a0_3]] w fun e w' => ∃ v0_ : Value, e = .returned (.tuple #[v0_, .int .i64 r2]) ∧ Kd.R (Kd.int .u8) 5 w' w.heap.size (fun _ => True) v0_ r1 ∧ Below w.heap.size w w' :=
  (record_PutHeader.calls' a0_0 a0_1 a0_2 a0_3 r1 r2 w h).mono fun _ _ h => h

end Go.Proofs.Ytloagejeeakikaa.QX
