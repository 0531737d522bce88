-- Written by a program of this session (px.py) out of the translation's print. Not trusted: Lean checks it.
import Derived.Test.YtloagejeeakikaaQX0
import Derived.Test.YtloagejeeakikaaQX11
import Derived.RangeFuncNested
import Derived.RangeFuncBound
import Derived.RangeFuncCalls
import Derived.RangeFuncLeaves
import Derived.RangeFuncBox
import Derived.Shelf.Abstract
import Derived.WalkKit
import Derived.OwnWalkIn
import Derived.TacticsInMore
import Derived.LoopNIn
import Derived.LoopIn
import Derived.Maps.AppendAt
namespace Go.Proofs.Ytloagejeeakikaa.QX
open Go.RowKit Go.Proofs.YtloagejeeakikaaW.PrintWords Go.Proofs.YtloagejeeakikaaW.PrintLast Go.Proofs.YtloagejeeakikaaW.PrintMore
attribute [local go_sem] max2_int min2_int max_two min_two max_three min_three max_four min_four   -- for this text's walks alone
set_option linter.unusedVariables false
set_option linter.unusedSimpArgs false

/-! ### policy_Kept: function 10 -/
open Go.Shelf
attribute [local go_sem] Oper.semAt_some
/-- The epochs from o on that are kept: n of them. -/
def fromL (o : Int) (n : Nat) : List Int := (List.range n).map fun (i : Nat) => o + (i : Int)
theorem fromL_succ (o : Int) (n : Nat) : fromL o (n + 1) = fromL o n ++ [o + (n : Int)] := by simp [fromL, List.range_succ]
theorem fromL_length (o : Int) (n : Nat) : (fromL o n).length = n := by simp [fromL]
theorem fromL_prefix (o : Int) {k n : Nat} (h : k ≤ n) : fromL o k <+: fromL o n := by
  refine ⟨fromL (o + k) (n - k), ?_⟩
  apply List.ext_getElem
  · simp [fromL]; omega
  · intro i h1 h2
    simp only [fromL, List.getElem_append, List.length_map, List.length_range, List.getElem_map, List.getElem_range]
    split
    · rfl
    · omega
def keptN (t : Bool) (e o : Int) : Nat := if t then (e - o + 1).toNat else 0
/-- The iterator's own block lies as it lay. -/
def KeptAt (b : Nat) (A B : World) : Prop := B.heap[b]? = A.heap[b]?
theorem keptAt_t {b : Nat} {A B C : World} (h : KeptAt b A B) (k : KeptAt b B C) : KeptAt b A C := Eq.trans k h
theorem keptAt_b {b : Nat} {w : World} (hn : b < w.heap.size) (W : World) (l : Nat) (o o' : Obj) (hl : w.heap.size ≤ l) (_ : W.heap[l]? = some o) (_ : o.isCells = false) (_ : o.isWalk = false) : KeptAt b W (W.putObj l o') :=
  World.putObj_heap_other (by omega)
theorem cell_later {W : World} {a : Addr} {v : Value} (o : Obj) (h : W.cell? a = some v) : (W.alloc o).cell? a = some v := cell_kept h (World.grownBy_alloc W o none) (fun r e => by cases e)
set_option maxRecDepth 100000 in
set_option maxHeartbeats 2000000 in
theorem epochs1_in (F : Fence) (n : Nat) (hFn : F = .wide) (hn : 1 ≤ n) (l Bh : Nat) (e o s : Int) (d : ByteArray) (t : Bool) (hr : policy_right.f e o s d = some t) (hb0 : t = true → 0 ≤ o ∧ e ≤ 1073741824)
    (J Jx : List Int → World → Prop) (W : World) (hJ : AbidesFrom W.heap.size J)
    (hY : ∀ pre x W, J pre W → pre.length < keptN t e o → YieldAt F (n - 1) Try.prog l #[.int .i64 x] W fun e W' =>
      (e = .returned (.bool true) ∧ J (pre ++ [x]) W' ∧ KeptAt Bh W W') ∨ (e = .returned (.bool false) ∧ Jx (pre ++ [x]) W'))
    (hBs : W.heap[Bh]? = some (.cells #[.int .i64 e, .int .i64 o, .int .i64 s, .string d] 27 (0, 0))) (h0 : J [] W) :
    CallsIn F n Try.prog 24 #[.func (.yield l) #[] #[], .pointer (some ⟨Bh, 0, none⟩)] W fun e' W' => (∃ v, e' = .returned v) ∧
      ((∃ ys, ys = fromL o (keptN t e o) ∧ J ys W') ∨ (∃ pre, (∃ k, k ≤ keptN t e o ∧ pre = fromL o k) ∧ Jx pre W')) := by
  subst hFn
  obtain ⟨M, hM⟩ : ∃ M, keptN t e o = M := ⟨_, rfl⟩
  rw [hM] at hY ⊢
  refine callsIn_of_wp Try.func24 rfl trivial ?_ rfl
  simp only [Try.ntmps24, List.size_toArray, List.length_cons, List.length_nil, Nat.reduceAdd, Nat.reduceSub, Array.replicate_succ, Array.replicate_zero, List.push_toArray, List.append_toArray, List.nil_append, List.cons_append]
  have hu27 := Try.underlying27
  have c0 : W.cell? ⟨Bh, 0, none⟩ = some (.int .i64 e) := (blk_cell hBs 0).trans rfl
  have c1 : W.cell? ⟨Bh, 1, none⟩ = some (.int .i64 o) := (blk_cell hBs 1).trans rfl
  have c2 : W.cell? ⟨Bh, 2, none⟩ = some (.int .i64 s) := (blk_cell hBs 2).trans rfl
  have c3 : W.cell? ⟨Bh, 3, none⟩ = some (.string d) := (blk_cell hBs 3).trans rfl
  cases t with
  | false =>
    gi_wp2_with (refine ⟨trivial, ?_⟩; gi_at_call 15; refine (callsIn_wide.2 (policy_right.calls e o s d false _ hr)).mono ?_; rintro e' w2 ⟨rfl, hbw⟩; have hB2 := blk_below hBs hbw; have c0' : w2.cell? ⟨Bh, 0, none⟩ = some (.int .i64 e) := (blk_cell hB2 0).trans rfl; have c1' : w2.cell? ⟨Bh, 1, none⟩ = some (.int .i64 o) := (blk_cell hB2 1).trans rfl)
    -- no header: no round
    have hJ2 : J [] w2 := hJ _ _ _ none h0 ⟨hbw.os, hbw.tape, hbw.output, hbw.size, fun k hk _ => hbw.block k hk⟩ (fun r e => by cases e)
    have : M = 0 := by rw [← hM]; rfl
    refine bodyPost_ret (results_none rfl _ _ _) rfl ?_
    exact ⟨⟨_, rfl⟩, .inl ⟨_, rfl, by rw [this]; exact hJ2⟩⟩
  | true =>
    gi_wp2_with (refine ⟨trivial, ?_⟩; gi_at_call 15; refine (callsIn_wide.2 (policy_right.calls e o s d true _ hr)).mono ?_; rintro e' w2 ⟨rfl, hbw⟩; have hB2 := blk_below hBs hbw; have c0' : w2.cell? ⟨Bh, 0, none⟩ = some (.int .i64 e) := (blk_cell hB2 0).trans rfl; have c1' : w2.cell? ⟨Bh, 1, none⟩ = some (.int .i64 o) := (blk_cell hB2 1).trans rfl)
    have hJ2 : J [] w2 := hJ _ _ _ none h0 ⟨hbw.os, hbw.tape, hbw.output, hbw.size, fun k hk _ => hbw.block k hk⟩ (fun r e => by cases e)
    have hN : keptN true e o = (e - o + 1).toNat := rfl
    rw [hN] at hM
    have hr0 : 0 ≤ o ∧ e ≤ 1073741824 := by simpa using hb0
    gi_loopw [3] (fun i wr => ∃ k : Nat, k ≤ M ∧ i = .int .i64 (o + (k : Int)) ∧ J (fromL o k) wr ∧ wr.heap[Bh]? = some (.cells #[.int .i64 e, .int .i64 o, .int .i64 s, .string d] 27 (0, 0)))
      (fun i _ => M - (intOf i - o).toNat)
    case atStart => exact ⟨0, Nat.zero_le _, by simp, hJ2, hB2⟩
    case round =>
      obtain ⟨k, hk, rfl, hJs, hbk⟩ := hrel
      have c0k : wr.cell? ⟨Bh, 0, none⟩ = some (.int .i64 e) := (blk_cell hbk 0).trans rfl
      by_cases hlt : k < M
      · obtain ⟨fn, tmps, assign, body, hy, hR⟩ := hY _ (o + (k : Int)) wr hJs (by rw [fromL_length]; exact hlt)
        have hle : o + (k : Int) ≤ e := by omega
        have hleb : decide (o + (k : Int) ≤ e) = true := decide_eq_true hle
        gi_wp2
        refine hR.mono ?_
        rintro e' W3 (⟨rfl, hJ3, hk3⟩ | ⟨rfl, hJx3⟩)
        · have hbk3 : W3.heap[Bh]? = _ := Eq.trans hk3 hbk
          have c0k3 : W3.cell? ⟨Bh, 0, none⟩ = some (.int .i64 e) := (blk_cell hbk3 0).trans rfl
          gi_wp2
          go_roundw
          case rel =>
            exact ⟨k + 1, by omega, by simp; omega, by rw [fromL_succ]; exact hJ3, hbk3⟩
          case measure =>
            simp [intOf]; omega
        · gi_wp2
          refine bodyPost_ret (results_none rfl _ _ _) rfl ?_
          exact ⟨⟨_, rfl⟩, .inr ⟨_, ⟨k + 1, by omega, (fromL_succ _ _).symm⟩, hJx3⟩⟩
      · obtain rfl : k = M := by omega
        have hleb : decide (o + (k : Int) ≤ e) = false := decide_eq_false (by omega)
        gi_wp2
        go_end0
        exact ⟨⟨_, rfl⟩, .inl ⟨_, rfl, hJs⟩⟩

theorem epochs_in (e o s : Int) (d : ByteArray) (n : Nat) (w : World) :
    CallsIn .wide n Try.prog 19 #[.agg #[.int .i64 e, .int .i64 o, .int .i64 s, .string d]] w fun e' w' => e' = .returned (.func (.func 24) #[] #[.pointer (some ⟨w.heap.size, 0, none⟩)]) ∧ w' = w.alloc (.cells #[.int .i64 e, .int .i64 o, .int .i64 s, .string d] 27) := by
  refine callsIn_of_wp Try.func19 rfl trivial ?_ rfl
  simp only [Try.ntmps19, List.size_toArray, List.length_cons, List.length_nil, Nat.reduceAdd, Nat.reduceSub, Array.replicate_succ, Array.replicate_zero, List.push_toArray, List.append_toArray, List.nil_append, List.cons_append]
  have hu27 := Try.underlying27
  gi_wp2
  go_ret
  exact ⟨rfl, rfl⟩
theorem epochs_stops (n : Nat) (hn : 1 ≤ n) (Bh : Nat) (e o s : Int) (d : ByteArray) (t : Bool) (hr : policy_right.f e o s d = some t) (hb0 : t = true → 0 ≤ o ∧ e ≤ 1073741824) (w : World) (hb : Bh < w.heap.size)
    (hc : w.heap[Bh]? = some (.cells #[.int .i64 e, .int .i64 o, .int .i64 s, .string d] 27 (0, 0))) :
    SeqStopsK .wide n Try.prog 24 #[.pointer (some ⟨Bh, 0, none⟩)] (fun x : Int => #[Value.int .i64 x]) (KeptAt Bh) (fun ys => ys = fromL o (keptN t e o)) (fun pre => ∃ k, k ≤ keptN t e o ∧ pre = fromL o k) (keptN t e o) w := fun l J Jx W hW hJ _ hY h0 =>
  epochs1_in .wide n rfl hn l Bh e o s d t hr hb0 J Jx W hJ hY ((hW.block _ hb).trans hc) h0
theorem infoI : (Try.prog.info? 3).map (fun i => (i.zero, i.size, i.bytes)) = some (some (.int .i64 0), 1, 8) := by kernel_rfl
set_option maxRecDepth 100000 in
set_option maxHeartbeats 2000000 in
theorem appendSeq_in (n : Nat) (hn : 3 ≤ n) (Bh : Nat) (e o s : Int) (d : ByteArray) (t : Bool) (hr : policy_right.f e o s d = some t) (hb0 : t = true → 0 ≤ o ∧ e ≤ 1073741824) (w : World) (hb : Bh < w.heap.size)
    (hc : w.heap[Bh]? = some (.cells #[.int .i64 e, .int .i64 o, .int .i64 s, .string d] 27 (0, 0))) (hlen : keptN t e o ≤ 10000000) :
    CallsIn .wide n Try.prog 23 #[.slice none 0 0, .func (.func 24) #[] #[.pointer (some ⟨Bh, 0, none⟩)]] w fun e' W' => ∃ v, e' = .returned v ∧ W'.ownsRow w.heap.size 3 1 v (keptN t e o) ((fromL o (keptN t e o)).map (Value.int .i64)) ∧ Below w.heap.size w W' := by
  have h1 : 1 ≤ n := by omega
  obtain ⟨i0, hi, hz0, hz1, hz2⟩ := info_parts infoI
  refine callsIn_of_wp_marks Try.func23 rfl trivial ?_ rfl
  simp only [Try.ntmps23, List.size_toArray, List.length_cons, List.length_nil, Nat.reduceAdd, Nat.reduceSub, Array.replicate_succ, Array.replicate_zero, List.push_toArray, List.append_toArray, List.nil_append, List.cons_append]
  gi_wp2
  have bO := Boxed.new w 37 (.slice none 0 0)
  have hB0 : Below w.heap.size w (w.alloc (.cells #[.slice none 0 0] 37)) := (Below.refl _ w).alloc (Nat.le_refl _) _
  refine wpIn_rangeFunc_ownG rfl h1 (gf := 24) (lb := #[.pointer (some ⟨Bh, 0, none⟩)]) rfl trivial (enters_of Try.func24 (by kernel_rfl) rfl)
    (epochs_stops (n - 1) (by omega) Bh e o s d t hr hb0 _ (by simp; omega) ((hB0.block _ hb).trans hc)) keptAt_t (keptAt_b (by simp; omega)) (Below.refl _ _) (fun _ => rfl)
    (fun pre W => (∃ v, Boxed W w.heap.size 37 v ∧ W.ownsRow w.heap.size 3 1 v pre.length (pre.map (Value.int .i64)) ∧ True) ∧ Below w.heap.size w W)
    (fun _ _ _ => False)
    (OwnFrom.and (Own.from (holdsRow_own w.heap.size w.heap.size 37 3 1 (fun pre : List Int => pre.length) (fun pre => pre.map (Value.int .i64)) (fun _ _ => True)) _) (ownFrom_below (Nat.le_refl _) (by simp)))
    (fun _ _ _ _ _ hs _ _ => hs)
    ⟨⟨_, bO, World.ownsRow_nil _ _ _ _, trivial⟩, hB0⟩
    (fun x => { tmps := #[.slice none 0 0, .func (.func 24) #[] #[.pointer (some ⟨Bh, 0, none⟩)], .pointer (some ⟨w.heap.size, 0, none⟩), undef, .slice none 0 0, .int .i64 x, .func (.func 24) #[] #[.pointer (some ⟨Bh, 0, none⟩)], .int .i64 x, undef, undef, undef, undef, undef], defers := [] }) ?assign ?body ?done ?stop
  case assign =>
    intro l x W K hK
    gi_wp2
    exact hK
  case body =>
    rintro l pre x W ⟨⟨v, hv, hrow, _⟩, hB⟩ hlt
    have hc := hv.cell
    gi_wp2_with (gi_at_builtin; refine wpListIn_append_own _ rfl _ _ 37 rfl w.heap.size 3 i0 (.int .i64 0) 1 8 Try.underlying37 hi hz0 hz1 hz2 rfl (by decide) _ _ _ rfl (hrow.alloc _) ⟨W.heap.size, 0, none⟩ 1 1 [.int .i64 x] rfl rfl (cell_one_new _ _ _) (by simp [Value.oneCell']) (by simp [maxLen]; omega) (by omega) (by have := hB.size; simp; omega) ?_; intro v' w1 hown' hgrow _; obtain ⟨g', cap', rfl⟩ := ownsRow_succ hown'; obtain ⟨hv1, hv2, hr2, hk2, hb2⟩ := hv.appended (by decide) hrow hB.size (Nat.le_refl _) hown' hgrow; have hc1 := hv1.cell; have hf1 := hv1.frozen)
    exact ⟨hk2.from _, hb2.block _ hb, ⟨_, hv2, by simpa using hr2, trivial⟩, hB.trans hb2⟩
  case done =>
    rintro D ys W hD rfl ⟨⟨v, hv, hrow, _⟩, hB⟩ hK
    have hc := hv.cell
    gi_wp2
    refine ⟨by simp, .inl ⟨_, _, rfl, run_takeDeferred hK, ?_⟩⟩
    exact ⟨_, results_tmp rfl _ _ _, v, rfl, by rw [fromL_length] at hrow; exact ownsRow_putObj hrow _ hK rfl, hB.trans (belowK_b (w := w) (Nat.le_refl _) W D _ _ (by simp at hD; omega) hK rfl rfl)⟩
  case stop =>
    rintro D c pre W _ _ h _
    exact h.elim
theorem collect_in (n : Nat) (hn : 4 ≤ n) (Bh : Nat) (e o s : Int) (d : ByteArray) (t : Bool) (hr : policy_right.f e o s d = some t) (hb0 : t = true → 0 ≤ o ∧ e ≤ 1073741824) (w : World) (hb : Bh < w.heap.size)
    (hc : w.heap[Bh]? = some (.cells #[.int .i64 e, .int .i64 o, .int .i64 s, .string d] 27 (0, 0))) (hlen : keptN t e o ≤ 10000000) :
    CallsIn .wide n Try.prog 18 #[.func (.func 24) #[] #[.pointer (some ⟨Bh, 0, none⟩)]] w fun e' W' => ∃ v, e' = .returned v ∧ W'.ownsRow w.heap.size 3 1 v (keptN t e o) ((fromL o (keptN t e o)).map (Value.int .i64)) ∧ Below w.heap.size w W' := by
  have h1 : 1 ≤ n := by omega
  refine callsIn_of_wp Try.func18 rfl trivial ?_ rfl
  simp only [Try.ntmps18, List.size_toArray, List.length_cons, List.length_nil, Nat.reduceAdd, Nat.reduceSub, Array.replicate_succ, Array.replicate_zero, List.push_toArray, List.append_toArray, List.nil_append, List.cons_append]
  gi_wp2_with (refine ⟨trivial, ?_⟩; gi_at_call 23; refine (appendSeq_in (n - 1) (by omega) Bh e o s d t hr hb0 _ hb hc hlen).mono ?_; rintro e' w2 ⟨v, rfl, hrow, hbel⟩)
  go_ret
  exact ⟨v, rfl, hrow, hbel⟩
def keptL (t : Bool) (e o : Int) : Option (List Int) := if (t = true → 0 ≤ o ∧ e ≤ 1073741824) ∧ keptN t e o ≤ 10000000 then some (fromL o (keptN t e o)) else none
def policy_Kept.f (a0_0 a0_1 a0_2 : Int) (a0_3 : ByteArray) : Option (List Int) := (policy_right.f a0_0 a0_1 a0_2 a0_3).bind fun t => keptL t a0_0 a0_1
theorem policy_Kept.calls (a0_0 a0_1 a0_2 : Int) (a0_3 : ByteArray) (r : List Int) (w : World) (h : policy_Kept.f a0_0 a0_1 a0_2 a0_3 = some r) :
    Calls Try.prog 10 #[.agg #[.int .i64 a0_0, .int .i64 a0_1, .int .i64 a0_2, .string a0_3]] w fun e w' => ∃ v0_, e = .returned v0_ ∧ Kd.R (Kd.int .i64) 3 w' w.heap.size (fun _ => True) v0_ r ∧ Below w.heap.size w w' := by
  obtain ⟨t, hr, h⟩ := Option.bind_eq_some_iff.1 h
  unfold keptL at h
  by_cases hg : (t = true → 0 ≤ a0_1 ∧ a0_0 ≤ 1073741824) ∧ keptN t a0_0 a0_1 ≤ 10000000
  · rw [if_pos hg] at h
    obtain rfl := Option.some.inj h
    have hu27 := Try.underlying27
    refine (callsIn_wide (n := 6)).1 ?_
    refine callsIn_of_wp Try.func10 rfl trivial ?_ rfl
    simp only [Try.ntmps10, List.size_toArray, List.length_cons, List.length_nil, Nat.reduceAdd, Nat.reduceSub, Array.replicate_succ, Array.replicate_zero, List.push_toArray, List.append_toArray, List.nil_append, List.cons_append]
    have hB1 : Below w.heap.size w (w.alloc (.cells #[.int .i64 a0_0, .int .i64 a0_1, .int .i64 a0_2, .string a0_3] 27)) := (Below.refl _ w).alloc (Nat.le_refl _) _
    gi_wp2
    refine ⟨trivial, ?_⟩
    obtain ⟨w1, hw1⟩ : ∃ w1, w.alloc (.cells #[.int .i64 a0_0, .int .i64 a0_1, .int .i64 a0_2, .string a0_3] 27) = w1 := ⟨_, rfl⟩
    rw [hw1] at hB1 ⊢
    refine (epochs_in a0_0 a0_1 a0_2 a0_3 _ w1).mono ?_
    rintro e' w2 ⟨rfl, hw2⟩
    have hb2 : w1.heap.size < w2.heap.size := by rw [hw2]; simp
    have hk2 : w2.heap[w1.heap.size]? = some (.cells #[.int .i64 a0_0, .int .i64 a0_1, .int .i64 a0_2, .string a0_3] 27 (0, 0)) := by rw [hw2]; exact World.alloc_heap_new _ _
    have hB2 : Below w.heap.size w w2 := by rw [hw2]; exact hB1.alloc hB1.size _
    have hle : w.heap.size ≤ w2.heap.size := hB2.size
    clear hw2
    gi_wp2
    refine ⟨trivial, ?_⟩
    refine (collect_in 5 (by omega) w1.heap.size a0_0 a0_1 a0_2 a0_3 t hr hg.1 w2 hb2 hk2 hg.2).mono ?_
    rintro e' w3 ⟨v, rfl, hrow, hbel⟩
    obtain ⟨A, c, rfl⟩ := own_slice hrow
    gi_wp2
    go_ret
    refine ⟨_, rfl, Kd.R_of_own (own_less ?_ hle) (fun _ _ => trivial), hB2.trans (hbel.mono hle)⟩
    simpa [fromL_length, encs] using hrow
  · rw [if_neg hg] at h; cases h

end Go.Proofs.Ytloagejeeakikaa.QX
