/- Words of this claim: cut by a program (prune.py) to what the claim uses. -/
import Derived.Test.YtdcknajlioalgaaDoorCpS
import Derived.Test.YtdcknajlioalgaaDoorCpB
import Derived.Test.YtdcknajlioalgaaDoorCpF
namespace Go.Proofs.YtdcknajlioalgaaDoor.QD
open Go.RowKit Go.Proofs.YtdcknajlioalgaaDoorW.PrintWords Go.Proofs.YtdcknajlioalgaaDoorW.PrintLast Go.Proofs.YtdcknajlioalgaaDoorW.PrintMore
attribute [local go_sem] max2_int min2_int max_two min_two max_three min_three max_four min_four   -- for this text's walks alone
set_option linter.unusedVariables false
set_option linter.unusedSimpArgs false

/-! ### oublietteref39_Parse: function 18 -/
mutual
def oublietteref39_Parse.l0 : Nat → List ByteArray → Int → Option (Int × ByteArray × ByteArray × Int × Int × Int × Int × List Int × Int)
  | 0, _, _ => none
  | k + 1, x4, x5 => if x5 ≤ 9 then ((oublietteref39_kinds.f x5).bind fun bt207 => (if 0 < (x4.length : Int) then (if (rdOf ByteArray.empty x4 0).toList = bt207.1.toList then (oublietteref39_Parse.j1 k x4 x5 bt207.2 ((x4.length : Int) != (wrap64 ((bt207.2.size : Int) + 1)))) else (oublietteref39_Parse.j1 k x4 x5 bt207.2 true)) else (none))) else (some (0, (⟨#[]⟩ : ByteArray), (⟨#[]⟩ : ByteArray), 0, 0, 0, 0, ([] : List Int), 3))
def oublietteref39_Parse.j1 : Nat → List ByteArray → Int → ByteArray → Bool → Option (Int × ByteArray × ByteArray × Int × Int × Int × Int × List Int × Int)
  | 0, _, _, _, _ => none
  | k + 1, x4, x5, x7, x36 => if x36 = true then (oublietteref39_Parse.l0 k x4 (wrap64 (x5 + 1))) else (oublietteref39_Parse.l1 k x4 x5 x7 true 0 x5 (⟨#[]⟩ : ByteArray) (⟨#[]⟩ : ByteArray) 0 0 0 0 ([] : List Int))
def oublietteref39_Parse.l1 : Nat → List ByteArray → Int → ByteArray → Bool → Int → Int → ByteArray → ByteArray → Int → Int → Int → Int → List Int → Option (Int × ByteArray × ByteArray × Int × Int × Int × Int × List Int × Int)
  | 0, _, _, _, _, _, _, _, _, _, _, _, _, _ => none
  | k + 1, x4, x5, x7, x9, x10, x211000, x211001, x211002, x211003, x211004, x211005, x211006, x211007 => if x10 < (x7.size : Int) then (if 0 ≤ x10 then (if 0 ≤ (wrap64 (x10 + 1)) then (if (wrap64 (x10 + 1)) < (x4.length : Int) then ((oublietteref39_with.f x211000 x211001 x211002 x211003 x211004 x211005 x211006 x211007 (bt x7 x10) (rdOf ByteArray.empty x4 (wrap64 (x10 + 1)))).bind fun bt212 => (if x9 = true then (oublietteref39_Parse.l1 k x4 x5 x7 bt212.2.2.2.2.2.2.2.2 (wrap64 (x10 + 1)) bt212.1 bt212.2.1 bt212.2.2.1 bt212.2.2.2.1 bt212.2.2.2.2.1 bt212.2.2.2.2.2.1 bt212.2.2.2.2.2.2.1 bt212.2.2.2.2.2.2.2.1) else (oublietteref39_Parse.l1 k x4 x5 x7 false (wrap64 (x10 + 1)) bt212.1 bt212.2.1 bt212.2.2.1 bt212.2.2.2.1 bt212.2.2.2.2.1 bt212.2.2.2.2.2.1 bt212.2.2.2.2.2.2.1 bt212.2.2.2.2.2.2.2.1))) else (none)) else (none)) else (none)) else (if x9 = true then (some (x211000, x211001, x211002, x211003, x211004, x211005, x211006, x211007, 0)) else (oublietteref39_Parse.l0 k x4 (wrap64 (x5 + 1))))
end
def oublietteref39_Parse.f (k : Nat) (a0 : ByteArray) : Option (Int × ByteArray × ByteArray × Int × Int × Int × Int × List Int × Int) := (oublietteref39_split.f k a0).bind fun t204 => (oublietteref39_Parse.l0 k t204 1)
theorem oublietteref39_Parse.mono_l : ∀ k, (∀ y0 y1, LeO (oublietteref39_Parse.l0 k y0 y1) (oublietteref39_Parse.l0 (k + 1) y0 y1)) ∧ (∀ y0 y1 y2 y3, LeO (oublietteref39_Parse.j1 k y0 y1 y2 y3) (oublietteref39_Parse.j1 (k + 1) y0 y1 y2 y3)) ∧ (∀ y0 y1 y2 y3 y4 y5 y6 y7 y8 y9 y10 y11 y12, LeO (oublietteref39_Parse.l1 k y0 y1 y2 y3 y4 y5 y6 y7 y8 y9 y10 y11 y12) (oublietteref39_Parse.l1 (k + 1) y0 y1 y2 y3 y4 y5 y6 y7 y8 y9 y10 y11 y12))
  | 0 => ⟨fun _ _ r h => by simp [oublietteref39_Parse.l0] at h, fun _ _ _ _ r h => by simp [oublietteref39_Parse.j1] at h, fun _ _ _ _ _ _ _ _ _ _ _ _ _ r h => by simp [oublietteref39_Parse.l1] at h⟩
  | k + 1 => by
    obtain ⟨ih0, ih1, ih2⟩ := oublietteref39_Parse.mono_l k
    refine ⟨?_, ?_, ?_⟩
    · intro y0 y1
      unfold oublietteref39_Parse.l0
      repeat' first
      | (with_reducible exact ih0 _ _)
      | (with_reducible exact ih1 _ _ _ _)
      | (with_reducible exact ih2 _ _ _ _ _ _ _ _ _ _ _ _ _)
      | (with_reducible exact oublietteref39_split.mono _ _)
      | (with_reducible exact LeO.refl _)
      | (with_reducible exact LeO.none _)
      | (with_reducible refine LeO.ite ?_ ?_)
      | (with_reducible refine LeO.bind ?_ (fun _ => ?_))
      | exact ih0 _ _
      | exact ih1 _ _ _ _
      | exact ih2 _ _ _ _ _ _ _ _ _ _ _ _ _
      | exact oublietteref39_split.mono _ _
      | exact LeO.none _
      | refine LeO.ite ?_ ?_
      | refine LeO.bind ?_ (fun _ => ?_)
    · intro y0 y1 y2 y3
      unfold oublietteref39_Parse.j1
      repeat' first
      | (with_reducible exact ih0 _ _)
      | (with_reducible exact ih1 _ _ _ _)
      | (with_reducible exact ih2 _ _ _ _ _ _ _ _ _ _ _ _ _)
      | (with_reducible exact oublietteref39_split.mono _ _)
      | (with_reducible exact LeO.refl _)
      | (with_reducible exact LeO.none _)
      | (with_reducible refine LeO.ite ?_ ?_)
      | (with_reducible refine LeO.bind ?_ (fun _ => ?_))
      | exact ih0 _ _
      | exact ih1 _ _ _ _
      | exact ih2 _ _ _ _ _ _ _ _ _ _ _ _ _
      | exact oublietteref39_split.mono _ _
      | exact LeO.none _
      | refine LeO.ite ?_ ?_
      | refine LeO.bind ?_ (fun _ => ?_)
    · intro y0 y1 y2 y3 y4 y5 y6 y7 y8 y9 y10 y11 y12
      unfold oublietteref39_Parse.l1
      repeat' first
      | (with_reducible exact ih0 _ _)
      | (with_reducible exact ih1 _ _ _ _)
      | (with_reducible exact ih2 _ _ _ _ _ _ _ _ _ _ _ _ _)
      | (with_reducible exact oublietteref39_split.mono _ _)
      | (with_reducible exact LeO.refl _)
      | (with_reducible exact LeO.none _)
      | (with_reducible refine LeO.ite ?_ ?_)
      | (with_reducible refine LeO.bind ?_ (fun _ => ?_))
      | exact ih0 _ _
      | exact ih1 _ _ _ _
      | exact ih2 _ _ _ _ _ _ _ _ _ _ _ _ _
      | exact oublietteref39_split.mono _ _
      | exact LeO.none _
      | refine LeO.ite ?_ ?_
      | refine LeO.bind ?_ (fun _ => ?_)
theorem oublietteref39_Parse.mono : ∀ a0 k, LeO (oublietteref39_Parse.f k a0) (oublietteref39_Parse.f (k + 1) a0) := by
  intro a0 k
  obtain ⟨ih0, ih1, ih2⟩ := oublietteref39_Parse.mono_l k
  unfold oublietteref39_Parse.f
  repeat' first
      | (with_reducible exact ih0 _ _)
      | (with_reducible exact ih1 _ _ _ _)
      | (with_reducible exact ih2 _ _ _ _ _ _ _ _ _ _ _ _ _)
      | (with_reducible exact oublietteref39_split.mono _ _)
      | (with_reducible exact LeO.refl _)
      | (with_reducible exact LeO.none _)
      | (with_reducible refine LeO.ite ?_ ?_)
      | (with_reducible refine LeO.bind ?_ (fun _ => ?_))
      | exact ih0 _ _
      | exact ih1 _ _ _ _
      | exact ih2 _ _ _ _ _ _ _ _ _ _ _ _ _
      | exact oublietteref39_split.mono _ _
      | exact LeO.none _
      | refine LeO.ite ?_ ?_
      | refine LeO.bind ?_ (fun _ => ?_)
def oublietteref39_Parse.T12 : Bool × List (List Nat × List Nat) := (true, [([], []), ([], []), ([], []), ([1, 2], [1, 2]), ([], []), ([], []), ([5], [5]), ([4, 6], [4, 6]), ([7], [7]), ([0, 3, 8], [0, 3, 8]), ([9], [9]), ([10], [10]), ([10], [10]), ([], []), ([13, 11, 9, 0, 1, 2, 3, 4, 5, 6, 7, 8, 9, 10, 11, 13], [11, 13]), ([12, 14, 0, 1, 2, 3, 4, 5, 6, 7, 8, 9, 10, 11, 12, 13, 14], [12])])
def oublietteref39_Parse.B12 : List Nat := [0, 0, 0, 6, 0, 0, 32, 112, 240, 511, 1023, 2047, 2047, 0, 12287, 32767]
theorem oublietteref39_Parse.tab12 : rtab .any (opsOf Tryd.f18 12) = oublietteref39_Parse.T12 := by kernel_rfl
theorem oublietteref39_Parse.bits12 : waitsOk oublietteref39_Parse.T12.2 oublietteref39_Parse.B12 = true := by kernel_rfl
set_option maxHeartbeats 8000000 in
set_option maxRecDepth 100000 in
theorem oublietteref39_Parse.calls (k : Nat) (a0 : ByteArray) (r1 : Int) (r2 : ByteArray) (r3 : ByteArray) (r4 : Int) (r5 : Int) (r6 : Int) (r7 : Int) (r8 : List Int) (r9 : Int) (w : World) (h : oublietteref39_Parse.f k a0 = some (r1, r2, r3, r4, r5, r6, r7, r8, r9)) :
    Calls Tryd.prog 18 #[.string a0] w fun e w' => ∃ v7_ : Value, e = .returned (.tuple #[.agg #[.int .i64 r1, .string r2, .string r3, .int .i64 r4, .int .i64 r5, .int .i64 r6, .int .i64 r7, v7_], .int .i64 r9]) ∧ Kd.R (Kd.int .u8) 5 w' w.heap.size (fun _ => True) v7_ r8 ∧ Below w.heap.size w w' := by
  have hu28 := Tryd.underlying28
  have HB := Aside0.mk (Below.refl w.heap.size w)
  have H : ((oublietteref39_split.f k a0).bind fun t204 => (oublietteref39_Parse.l0 k t204 1)) = some (r1, r2, r3, r4, r5, r6, r7, r8, r9) := h
  clear h
  replace H := Option.bind_eq_some_iff.mp H
  obtain ⟨t204, A20, H⟩ := H
  replace H : (oublietteref39_Parse.l0 k t204 1) = some (r1, r2, r3, r4, r5, r6, r7, r8, r9) := H
  have A2 := Aside0.mk A20
  clear A20
  have H' := Aside0.mk H
  clear H
  go_enter Tryd.func18, Tryd.ntmps18
  go_wp2_with (first | ((with_reducible refine gate_dst (N := 2) rfl ?_); (try (refine gate_guard (by rfl) ?_; dsimp only)); refine box_event ?hg (N := 2) ?hd (cs := #[.int .i64 0, .string (⟨#[]⟩ : ByteArray), .string (⟨#[]⟩ : ByteArray), .int .i64 0, .int .i64 0, .int .i64 0, .int .i64 0, .slice none 0 0]) (t := 28) ?hr ?_; (case hd => rfl); (case hg => rfl); (case hr => first | (go_simp; done) | (go_simp; rfl)); intro gb203 hg w3 hbox hb; have n0_ := Aside0.mk (below_step (by repeat (first | (with_reducible first | exact HB.out | apply below_alloc | apply pw_below_drewN | apply below_drew1) | exact HB.out)) hb); have n1_ := Aside0.mk (hbox); have n2_ := Aside0.mk ((by rw [hg]; exact (below_size (by repeat (first | (with_reducible first | exact HB.out | apply below_alloc | apply pw_below_drewN | apply below_drew1) | exact HB.out))) : w.heap.size ≤ gb203)); have n3_ := Aside0.mk ((by rw [hg]; exact (below_size (by repeat (first | (with_reducible first | exact HB.out | apply below_alloc | apply pw_below_drewN | apply below_drew1) | exact HB.out))) : w.heap.size ≤ gb203)); clear HB; have HB := n0_; have BK203 := n1_; have GW203 := n2_; have GE203 := n3_; clear n0_ n1_ n2_ n3_; clear hb hbox hg) | ((with_reducible refine gate_callee (f := 43) rfl ?_); refine goesL_ (some 14) rfl rfl Tryd.func43 (by kernel_rfl) rfl #[.string a0] rfl (by (try simp only [List.map_toArray, List.map_cons, List.map_nil]); first | done | rfl | (simp only [List.length_drop, List.length_take]; rfl)) ?_; (with_reducible refine (oublietteref39_split.calls k a0 t204 _ A2.out).mono ?_); rintro e w4 ⟨v205, rfl, ho0, hb⟩; refine ⟨_, rfl, ?_⟩; have n0_ := Aside0.mk (Kd.R_lower ho0 (below_size (by repeat (first | (with_reducible first | exact HB.out | apply below_alloc | apply pw_below_drewN | apply below_drew1 | refine below_set ?_ GE203.out) | exact HB.out)))); have n1_ := Aside0.mk (blk_below (g := gb203) (o := .cells #[.int .i64 0, .string (⟨#[]⟩ : ByteArray), .string (⟨#[]⟩ : ByteArray), .int .i64 0, .int .i64 0, .int .i64 0, .int .i64 0, .slice none 0 0] 28 (0, 0)) (by (with_reducible repeat (first | refine blk_drewN ?_ _ | refine blk_drew ?_ | refine blk_alloc ?_ _)); exact BK203.out) hb); have n2_ := Aside0.mk (below_step (by repeat (first | (with_reducible first | exact HB.out | apply below_alloc | apply pw_below_drewN | apply below_drew1 | refine below_set ?_ GE203.out) | exact HB.out)) hb); clear BK203; clear HB; have HO206 := n0_; have BK203 := n1_; have HB := n2_; clear n0_ n1_ n2_; (try clear hb); (try clear hb2); (try clear hk); (try clear hi); (try clear ho0)))
  go_loopg [5] k (fun kq v5 w' => ∃ (x5_1 : Int) (x204000_1 : Int) (x204001_1 : ByteArray) (x204002_1 : ByteArray) (x204003_1 : Int) (x204004_1 : Int) (x204005_1 : Int) (x204006_1 : Int), v5 = .int .i64 x5_1 ∧ Aside0 (oublietteref39_Parse.l0 kq t204 x5_1 = some (r1, r2, r3, r4, r5, r6, r7, r8, r9)) ∧ Aside0 (kq ≤ k) ∧ Aside0 (Kd.R Kd.string 9 w' w.heap.size (fun _ => True) v205 t204) ∧ Aside0 (w'.heap[gb203]? = some (.cells #[.int .i64 x204000_1, .string x204001_1, .string x204002_1, .int .i64 x204003_1, .int .i64 x204004_1, .int .i64 x204005_1, .int .i64 x204006_1, (.slice none 0 0)] 28 (0, 0))) ∧ Aside0 (Below w.heap.size w w'))
  case atStart => exact ⟨(1), (0), ((⟨#[]⟩ : ByteArray)), ((⟨#[]⟩ : ByteArray)), (0), (0), (0), (0), (by first | rfl | (simp; done) | (simp [*]; done)), H', ⟨Nat.le_refl _⟩, ⟨by (with_reducible repeat (first | apply Kd.R_alloc | apply Kd.R_drewN | apply Kd.R_drew)); exact HO206.out⟩, ⟨by (with_reducible repeat (first | refine blk_drewN ?_ _ | refine blk_drew ?_ | refine blk_alloc ?_ _)); exact BK203.out⟩, ⟨by repeat (first | (with_reducible first | exact HB.out | apply below_alloc | apply pw_below_drewN | apply below_drew1 | refine below_set ?_ GE203.out) | exact HB.out)⟩⟩
  case round =>
    clear H'
    try clear c1
    try clear p2
    try clear c4
    obtain ⟨x5_1, x204000_1, x204001_1, x204002_1, x204003_1, x204004_1, x204005_1, x204006_1, rfl, HA, HK1, HO_4, BK203, HB⟩ := hrel
    cases gk with
    | zero => exact absurd HA.out (by simp [oublietteref39_Parse.l0])
    | succ k1 =>
      have H := HA.out
      clear HA
      simp only [oublietteref39_Parse.l0] at H
      by_cases c5 : x5_1 ≤ 9
      · rw [if_pos c5] at H
        have c5b0 : decide (x5_1 ≤ 9) = true := decide_eq_true c5
        clear c5
        replace H := Option.bind_eq_some_iff.mp H
        obtain ⟨⟨t207, t208⟩, A60, H⟩ := H
        replace H : (if 0 < (t204.length : Int) then (if (rdOf ByteArray.empty t204 0).toList = t207.toList then (oublietteref39_Parse.j1 k1 t204 x5_1 t208 ((t204.length : Int) != (wrap64 ((t208.size : Int) + 1)))) else (oublietteref39_Parse.j1 k1 t204 x5_1 t208 true)) else (none)) = some (r1, r2, r3, r4, r5, r6, r7, r8, r9) := H
        have A6 := Aside0.mk A60
        clear A60
        have HC7 := Aside0.mk H
        clear H
        go_upto_region 6 with (first | ((with_reducible refine gate_callee (f := 37) rfl ?_); refine goesL_ (some 21) rfl rfl Tryd.func37 (by kernel_rfl) rfl #[.int .i64 x5_1] rfl (by (try simp only [List.map_toArray, List.map_cons, List.map_nil]); first | done | rfl | (simp only [List.length_drop, List.length_take]; rfl)) ?_; (with_reducible refine (oublietteref39_kinds.calls x5_1 t207 t208 _ A6.out).mono ?_); rintro e w8 ⟨rfl, hb⟩; refine ⟨_, rfl, ?_⟩; have n0_ := Aside0.mk (Kd.R_below (by (with_reducible repeat (first | apply Kd.R_alloc | apply Kd.R_drewN | apply Kd.R_drew)); exact HO_4.out) hb); have n1_ := Aside0.mk (blk_below (g := gb203) (o := .cells #[.int .i64 x204000_1, .string x204001_1, .string x204002_1, .int .i64 x204003_1, .int .i64 x204004_1, .int .i64 x204005_1, .int .i64 x204006_1, .slice none 0 0] 28 (0, 0)) (by (with_reducible repeat (first | refine blk_drewN ?_ _ | refine blk_drew ?_ | refine blk_alloc ?_ _)); exact BK203.out) hb); have n2_ := Aside0.mk (below_step (by repeat (first | (with_reducible first | exact HB.out | apply below_alloc | apply pw_below_drewN | apply below_drew1 | refine below_set ?_ GE203.out) | exact HB.out)) hb); clear HO_4; clear BK203; clear HB; have HO_4 := n0_; have BK203 := n1_; have HB := n2_; clear n0_ n1_ n2_; (try clear hb); (try clear hb2); (try clear hk); (try clear hi)))
        (try simp only [Act.put, List.setIfInBounds_toArray, List.set_cons_zero, List.set_cons_succ])
        go_cut [36] (fun v36 wc => ∃ (kq : Nat) (x36_6 : Bool), v36 = .bool x36_6 ∧ Aside0 (oublietteref39_Parse.j1 kq t204 x5_1 t208 x36_6 = some (r1, r2, r3, r4, r5, r6, r7, r8, r9)) ∧ Aside0 (kq ≤ k1) ∧ Aside0 (Kd.R Kd.string 9 wc w.heap.size (fun _ => True) v205 t204) ∧ Aside0 (wc.heap[gb203]? = some (.cells #[.int .i64 x204000_1, .string x204001_1, .string x204002_1, .int .i64 x204003_1, .int .i64 x204004_1, .int .i64 x204005_1, .int .i64 x204006_1, (.slice none 0 0)] 28 (0, 0))) ∧ Aside0 (Below w.heap.size w wc))
        case first =>
          have H := HC7.out
          clear HC7
          by_cases c9 : 0 < (t204.length : Int)
          · rw [if_pos c9] at H
            have c9b0 : decide (0 < (t204.length : Int)) = true := decide_eq_true c9
            have c9b1 : decide (0 < t204.length) = true := decide_eq_true (by omega)
            clear c9
            (first | rw [c9b0] | (simp only [i64_w, i32_w]; rw [c9b0]) | skip)
            by_cases c10 : (rdOf ByteArray.empty t204 0).toList = t207.toList
            · rw [if_pos c10] at H
              have c10b0 : ((rdOf ByteArray.empty t204 0).toList == t207.toList) = true := beq_iff_eq.mpr c10
              have c10b1 : ((rdOf ByteArray.empty t204 0).toList != t207.toList) = false := bne_eq_false_iff_eq.mpr c10
              clear c10
              have H' := Aside0.mk H
              clear H
              obtain ⟨Ao11, co11, eo11⟩ := Kd.R_slice HO_4.out
              subst eo11
              have p209 : 0 ≤ (0 : Int) := (by omega)
              have q209 : 0 < (t204.length : Int) := of_decide_eq_true (by first | (with_reducible assumption) | assumption)
              obtain ⟨ad209, e209, hx209_0⟩ := Kd.at_string (Kd.R_reads' HO_4.out).2.2 0 p209 q209
              cases e209
              have qi209 : (0 < t204.length) = True := eq_true (by omega)
              (try rw [show ((0 : Int)).toNat = 0 from rfl] at hx209_0)
              (try rw [Addr.add_zero'] at hx209_0)
              replace p209 := eq_true p209
              replace q209 := eq_true q209
              go_wp2
              go_meet
              case rel => exact ⟨_, (((t204.length : Int) != (wrap64 ((t208.size : Int) + 1)))), (by first | rfl | (simp; done) | (simp [*]; done)), H', ⟨by have := HK1.out; first | omega | exact Nat.le_refl _⟩, ⟨by (with_reducible repeat (first | apply Kd.R_alloc | apply Kd.R_drewN | apply Kd.R_drew)); exact HO_4.out⟩, ⟨by (with_reducible repeat (first | refine blk_drewN ?_ _ | refine blk_drew ?_ | refine blk_alloc ?_ _)); exact BK203.out⟩, ⟨by repeat (first | (with_reducible first | exact HB.out | apply below_alloc | apply pw_below_drewN | apply below_drew1 | refine below_set ?_ GE203.out) | exact HB.out)⟩⟩
            · rw [if_neg c10] at H
              have c10b0 : ((rdOf ByteArray.empty t204 0).toList == t207.toList) = false := beq_eq_false_iff_ne.mpr c10
              have c10b1 : ((rdOf ByteArray.empty t204 0).toList != t207.toList) = true := bne_iff_ne.mpr c10
              have H' := Aside0.mk H
              clear H
              obtain ⟨Ao12, co12, eo12⟩ := Kd.R_slice HO_4.out
              subst eo12
              have p209 : 0 ≤ (0 : Int) := (by omega)
              have q209 : 0 < (t204.length : Int) := of_decide_eq_true (by first | (with_reducible assumption) | assumption)
              obtain ⟨ad209, e209, hx209_0⟩ := Kd.at_string (Kd.R_reads' HO_4.out).2.2 0 p209 q209
              cases e209
              have qi209 : (0 < t204.length) = True := eq_true (by omega)
              (try rw [show ((0 : Int)).toNat = 0 from rfl] at hx209_0)
              (try rw [Addr.add_zero'] at hx209_0)
              replace p209 := eq_true p209
              replace q209 := eq_true q209
              go_wp2
              go_meet
              case rel => exact ⟨_, (true), (by first | rfl | (simp; done) | (simp [*]; done)), H', ⟨by have := HK1.out; first | omega | exact Nat.le_refl _⟩, ⟨by (with_reducible repeat (first | apply Kd.R_alloc | apply Kd.R_drewN | apply Kd.R_drew)); exact HO_4.out⟩, ⟨by (with_reducible repeat (first | refine blk_drewN ?_ _ | refine blk_drew ?_ | refine blk_alloc ?_ _)); exact BK203.out⟩, ⟨by repeat (first | (with_reducible first | exact HB.out | apply below_alloc | apply pw_below_drewN | apply below_drew1 | refine below_set ?_ GE203.out) | exact HB.out)⟩⟩
          · rw [if_neg c9] at H
            exact absurd H (by simp)
        case rest =>
          clear HC7
          try clear c1
          try clear p2
          try clear q2
          try clear hx2
          try clear qi2
          try clear c3
          try clear c4
          try clear c5
          try clear c5b0
          try clear p6
          try clear c9
          try clear c9b0
          try clear c9b1
          try clear c10
          try clear c10b0
          try clear c10b1
          try clear hx209_0
          try clear p2
          try clear p209
          try clear q209
          obtain ⟨kq, x36_6, rfl, HA, HJ6, HO_4, BK203, HB⟩ := hcut
          cases kq with
          | zero => exact absurd HA.out (by simp [oublietteref39_Parse.j1])
          | succ kj6 =>
            have H := HA.out
            clear HA
            simp only [oublietteref39_Parse.j1] at H
            by_cases c13 : x36_6 = true
            · subst c13
              have H1 : (oublietteref39_Parse.l0 kj6 t204 (wrap64 (x5_1 + 1))) = some (r1, r2, r3, r4, r5, r6, r7, r8, r9) := by rw [if_pos rfl] at H; exact H
              clear H
              have H := H1
              clear H1
              have H' := Aside0.mk H
              clear H
              go_wp2
              go_roundg kj6
              case measure => have := HK1.out; have := HJ6.out; omega
              case rel => exact ⟨(wrap64 (x5_1 + 1)), (x204000_1), (x204001_1), (x204002_1), (x204003_1), (x204004_1), (x204005_1), (x204006_1), (by first | rfl | (simp; done) | (simp [*]; done)), H', ⟨by have := HK1.out; have := HJ6.out; omega⟩, ⟨by (with_reducible repeat (first | apply Kd.R_alloc | apply Kd.R_drewN | apply Kd.R_drew)); exact HO_4.out⟩, ⟨by (with_reducible repeat (first | refine blk_drewN ?_ _ | refine blk_drew ?_ | refine blk_alloc ?_ _)); exact BK203.out⟩, ⟨by repeat (first | (with_reducible first | exact HB.out | apply below_alloc | apply pw_below_drewN | apply below_drew1 | refine below_set ?_ GE203.out) | exact HB.out)⟩⟩
            · replace c13 := Bool.eq_false_iff.mpr c13
              subst c13
              have H1 : (oublietteref39_Parse.l1 kj6 t204 x5_1 t208 true 0 x5_1 (⟨#[]⟩ : ByteArray) (⟨#[]⟩ : ByteArray) 0 0 0 0 ([] : List Int)) = some (r1, r2, r3, r4, r5, r6, r7, r8, r9) := by rw [if_neg (show ¬ (false = true) by decide)] at H; exact H
              clear H
              have H := H1
              clear H1
              have H' := Aside0.mk H
              clear H
              go_wp2_with (first | ((with_reducible refine gate_dst (N := 8) rfl ?_); (try (refine gate_guard (by rfl) ?_; dsimp only)); refine box_event ?hg (N := 8) ?hd (cs := #[.int .i64 0, .string (⟨#[]⟩ : ByteArray), .string (⟨#[]⟩ : ByteArray), .int .i64 0, .int .i64 0, .int .i64 0, .int .i64 0, .slice none 0 0]) (t := 28) ?hr ?_; (case hd => rfl); (case hg => rfl); (case hr => first | (go_simp; done) | (go_simp; rfl)); intro gb210 hg w14 hbox hb; have n0_ := Aside0.mk (Kd.R_below (by (with_reducible repeat (first | apply Kd.R_alloc | apply Kd.R_drewN | apply Kd.R_drew)); exact HO_4.out) hb); have n1_ := Aside0.mk (blk_below (g := gb203) (o := .cells #[.int .i64 x204000_1, .string x204001_1, .string x204002_1, .int .i64 x204003_1, .int .i64 x204004_1, .int .i64 x204005_1, .int .i64 x204006_1, .slice none 0 0] 28 (0, 0)) (by (with_reducible repeat (first | refine blk_drewN ?_ _ | refine blk_drew ?_ | refine blk_alloc ?_ _)); exact BK203.out) hb); have n2_ := Aside0.mk (below_step (by repeat (first | (with_reducible first | exact HB.out | apply below_alloc | apply pw_below_drewN | apply below_drew1 | refine below_set ?_ GE203.out) | exact HB.out)) hb); have n3_ := Aside0.mk (hbox); have n4_ := Aside0.mk ((by rw [hg]; exact (below_size (by repeat (first | (with_reducible first | exact HB.out | apply below_alloc | apply pw_below_drewN | apply below_drew1 | refine below_set ?_ GE203.out) | exact HB.out))) : w.heap.size ≤ gb210)); have n5_ := Aside0.mk ((by rw [hg]; exact (below_size (by repeat (first | (with_reducible first | exact HB.out | apply below_alloc | apply pw_below_drewN | apply below_drew1 | refine below_set ?_ GE203.out) | exact HB.out))) : w.heap.size ≤ gb210)); have n6_ := Aside0.mk ((by rw [hg]; exact Nat.ne_of_lt (blk_lt (g := gb203) (o := .cells #[.int .i64 x204000_1, .string x204001_1, .string x204002_1, .int .i64 x204003_1, .int .i64 x204004_1, .int .i64 x204005_1, .int .i64 x204006_1, .slice none 0 0] 28 (0, 0)) (by (with_reducible repeat (first | refine blk_drewN ?_ _ | refine blk_drew ?_ | refine blk_alloc ?_ _)); exact BK203.out)) : gb203 ≠ gb210)); have n7_ := Aside0.mk ((by rw [hg]; exact Nat.ne_of_gt (blk_lt (g := gb203) (o := .cells #[.int .i64 x204000_1, .string x204001_1, .string x204002_1, .int .i64 x204003_1, .int .i64 x204004_1, .int .i64 x204005_1, .int .i64 x204006_1, .slice none 0 0] 28 (0, 0)) (by (with_reducible repeat (first | refine blk_drewN ?_ _ | refine blk_drew ?_ | refine blk_alloc ?_ _)); exact BK203.out)) : gb210 ≠ gb203)); clear HO_4; clear BK203; clear HB; have HO_4 := n0_; have BK203 := n1_; have HB := n2_; have BK210 := n3_; have GW210 := n4_; have GE210 := n5_; have NB203_210 := n6_; have NB210_203 := n7_; clear n0_ n1_ n2_ n3_ n4_ n5_ n6_ n7_; clear hb hbox hg; have hnb15 := NB210_203.out; have hnc15 := NB203_210.out; have hcz16_0 : w14.cell? ⟨gb210, 0, none⟩ = some (.int .i64 0) := (blk_cell BK210.out 0).trans rfl; have hcz16_1 : w14.cell? ⟨gb210, 1, none⟩ = some (.string (⟨#[]⟩ : ByteArray)) := (blk_cell BK210.out 1).trans rfl; have hcz16_2 : w14.cell? ⟨gb210, 2, none⟩ = some (.string (⟨#[]⟩ : ByteArray)) := (blk_cell BK210.out 2).trans rfl; have hcz16_3 : w14.cell? ⟨gb210, 3, none⟩ = some (.int .i64 0) := (blk_cell BK210.out 3).trans rfl; have hcz16_4 : w14.cell? ⟨gb210, 4, none⟩ = some (.int .i64 0) := (blk_cell BK210.out 4).trans rfl; have hcz16_5 : w14.cell? ⟨gb210, 5, none⟩ = some (.int .i64 0) := (blk_cell BK210.out 5).trans rfl; have hcz16_6 : w14.cell? ⟨gb210, 6, none⟩ = some (.int .i64 0) := (blk_cell BK210.out 6).trans rfl; have hcz16_7 : w14.cell? ⟨gb210, 7, none⟩ = some (.slice none 0 0) := (blk_cell BK210.out 7).trans rfl; have hfz16_0 := blk_frozen BK210.out 0; have hfz16_1 := blk_frozen BK210.out 1; have hfz16_2 := blk_frozen BK210.out 2; have hfz16_3 := blk_frozen BK210.out 3; have hfz16_4 := blk_frozen BK210.out 4; have hfz16_5 := blk_frozen BK210.out 5; have hfz16_6 := blk_frozen BK210.out 6; have hfz16_7 := blk_frozen BK210.out 7))
              go_loopg [9, 10] kj6 (fun kq v9 v10 w' => ∃ (x9_3 : Bool) (x10_3 : Int) (x211000_3 : Int) (x211001_3 : ByteArray) (x211002_3 : ByteArray) (x211003_3 : Int) (x211004_3 : Int) (x211005_3 : Int) (x211006_3 : Int) (x211007_3 : List Int) (u211007 : Value), v9 = .bool x9_3 ∧ v10 = .int .i64 x10_3 ∧ Aside0 (oublietteref39_Parse.l1 kq t204 x5_1 t208 x9_3 x10_3 x211000_3 x211001_3 x211002_3 x211003_3 x211004_3 x211005_3 x211006_3 x211007_3 = some (r1, r2, r3, r4, r5, r6, r7, r8, r9)) ∧ Aside0 (kq ≤ kj6) ∧ Aside0 (Kd.R Kd.string 9 w' w.heap.size (fun _ => True) v205 t204) ∧ Aside0 (Kd.R (Kd.int .u8) 5 w' w.heap.size (fun _ => True) u211007 x211007_3) ∧ Aside0 (w'.heap[gb203]? = some (.cells #[.int .i64 x204000_1, .string x204001_1, .string x204002_1, .int .i64 x204003_1, .int .i64 x204004_1, .int .i64 x204005_1, .int .i64 x204006_1, (.slice none 0 0)] 28 (0, 0))) ∧ Aside0 (w'.heap[gb210]? = some (.cells #[.int .i64 x211000_3, .string x211001_3, .string x211002_3, .int .i64 x211003_3, .int .i64 x211004_3, .int .i64 x211005_3, .int .i64 x211006_3, u211007] 28 (0, 0))) ∧ Aside0 (Below w.heap.size w w'))
              case atStart => exact ⟨(true), (0), (x5_1), ((⟨#[]⟩ : ByteArray)), ((⟨#[]⟩ : ByteArray)), (0), (0), (0), (0), (([] : List Int)), (.slice none 0 0), (by first | rfl | (simp; done) | (simp [*]; done)), (by first | rfl | (simp; done) | (simp [*]; done)), H', ⟨Nat.le_refl _⟩, ⟨by (with_reducible repeat (first | apply Kd.R_alloc | apply Kd.R_drewN | apply Kd.R_drew)); exact Kd.R_mono (Kd.R_far (p := ⟨gb210, 7, none⟩) (Kd.R_far (p := ⟨gb210, 6, none⟩) (Kd.R_far (p := ⟨gb210, 5, none⟩) (Kd.R_far (p := ⟨gb210, 4, none⟩) (Kd.R_far (p := ⟨gb210, 3, none⟩) (Kd.R_far (p := ⟨gb210, 2, none⟩) (Kd.R_far (p := ⟨gb210, 1, none⟩) (Kd.R_far (p := ⟨gb210, 0, none⟩) (Kd.R_types HO_4.out BK210.out (by decide)) (fun _ hk => hk.2) (.int .i64 x5_1)) (fun _ hk => hk.2) (.string (⟨#[]⟩ : ByteArray))) (fun _ hk => hk.2) (.string (⟨#[]⟩ : ByteArray))) (fun _ hk => hk.2) (.int .i64 0)) (fun _ hk => hk.2) (.int .i64 0)) (fun _ hk => hk.2) (.int .i64 0)) (fun _ hk => hk.2) (.int .i64 0)) (fun _ hk => hk.2) (.slice none 0 0)) (fun _ hk => trivial)⟩, ⟨by first | exact Kd.R_nil _ _ _ _ _ | exact Kd.N_nil _ _ _ _ _ | exact Kd.V_nil _ _ _ _ _ | exact Kd.Q_nil _ _ _ _ _ | exact Kd.S_nil _ _ _ _ _⟩, ⟨by (with_reducible repeat (first | refine blk_drewN ?_ _ | refine blk_drew ?_ | refine blk_alloc ?_ _)); refine blk_far ?_ NB203_210.out _; (with_reducible repeat (first | refine blk_drewN ?_ _ | refine blk_drew ?_ | refine blk_alloc ?_ _)); refine blk_far ?_ NB203_210.out _; (with_reducible repeat (first | refine blk_drewN ?_ _ | refine blk_drew ?_ | refine blk_alloc ?_ _)); refine blk_far ?_ NB203_210.out _; (with_reducible repeat (first | refine blk_drewN ?_ _ | refine blk_drew ?_ | refine blk_alloc ?_ _)); refine blk_far ?_ NB203_210.out _; (with_reducible repeat (first | refine blk_drewN ?_ _ | refine blk_drew ?_ | refine blk_alloc ?_ _)); refine blk_far ?_ NB203_210.out _; (with_reducible repeat (first | refine blk_drewN ?_ _ | refine blk_drew ?_ | refine blk_alloc ?_ _)); refine blk_far ?_ NB203_210.out _; (with_reducible repeat (first | refine blk_drewN ?_ _ | refine blk_drew ?_ | refine blk_alloc ?_ _)); refine blk_far ?_ NB203_210.out _; (with_reducible repeat (first | refine blk_drewN ?_ _ | refine blk_drew ?_ | refine blk_alloc ?_ _)); refine blk_far ?_ NB203_210.out _; (with_reducible repeat (first | refine blk_drewN ?_ _ | refine blk_drew ?_ | refine blk_alloc ?_ _)); exact BK203.out⟩, ⟨by (with_reducible repeat (first | refine blk_drewN ?_ _ | refine blk_drew ?_ | refine blk_alloc ?_ _)); refine blk_put (cs := #[.int .i64 x5_1, .string (⟨#[]⟩ : ByteArray), .string (⟨#[]⟩ : ByteArray), .int .i64 0, .int .i64 0, .int .i64 0, .int .i64 0, .slice none 0 0]) ?_ 7 _ rfl; (with_reducible repeat (first | refine blk_drewN ?_ _ | refine blk_drew ?_ | refine blk_alloc ?_ _)); refine blk_put (cs := #[.int .i64 x5_1, .string (⟨#[]⟩ : ByteArray), .string (⟨#[]⟩ : ByteArray), .int .i64 0, .int .i64 0, .int .i64 0, .int .i64 0, .slice none 0 0]) ?_ 6 _ rfl; (with_reducible repeat (first | refine blk_drewN ?_ _ | refine blk_drew ?_ | refine blk_alloc ?_ _)); refine blk_put (cs := #[.int .i64 x5_1, .string (⟨#[]⟩ : ByteArray), .string (⟨#[]⟩ : ByteArray), .int .i64 0, .int .i64 0, .int .i64 0, .int .i64 0, .slice none 0 0]) ?_ 5 _ rfl; (with_reducible repeat (first | refine blk_drewN ?_ _ | refine blk_drew ?_ | refine blk_alloc ?_ _)); refine blk_put (cs := #[.int .i64 x5_1, .string (⟨#[]⟩ : ByteArray), .string (⟨#[]⟩ : ByteArray), .int .i64 0, .int .i64 0, .int .i64 0, .int .i64 0, .slice none 0 0]) ?_ 4 _ rfl; (with_reducible repeat (first | refine blk_drewN ?_ _ | refine blk_drew ?_ | refine blk_alloc ?_ _)); refine blk_put (cs := #[.int .i64 x5_1, .string (⟨#[]⟩ : ByteArray), .string (⟨#[]⟩ : ByteArray), .int .i64 0, .int .i64 0, .int .i64 0, .int .i64 0, .slice none 0 0]) ?_ 3 _ rfl; (with_reducible repeat (first | refine blk_drewN ?_ _ | refine blk_drew ?_ | refine blk_alloc ?_ _)); refine blk_put (cs := #[.int .i64 x5_1, .string (⟨#[]⟩ : ByteArray), .string (⟨#[]⟩ : ByteArray), .int .i64 0, .int .i64 0, .int .i64 0, .int .i64 0, .slice none 0 0]) ?_ 2 _ rfl; (with_reducible repeat (first | refine blk_drewN ?_ _ | refine blk_drew ?_ | refine blk_alloc ?_ _)); refine blk_put (cs := #[.int .i64 x5_1, .string (⟨#[]⟩ : ByteArray), .string (⟨#[]⟩ : ByteArray), .int .i64 0, .int .i64 0, .int .i64 0, .int .i64 0, .slice none 0 0]) ?_ 1 _ rfl; (with_reducible repeat (first | refine blk_drewN ?_ _ | refine blk_drew ?_ | refine blk_alloc ?_ _)); refine blk_put (cs := #[.int .i64 0, .string (⟨#[]⟩ : ByteArray), .string (⟨#[]⟩ : ByteArray), .int .i64 0, .int .i64 0, .int .i64 0, .int .i64 0, .slice none 0 0]) ?_ 0 _ rfl; (with_reducible repeat (first | refine blk_drewN ?_ _ | refine blk_drew ?_ | refine blk_alloc ?_ _)); exact BK210.out⟩, ⟨by repeat (first | (with_reducible first | exact HB.out | apply below_alloc | apply pw_below_drewN | apply below_drew1 | refine below_set ?_ GE203.out | refine below_set ?_ GE210.out) | exact HB.out)⟩⟩
              case round =>
                clear H'
                try clear c1
                try clear p2
                try clear q2
                try clear hx2
                try clear qi2
                try clear c3
                try clear c4
                try clear c5
                try clear c5b0
                try clear p6
                try clear c9
                try clear c9b0
                try clear c9b1
                try clear c10
                try clear c10b0
                try clear c10b1
                try clear c13
                try clear c15
                try clear hcz16_0
                try clear hcz16_1
                try clear hcz16_2
                try clear hcz16_3
                try clear hcz16_4
                try clear hcz16_5
                try clear hcz16_6
                try clear hcz16_7
                try clear hfz16_0
                try clear hfz16_1
                try clear hfz16_2
                try clear hfz16_3
                try clear hfz16_4
                try clear hfz16_5
                try clear hfz16_6
                try clear hfz16_7
                try clear hx209_0
                try clear p2
                try clear p209
                try clear p6
                try clear q2
                try clear q209
                obtain ⟨x9_3, x10_3, x211000_3, x211001_3, x211002_3, x211003_3, x211004_3, x211005_3, x211006_3, x211007_3, u211007, rfl, rfl, HA, HK3, HO_4, HO_211007, BK203, BK210, HB⟩ := hrel
                cases gk with
                | zero => exact absurd HA.out (by simp [oublietteref39_Parse.l1])
                | succ k3 =>
                  have H := HA.out
                  clear HA
                  simp only [oublietteref39_Parse.l1] at H
                  by_cases c17 : x10_3 < (t208.size : Int)
                  · rw [if_pos c17] at H
                    have c17b0 : decide (x10_3 < (t208.size : Int)) = true := decide_eq_true c17
                    clear c17
                    by_cases c18 : 0 ≤ x10_3
                    · rw [if_pos c18] at H
                      have c18b0 : decide (0 ≤ x10_3) = true := decide_eq_true c18
                      clear c18
                      obtain ⟨ji20, hji20⟩ : ∃ j_ : Int, (wrap64 (x10_3 + 1)) = j_ := ⟨_, rfl⟩
                      replace H : (if 0 ≤ (ji20) then (if (ji20) < (t204.length : Int) then ((oublietteref39_with.f x211000_3 x211001_3 x211002_3 x211003_3 x211004_3 x211005_3 x211006_3 x211007_3 (bt t208 x10_3) (rdOf ByteArray.empty t204 (ji20))).bind fun bt212 => (if x9_3 = true then (oublietteref39_Parse.l1 k3 t204 x5_1 t208 bt212.2.2.2.2.2.2.2.2 ji20 bt212.1 bt212.2.1 bt212.2.2.1 bt212.2.2.2.1 bt212.2.2.2.2.1 bt212.2.2.2.2.2.1 bt212.2.2.2.2.2.2.1 bt212.2.2.2.2.2.2.2.1) else (oublietteref39_Parse.l1 k3 t204 x5_1 t208 false ji20 bt212.1 bt212.2.1 bt212.2.2.1 bt212.2.2.2.1 bt212.2.2.2.2.1 bt212.2.2.2.2.2.1 bt212.2.2.2.2.2.2.1 bt212.2.2.2.2.2.2.2.1))) else (none)) else (none)) = some (r1, r2, r3, r4, r5, r6, r7, r8, r9) := by first | (rw [hji20] at H; exact H) | (simp only [hji20] at H ⊢; exact H)
                      have hji20w : (IntKind.i64.wrap (x10_3 + 1)) = ji20 := (i64_w _).trans hji20
                      by_cases c21 : 0 ≤ (ji20)
                      · rw [if_pos c21] at H
                        have c21b0 : decide (0 ≤ (ji20)) = true := decide_eq_true c21
                        clear c21
                        by_cases c22 : (ji20) < (t204.length : Int)
                        · rw [if_pos c22] at H
                          have c22b0 : decide ((ji20) < (t204.length : Int)) = true := decide_eq_true c22
                          clear c22
                          replace H := Option.bind_eq_some_iff.mp H
                          obtain ⟨⟨t212, t213, t214, t215, t216, t217, t218, t219, t222⟩, A230, H⟩ := H
                          replace H : (if x9_3 = true then (oublietteref39_Parse.l1 k3 t204 x5_1 t208 t222 ji20 t212 t213 t214 t215 t216 t217 t218 t219) else (oublietteref39_Parse.l1 k3 t204 x5_1 t208 false ji20 t212 t213 t214 t215 t216 t217 t218 t219)) = some (r1, r2, r3, r4, r5, r6, r7, r8, r9) := H
                          have A23 := Aside0.mk A230
                          clear A230
                          by_cases c24 : x9_3 = true
                          · subst c24
                            have H1 : (oublietteref39_Parse.l1 k3 t204 x5_1 t208 t222 ji20 t212 t213 t214 t215 t216 t217 t218 t219) = some (r1, r2, r3, r4, r5, r6, r7, r8, r9) := by rw [if_pos rfl] at H; exact H
                            clear H
                            have H := H1
                            clear H1
                            have H' := Aside0.mk H
                            clear H
                            obtain ⟨Ao25, co25, eo25⟩ := Kd.R_slice HO_211007.out
                            subst eo25
                            try go_wp2
                            have n0_ := Aside0.mk (Kd.R_drew HO_4.out)
                            have n1_ := Aside0.mk (Kd.R_drew HO_211007.out)
                            have n2_ := Aside0.mk (blk_drew BK203.out)
                            have n3_ := Aside0.mk (blk_drew BK210.out)
                            have n4_ := Aside0.mk (below_drew1 HB.out)
                            clear HO_4
                            clear HO_211007
                            clear BK203
                            clear BK210
                            clear HB
                            have HO_4 := n0_
                            have HO_211007 := n1_
                            have BK203 := n2_
                            have BK210 := n3_
                            have HB := n4_
                            clear n0_ n1_ n2_ n3_ n4_
                            have p19 : 0 ≤ (x10_3 : Int) := of_decide_eq_true (by first | (with_reducible assumption) | assumption)
                            have q19 : x10_3 < (t208.size : Int) := of_decide_eq_true (by first | (with_reducible assumption) | assumption)
                            have hx19 := bt_at t208 x10_3
                            replace p19 := eq_true p19
                            replace q19 := eq_true q19
                            obtain ⟨Ao27, co27, eo27⟩ := Kd.R_slice HO_4.out
                            (first | subst eo27 | (injection eo27 with f1_ f2_ f3_; have f4_ := f1_.symm; have f5_ := f3_.symm; clear f1_ f2_ f3_; subst f4_; subst f5_))
                            have p211 : 0 ≤ ((ji20) : Int) := of_decide_eq_true (by first | (with_reducible assumption) | assumption)
                            have q211 : (ji20) < (t204.length : Int) := of_decide_eq_true (by first | (with_reducible assumption) | assumption)
                            obtain ⟨ad211, e211, hx211_0⟩ := Kd.at_string (Kd.R_reads' HO_4.out).2.2 (ji20) p211 q211
                            cases e211
                            replace p211 := eq_true p211
                            replace q211 := eq_true q211
                            refine start_ (n := 16) (S := fun w' => w'.cell? ⟨gb210, 0, none⟩ = some (.int .i64 x211000_3) ∧ w'.cell? ⟨gb210, 1, none⟩ = some (.string x211001_3) ∧ w'.cell? ⟨gb210, 2, none⟩ = some (.string x211002_3) ∧ w'.cell? ⟨gb210, 3, none⟩ = some (.int .i64 x211003_3) ∧ w'.cell? ⟨gb210, 4, none⟩ = some (.int .i64 x211004_3) ∧ w'.cell? ⟨gb210, 5, none⟩ = some (.int .i64 x211005_3) ∧ w'.cell? ⟨gb210, 6, none⟩ = some (.int .i64 x211006_3) ∧ w'.cell? ⟨gb210, 7, none⟩ = some (.slice Ao25 x211007_3.length co25) ∧ w'.cell? (ad211.add ((ji20)).toNat) = some (.string (rdOf ByteArray.empty t204 (ji20)))) (ds := []) #[false, false, false, false, false, false, false, false, false, false, false, false, false, false, false, false] (by kernel_rfl) rfl rfl ⟨(blk_cell BK210.out 0).trans rfl, (blk_cell BK210.out 1).trans rfl, (blk_cell BK210.out 2).trans rfl, (blk_cell BK210.out 3).trans rfl, (blk_cell BK210.out 4).trans rfl, (blk_cell BK210.out 5).trans rfl, (blk_cell BK210.out 6).trans rfl, (blk_cell BK210.out 7).trans rfl, hx211_0⟩ (fun hHeld => ?_); refine with_tabW oublietteref39_Parse.tab12 oublietteref39_Parse.bits12 (fun HT_ HW_ => ?_)
                            generalize wr.drew = w26 at HO_4 HO_211007 BK203 BK210 HB hx211_0 hHeld ⊢
                            refine pure_ (i := 1) (N := some 47) (v := ?_) (a' := ?_) #[false, true, false, false, false, false, false, false, false, false, false, false, false, false, false, false] rfl rfl (any_of HT_.out (by kernel_rfl)) (fun _ _ _ h => h) (Or.inl ⟨by rfl, ?_⟩) ?_ ?_
                            rotate_left
                            · intro w'
                              go_simp
                              with_reducible rfl
                            rotate_left
                            · simp only [Act.put, List.setIfInBounds_toArray, List.set_cons_zero, List.set_cons_succ, i64_w, i32_w]
                              rfl
                            refine pure_ (i := 2) (N := some 48) (v := ?_) (a' := ?_) #[false, true, true, false, false, false, false, false, false, false, false, false, false, false, false, false] rfl rfl (any_of HT_.out (by kernel_rfl)) (fun _ _ _ h => h) (Or.inl ⟨by rfl, ?_⟩) ?_ ?_
                            rotate_left
                            · intro w'
                              go_simp
                              with_reducible rfl
                            rotate_left
                            · simp only [Act.put, List.setIfInBounds_toArray, List.set_cons_zero, List.set_cons_succ, i64_w, i32_w]
                              rfl
                            refine pure_ (i := 4) (N := some 50) (v := ?_) (a' := ?_) #[false, true, true, false, true, false, false, false, false, false, false, false, false, false, false, false] rfl rfl (any_of HT_.out (by kernel_rfl)) (fun _ _ _ h => h) (Or.inl ⟨by rfl, ?_⟩) ?_ ?_
                            rotate_left
                            · intro w'
                              go_simp
                              with_reducible rfl
                            rotate_left
                            · simp only [Act.put, List.setIfInBounds_toArray, List.set_cons_zero, List.set_cons_succ, i64_w, i32_w]
                              rfl
                            refine pure_ (i := 5) (N := some 51) (v := ?_) (a' := ?_) #[false, true, true, false, true, true, false, false, false, false, false, false, false, false, false, false] rfl rfl (any_of HT_.out (by kernel_rfl)) (fun _ _ _ h => h) (Or.inl ⟨by rfl, ?_⟩) ?_ ?_
                            rotate_left
                            · intro w'
                              go_simp
                              with_reducible rfl
                            rotate_left
                            · simp only [Act.put, List.setIfInBounds_toArray, List.set_cons_zero, List.set_cons_succ, i64_w, i32_w]
                              rfl
                            refine pure_ (i := 6) (N := some 52) (v := ?_) (a' := ?_) #[false, true, true, false, true, true, true, false, false, false, false, false, false, false, false, false] rfl rfl (any_of HT_.out (by kernel_rfl)) (fun _ _ _ h => h) (Or.inl ⟨by rfl, ?_⟩) ?_ ?_
                            rotate_left
                            · intro w'
                              go_simp
                              with_reducible rfl
                            rotate_left
                            · simp only [Act.put, List.setIfInBounds_toArray, List.set_cons_zero, List.set_cons_succ, i64_w, i32_w]
                              rfl
                            refine pure_ (i := 7) (N := some 53) (v := ?_) (a' := ?_) #[false, true, true, false, true, true, true, true, false, false, false, false, false, false, false, false] rfl rfl (any_of HT_.out (by kernel_rfl)) (fun _ _ _ h => h) (Or.inl ⟨by rfl, ?_⟩) ?_ ?_
                            rotate_left
                            · intro w'
                              go_simp
                              with_reducible rfl
                            rotate_left
                            · simp only [Act.put, List.setIfInBounds_toArray, List.set_cons_zero, List.set_cons_succ, i64_w, i32_w]
                              rfl
                            refine take_ (i := 0) (N := some 46) (v := ?_) (a' := ?_) #[true, true, true, false, true, true, true, true, false, false, false, false, false, false, false, false] rfl rfl (take_ofW HT_.out HW_.out (by kernel_rfl)) (fun _ _ _ h => h) (Or.inl ⟨by rfl, ?_⟩) hHeld ?_ ?_
                            rotate_left
                            · rintro w' ⟨s0, s1, s2, s3, s4, s5, s6, s7, s8⟩
                              go_simp
                              with_reducible rfl
                            rotate_left
                            · simp only [Act.put, List.setIfInBounds_toArray, List.set_cons_zero, List.set_cons_succ, i64_w, i32_w]
                              rfl
                            refine take_ (i := 3) (N := some 49) (v := ?_) (a' := ?_) #[true, true, true, true, true, true, true, true, false, false, false, false, false, false, false, false] rfl rfl (take_ofW HT_.out HW_.out (by kernel_rfl)) (fun _ _ _ h => h) (Or.inl ⟨by rfl, ?_⟩) hHeld ?_ ?_
                            rotate_left
                            · rintro w' ⟨s0, s1, s2, s3, s4, s5, s6, s7, s8⟩
                              go_simp
                              with_reducible rfl
                            rotate_left
                            · simp only [Act.put, List.setIfInBounds_toArray, List.set_cons_zero, List.set_cons_succ, i64_w, i32_w]
                              rfl
                            refine take_ (i := 8) (N := some 54) (v := ?_) (a' := ?_) #[true, true, true, true, true, true, true, true, true, false, false, false, false, false, false, false] rfl rfl (take_ofW HT_.out HW_.out (by kernel_rfl)) (fun _ _ _ h => h) (Or.inl ⟨by rfl, ?_⟩) hHeld ?_ ?_
                            rotate_left
                            · rintro w' ⟨s0, s1, s2, s3, s4, s5, s6, s7, s8⟩
                              go_simp
                              with_reducible rfl
                            rotate_left
                            · simp only [Act.put, List.setIfInBounds_toArray, List.set_cons_zero, List.set_cons_succ, i64_w, i32_w]
                              rfl
                            refine join_ (σ := Value × Nat) 2 #[true, true, true, true, true, true, true, true, true, true, true, true, true, true, false, false] (fun s_ => [(55, .tuple #[.agg #[.int .i64 t212, .string t213, .string t214, .int .i64 t215, .int .i64 t216, .int .i64 t217, .int .i64 t218, s_.1], .bool t222]), (11, .pointer (some ⟨s_.2, 0, none⟩)), (45, .tuple #[.agg #[.int .i64 t212, .string t213, .string t214, .int .i64 t215, .int .i64 t216, .int .i64 t217, .int .i64 t218, s_.1], .bool t222]), (56, .agg #[.int .i64 t212, .string t213, .string t214, .int .i64 t215, .int .i64 t216, .int .i64 t217, .int .i64 t218, s_.1]), (57, .bool t222)]) (fun s_ w' => (w'.cell? ⟨gb210, 0, none⟩ = some (.int .i64 x211000_3) ∧ w'.cell? ⟨gb210, 1, none⟩ = some (.string x211001_3) ∧ w'.cell? ⟨gb210, 2, none⟩ = some (.string x211002_3) ∧ w'.cell? ⟨gb210, 3, none⟩ = some (.int .i64 x211003_3) ∧ w'.cell? ⟨gb210, 4, none⟩ = some (.int .i64 x211004_3) ∧ w'.cell? ⟨gb210, 5, none⟩ = some (.int .i64 x211005_3) ∧ w'.cell? ⟨gb210, 6, none⟩ = some (.int .i64 x211006_3) ∧ w'.cell? ⟨gb210, 7, none⟩ = some (.slice Ao25 x211007_3.length co25) ∧ w'.cell? (ad211.add ((ji20)).toNat) = some (.string (rdOf ByteArray.empty t204 (ji20)))) ∧ (Kd.R (Kd.int .u8) 5 w' w.heap.size (fun _ => True) s_.1 t219) ∧ (Kd.R Kd.string 9 w' w.heap.size (fun _ => True) (.slice (some ad211) t204.length co27) t204) ∧ (w'.heap[gb203]? = some (.cells #[.int .i64 x204000_1, .string x204001_1, .string x204002_1, .int .i64 x204003_1, .int .i64 x204004_1, .int .i64 x204005_1, .int .i64 x204006_1, .slice none 0 0] 28 (0, 0))) ∧ (w'.heap[gb210]? = some (.cells #[.int .i64 x211000_3, .string x211001_3, .string x211002_3, .int .i64 x211003_3, .int .i64 x211004_3, .int .i64 x211005_3, .int .i64 x211006_3, .slice Ao25 x211007_3.length co25] 28 (0, 0))) ∧ (w'.heap[s_.2]? = some (.cells #[.int .i64 0, .string (⟨#[]⟩ : ByteArray), .string (⟨#[]⟩ : ByteArray), .int .i64 0, .int .i64 0, .int .i64 0, .int .i64 0, .slice none 0 0] 28 (0, 0))) ∧ (w.heap.size ≤ s_.2) ∧ (w.heap.size ≤ s_.2) ∧ (gb203 ≠ s_.2) ∧ (s_.2 ≠ gb203) ∧ (gb210 ≠ s_.2) ∧ (s_.2 ≠ gb210) ∧ (Below w.heap.size w w')) ?_ ?_
                            rotate_left
                            · intro hCont
                              refine two_ (i := 9) (j := 13) (Ni := some 55) (Nj := some 11) #[true, true, true, true, true, true, true, true, true, true, false, false, false, false, false, false] #[true, true, true, true, true, true, true, true, true, false, false, false, false, true, false, false] rfl rfl rfl rfl (two_of HT_.out (by kernel_rfl)) (by decide) (by decide) (fun K hK => ?_) (fun K hK => ?_)
                              · skip
                                refine goes_ Tryd.func44 (by kernel_rfl) rfl #[.agg #[.int .i64 x211000_3, .string x211001_3, .string x211002_3, .int .i64 x211003_3, .int .i64 x211004_3, .int .i64 x211005_3, .int .i64 x211006_3, .slice Ao25 x211007_3.length co25], .int .u8 (bt t208 x10_3), .string (rdOf ByteArray.empty t204 (ji20))] (by rfl) rfl rfl (by (try simp only [List.map_toArray, List.map_cons, List.map_nil]); first | done | (simp only [hji20]; rfl) | rfl | (simp only [List.length_drop, List.length_take]; rfl)) ?_
                                with_reducible refine (oublietteref39_with.calls x211000_3 x211001_3 x211002_3 x211003_3 x211004_3 x211005_3 x211006_3 (fun k_ => some k_ = (.slice Ao25 x211007_3.length co25 : Value).ownBlock) (.slice Ao25 x211007_3.length co25) x211007_3 (bt t208 x10_3) (rdOf ByteArray.empty t204 (ji20)) t212 t213 t214 t215 t216 t217 t218 t219 t222 w _ ?side1 ?side2 A23.out).mono ?_
                                (case side1 => repeat (first | (with_reducible first | exact HB.out | apply below_alloc | apply pw_below_drewN | apply below_drew1 | refine below_set ?_ GE203.out | refine below_set ?_ GE210.out) | exact HB.out))
                                (case side2 => exact Kd.R_tight rfl HO_211007.out)
                                rintro e w28 ⟨v220, rfl, ho0, hb, hkp⟩
                                have HS8_ := cell_kept (hHeld.2.2.2.2.2.2.2.2) hkp (by first | (rw [add_block]; exact (fun hs_ => ((((Kd.R_apart' HO_4.out (Kd.R_typed HO_211007.out) (by decide))).1 _ rfl).2) hs_)) | (show ¬ _; simp only [add_block]; exact (fun hs_ => ((((Kd.R_apart' HO_4.out (Kd.R_typed HO_211007.out) (by decide))).1 _ rfl).2) hs_)) | exact (fun hs_ => ((((Kd.R_apart' HO_4.out (Kd.R_typed HO_211007.out) (by decide))).1 _ rfl).2) hs_))
                                refine ⟨_, rfl, ?_⟩
                                have n0_ := Aside0.mk (Kd.R_mono (ok' := fun k_ => True) (Kd.R_keptB ((Kd.R_apart' HO_4.out (Kd.R_typed HO_211007.out) (by decide))) hkp (fun k_ hk_ hs_ => (hk_.2) hs_)) (fun k_ hk_ => trivial))
                                have n1_ := Aside0.mk (blk_kept (by (with_reducible repeat (first | refine blk_drewN ?_ _ | refine blk_drew ?_ | refine blk_alloc ?_ _)); exact BK203.out) hkp (fun hs_ => (fun e_ => (Kd.R_ne HO_211007.out BK203.out (by decide)) e_) hs_))
                                have n2_ := Aside0.mk (blk_kept (by (with_reducible repeat (first | refine blk_drewN ?_ _ | refine blk_drew ?_ | refine blk_alloc ?_ _)); exact BK210.out) hkp (fun hs_ => (fun e_ => (Kd.R_ne HO_211007.out BK210.out (by decide)) e_) hs_))
                                have n3_ := Aside0.mk (Kd.R_mono (ok' := fun k_ => True) ho0 (fun k_ hk_ => trivial))
                                have n4_ := Aside0.mk (hb)
                                clear HO_4
                                clear BK203
                                clear BK210
                                clear HB
                                clear HO_211007
                                have HO_4 := n0_
                                have BK203 := n1_
                                have BK210 := n2_
                                have HO221 := n3_
                                have HB := n4_
                                clear n0_ n1_ n2_ n3_ n4_
                                (try clear hb)
                                (try clear hkp)
                                (try clear ho0)
                                refine hK.out _ _ ⟨(blk_cell BK210.out 0).trans rfl, (blk_cell BK210.out 1).trans rfl, (blk_cell BK210.out 2).trans rfl, (blk_cell BK210.out 3).trans rfl, (blk_cell BK210.out 4).trans rfl, (blk_cell BK210.out 5).trans rfl, (blk_cell BK210.out 6).trans rfl, (blk_cell BK210.out 7).trans rfl, HS8_⟩ (fun hHeld => ?_)
                                clear hK K
                                refine norm_ (a' := ?_) ?_ ?_
                                rotate_left
                                · show Act.put _ (some 55) _ = _
                                  simp only [Act.put, List.setIfInBounds_toArray, List.set_cons_zero, List.set_cons_succ, i64_w, i32_w]
                                  rfl
                                refine pure_ (i := 10) (N := some 45) (v := ?_) (a' := ?_) #[true, true, true, true, true, true, true, true, true, true, true, false, false, false, false, false] rfl rfl (any_of HT_.out (by kernel_rfl)) (fun _ _ _ h => h) (Or.inl ⟨by rfl, ?_⟩) ?_ ?_
                                rotate_left
                                · intro w'
                                  go_simp
                                  with_reducible rfl
                                rotate_left
                                · simp only [Act.put, List.setIfInBounds_toArray, List.set_cons_zero, List.set_cons_succ, i64_w, i32_w]
                                  rfl
                                refine pure_ (i := 11) (N := some 56) (v := ?_) (a' := ?_) #[true, true, true, true, true, true, true, true, true, true, true, true, false, false, false, false] rfl rfl (any_of HT_.out (by kernel_rfl)) (fun _ _ _ h => h) (Or.inl ⟨by rfl, ?_⟩) ?_ ?_
                                rotate_left
                                · intro w'
                                  go_simp
                                  with_reducible rfl
                                rotate_left
                                · simp only [Act.put, List.setIfInBounds_toArray, List.set_cons_zero, List.set_cons_succ, i64_w, i32_w]
                                  rfl
                                refine pure_ (i := 12) (N := some 57) (v := ?_) (a' := ?_) #[true, true, true, true, true, true, true, true, true, true, true, true, true, false, false, false] rfl rfl (any_of HT_.out (by kernel_rfl)) (fun _ _ _ h => h) (Or.inl ⟨by rfl, ?_⟩) ?_ ?_
                                rotate_left
                                · intro w'
                                  go_simp
                                  with_reducible rfl
                                rotate_left
                                · simp only [Act.put, List.setIfInBounds_toArray, List.set_cons_zero, List.set_cons_succ, i64_w, i32_w]
                                  rfl
                                refine one_ (i := 13) (N := some 11) #[true, true, true, true, true, true, true, true, true, true, true, true, true, true, false, false] rfl rfl (one_of HT_.out (by kernel_rfl)) (by decide) (fun K hK => ?_)
                                refine box_step ?hg (N := 11) ?hd (cs := #[.int .i64 0, .string (⟨#[]⟩ : ByteArray), .string (⟨#[]⟩ : ByteArray), .int .i64 0, .int .i64 0, .int .i64 0, .int .i64 0, .slice none 0 0]) (t := 28) ?hr ?_; (case hd => rfl); (case hg => rfl); (case hr => first | (go_simp; done) | (go_simp; rfl))
                                intro gb223 hg w29 hbox hb
                                have HS8_ := (hb.cell (World.block_lt_of_cell? _ _ (hHeld.2.2.2.2.2.2.2.2))).trans (hHeld.2.2.2.2.2.2.2.2)
                                have n0_ := Aside0.mk (Kd.R_below (by (with_reducible repeat (first | apply Kd.R_alloc | apply Kd.R_drewN | apply Kd.R_drew)); exact HO_4.out) hb)
                                have n1_ := Aside0.mk (Kd.R_below (by (with_reducible repeat (first | apply Kd.R_alloc | apply Kd.R_drewN | apply Kd.R_drew)); exact HO221.out) hb)
                                have n2_ := Aside0.mk (blk_below (g := gb203) (o := .cells #[.int .i64 x204000_1, .string x204001_1, .string x204002_1, .int .i64 x204003_1, .int .i64 x204004_1, .int .i64 x204005_1, .int .i64 x204006_1, .slice none 0 0] 28 (0, 0)) (by (with_reducible repeat (first | refine blk_drewN ?_ _ | refine blk_drew ?_ | refine blk_alloc ?_ _)); exact BK203.out) hb)
                                have n3_ := Aside0.mk (blk_below (g := gb210) (o := .cells #[.int .i64 x211000_3, .string x211001_3, .string x211002_3, .int .i64 x211003_3, .int .i64 x211004_3, .int .i64 x211005_3, .int .i64 x211006_3, .slice Ao25 x211007_3.length co25] 28 (0, 0)) (by (with_reducible repeat (first | refine blk_drewN ?_ _ | refine blk_drew ?_ | refine blk_alloc ?_ _)); exact BK210.out) hb)
                                have n4_ := Aside0.mk (below_step (by repeat (first | (with_reducible first | exact HB.out | apply below_alloc | apply pw_below_drewN | apply below_drew1 | refine below_set ?_ GE203.out | refine below_set ?_ GE210.out) | exact HB.out)) hb)
                                have n5_ := Aside0.mk (hbox)
                                have n6_ := Aside0.mk ((by rw [hg]; exact (below_size (by repeat (first | (with_reducible first | exact HB.out | apply below_alloc | apply pw_below_drewN | apply below_drew1 | refine below_set ?_ GE203.out | refine below_set ?_ GE210.out) | exact HB.out))) : w.heap.size ≤ gb223))
                                have n7_ := Aside0.mk ((by rw [hg]; exact (below_size (by repeat (first | (with_reducible first | exact HB.out | apply below_alloc | apply pw_below_drewN | apply below_drew1 | refine below_set ?_ GE203.out | refine below_set ?_ GE210.out) | exact HB.out))) : w.heap.size ≤ gb223))
                                have n8_ := Aside0.mk ((by rw [hg]; exact Nat.ne_of_lt (blk_lt (g := gb203) (o := .cells #[.int .i64 x204000_1, .string x204001_1, .string x204002_1, .int .i64 x204003_1, .int .i64 x204004_1, .int .i64 x204005_1, .int .i64 x204006_1, .slice none 0 0] 28 (0, 0)) (by (with_reducible repeat (first | refine blk_drewN ?_ _ | refine blk_drew ?_ | refine blk_alloc ?_ _)); exact BK203.out)) : gb203 ≠ gb223))
                                have n9_ := Aside0.mk ((by rw [hg]; exact Nat.ne_of_gt (blk_lt (g := gb203) (o := .cells #[.int .i64 x204000_1, .string x204001_1, .string x204002_1, .int .i64 x204003_1, .int .i64 x204004_1, .int .i64 x204005_1, .int .i64 x204006_1, .slice none 0 0] 28 (0, 0)) (by (with_reducible repeat (first | refine blk_drewN ?_ _ | refine blk_drew ?_ | refine blk_alloc ?_ _)); exact BK203.out)) : gb223 ≠ gb203))
                                have n10_ := Aside0.mk ((by rw [hg]; exact Nat.ne_of_lt (blk_lt (g := gb210) (o := .cells #[.int .i64 x211000_3, .string x211001_3, .string x211002_3, .int .i64 x211003_3, .int .i64 x211004_3, .int .i64 x211005_3, .int .i64 x211006_3, .slice Ao25 x211007_3.length co25] 28 (0, 0)) (by (with_reducible repeat (first | refine blk_drewN ?_ _ | refine blk_drew ?_ | refine blk_alloc ?_ _)); exact BK210.out)) : gb210 ≠ gb223))
                                have n11_ := Aside0.mk ((by rw [hg]; exact Nat.ne_of_gt (blk_lt (g := gb210) (o := .cells #[.int .i64 x211000_3, .string x211001_3, .string x211002_3, .int .i64 x211003_3, .int .i64 x211004_3, .int .i64 x211005_3, .int .i64 x211006_3, .slice Ao25 x211007_3.length co25] 28 (0, 0)) (by (with_reducible repeat (first | refine blk_drewN ?_ _ | refine blk_drew ?_ | refine blk_alloc ?_ _)); exact BK210.out)) : gb223 ≠ gb210))
                                clear HO_4
                                clear HO221
                                clear BK203
                                clear BK210
                                clear HB
                                have HO_4 := n0_
                                have HO221 := n1_
                                have BK203 := n2_
                                have BK210 := n3_
                                have HB := n4_
                                have BK223 := n5_
                                have GW223 := n6_
                                have GE223 := n7_
                                have NB203_223 := n8_
                                have NB223_203 := n9_
                                have NB210_223 := n10_
                                have NB223_210 := n11_
                                clear n0_ n1_ n2_ n3_ n4_ n5_ n6_ n7_ n8_ n9_ n10_ n11_
                                clear hb hbox hg
                                refine hK.out _ _ ⟨(blk_cell BK210.out 0).trans rfl, (blk_cell BK210.out 1).trans rfl, (blk_cell BK210.out 2).trans rfl, (blk_cell BK210.out 3).trans rfl, (blk_cell BK210.out 4).trans rfl, (blk_cell BK210.out 5).trans rfl, (blk_cell BK210.out 6).trans rfl, (blk_cell BK210.out 7).trans rfl, HS8_⟩ (fun hHeld => ?_)
                                clear hK K
                                refine norm_ (a' := ?_) ?_ ?_
                                rotate_left
                                · show Act.put _ (some 11) _ = _
                                  simp only [Act.put, List.setIfInBounds_toArray, List.set_cons_zero, List.set_cons_succ, i64_w, i32_w]
                                  rfl
                                exact norm_ (by simp only [putAll, Act.put, List.setIfInBounds_toArray, List.set_cons_zero, List.set_cons_succ]) (hCont (v220, gb223) _ ⟨hHeld, (by (with_reducible repeat (first | apply Kd.R_alloc | apply Kd.R_drewN | apply Kd.R_drew)); exact HO221.out), (by (with_reducible repeat (first | apply Kd.R_alloc | apply Kd.R_drewN | apply Kd.R_drew)); exact HO_4.out), (by (with_reducible repeat (first | refine blk_drewN ?_ _ | refine blk_drew ?_ | refine blk_alloc ?_ _)); exact BK203.out), (by (with_reducible repeat (first | refine blk_drewN ?_ _ | refine blk_drew ?_ | refine blk_alloc ?_ _)); exact BK210.out), (by (with_reducible repeat (first | refine blk_drewN ?_ _ | refine blk_drew ?_ | refine blk_alloc ?_ _)); exact BK223.out), GW223.out, GE223.out, NB203_223.out, NB223_203.out, NB210_223.out, NB223_210.out, (by repeat (first | (with_reducible first | exact HB.out | apply below_alloc | apply pw_below_drewN | apply below_drew1 | refine below_set ?_ GE203.out | refine below_set ?_ GE210.out | refine below_set ?_ GE223.out) | exact HB.out))⟩)
                              · skip
                                refine box_step ?hg (N := 11) ?hd (cs := #[.int .i64 0, .string (⟨#[]⟩ : ByteArray), .string (⟨#[]⟩ : ByteArray), .int .i64 0, .int .i64 0, .int .i64 0, .int .i64 0, .slice none 0 0]) (t := 28) ?hr ?_; (case hd => rfl); (case hg => rfl); (case hr => first | (go_simp; done) | (go_simp; rfl))
                                intro gb223 hg w28 hbox hb
                                have HS8_ := (hb.cell (World.block_lt_of_cell? _ _ (hHeld.2.2.2.2.2.2.2.2))).trans (hHeld.2.2.2.2.2.2.2.2)
                                have n0_ := Aside0.mk (Kd.R_below (by (with_reducible repeat (first | apply Kd.R_alloc | apply Kd.R_drewN | apply Kd.R_drew)); exact HO_4.out) hb)
                                have n1_ := Aside0.mk (Kd.R_below (by (with_reducible repeat (first | apply Kd.R_alloc | apply Kd.R_drewN | apply Kd.R_drew)); exact HO_211007.out) hb)
                                have n2_ := Aside0.mk (blk_below (g := gb203) (o := .cells #[.int .i64 x204000_1, .string x204001_1, .string x204002_1, .int .i64 x204003_1, .int .i64 x204004_1, .int .i64 x204005_1, .int .i64 x204006_1, .slice none 0 0] 28 (0, 0)) (by (with_reducible repeat (first | refine blk_drewN ?_ _ | refine blk_drew ?_ | refine blk_alloc ?_ _)); exact BK203.out) hb)
                                have n3_ := Aside0.mk (blk_below (g := gb210) (o := .cells #[.int .i64 x211000_3, .string x211001_3, .string x211002_3, .int .i64 x211003_3, .int .i64 x211004_3, .int .i64 x211005_3, .int .i64 x211006_3, .slice Ao25 x211007_3.length co25] 28 (0, 0)) (by (with_reducible repeat (first | refine blk_drewN ?_ _ | refine blk_drew ?_ | refine blk_alloc ?_ _)); exact BK210.out) hb)
                                have n4_ := Aside0.mk (below_step (by repeat (first | (with_reducible first | exact HB.out | apply below_alloc | apply pw_below_drewN | apply below_drew1 | refine below_set ?_ GE203.out | refine below_set ?_ GE210.out) | exact HB.out)) hb)
                                have n5_ := Aside0.mk (hbox)
                                have n6_ := Aside0.mk ((by rw [hg]; exact (below_size (by repeat (first | (with_reducible first | exact HB.out | apply below_alloc | apply pw_below_drewN | apply below_drew1 | refine below_set ?_ GE203.out | refine below_set ?_ GE210.out) | exact HB.out))) : w.heap.size ≤ gb223))
                                have n7_ := Aside0.mk ((by rw [hg]; exact (below_size (by repeat (first | (with_reducible first | exact HB.out | apply below_alloc | apply pw_below_drewN | apply below_drew1 | refine below_set ?_ GE203.out | refine below_set ?_ GE210.out) | exact HB.out))) : w.heap.size ≤ gb223))
                                have n8_ := Aside0.mk ((by rw [hg]; exact Nat.ne_of_lt (blk_lt (g := gb203) (o := .cells #[.int .i64 x204000_1, .string x204001_1, .string x204002_1, .int .i64 x204003_1, .int .i64 x204004_1, .int .i64 x204005_1, .int .i64 x204006_1, .slice none 0 0] 28 (0, 0)) (by (with_reducible repeat (first | refine blk_drewN ?_ _ | refine blk_drew ?_ | refine blk_alloc ?_ _)); exact BK203.out)) : gb203 ≠ gb223))
                                have n9_ := Aside0.mk ((by rw [hg]; exact Nat.ne_of_gt (blk_lt (g := gb203) (o := .cells #[.int .i64 x204000_1, .string x204001_1, .string x204002_1, .int .i64 x204003_1, .int .i64 x204004_1, .int .i64 x204005_1, .int .i64 x204006_1, .slice none 0 0] 28 (0, 0)) (by (with_reducible repeat (first | refine blk_drewN ?_ _ | refine blk_drew ?_ | refine blk_alloc ?_ _)); exact BK203.out)) : gb223 ≠ gb203))
                                have n10_ := Aside0.mk ((by rw [hg]; exact Nat.ne_of_lt (blk_lt (g := gb210) (o := .cells #[.int .i64 x211000_3, .string x211001_3, .string x211002_3, .int .i64 x211003_3, .int .i64 x211004_3, .int .i64 x211005_3, .int .i64 x211006_3, .slice Ao25 x211007_3.length co25] 28 (0, 0)) (by (with_reducible repeat (first | refine blk_drewN ?_ _ | refine blk_drew ?_ | refine blk_alloc ?_ _)); exact BK210.out)) : gb210 ≠ gb223))
                                have n11_ := Aside0.mk ((by rw [hg]; exact Nat.ne_of_gt (blk_lt (g := gb210) (o := .cells #[.int .i64 x211000_3, .string x211001_3, .string x211002_3, .int .i64 x211003_3, .int .i64 x211004_3, .int .i64 x211005_3, .int .i64 x211006_3, .slice Ao25 x211007_3.length co25] 28 (0, 0)) (by (with_reducible repeat (first | refine blk_drewN ?_ _ | refine blk_drew ?_ | refine blk_alloc ?_ _)); exact BK210.out)) : gb223 ≠ gb210))
                                clear HO_4
                                clear HO_211007
                                clear BK203
                                clear BK210
                                clear HB
                                have HO_4 := n0_
                                have HO_211007 := n1_
                                have BK203 := n2_
                                have BK210 := n3_
                                have HB := n4_
                                have BK223 := n5_
                                have GW223 := n6_
                                have GE223 := n7_
                                have NB203_223 := n8_
                                have NB223_203 := n9_
                                have NB210_223 := n10_
                                have NB223_210 := n11_
                                clear n0_ n1_ n2_ n3_ n4_ n5_ n6_ n7_ n8_ n9_ n10_ n11_
                                clear hb hbox hg
                                refine hK.out _ _ ⟨(blk_cell BK210.out 0).trans rfl, (blk_cell BK210.out 1).trans rfl, (blk_cell BK210.out 2).trans rfl, (blk_cell BK210.out 3).trans rfl, (blk_cell BK210.out 4).trans rfl, (blk_cell BK210.out 5).trans rfl, (blk_cell BK210.out 6).trans rfl, (blk_cell BK210.out 7).trans rfl, HS8_⟩ (fun hHeld => ?_)
                                clear hK K
                                refine norm_ (a' := ?_) ?_ ?_
                                rotate_left
                                · show Act.put _ (some 11) _ = _
                                  simp only [Act.put, List.setIfInBounds_toArray, List.set_cons_zero, List.set_cons_succ, i64_w, i32_w]
                                  rfl
                                refine one_ (i := 9) (N := some 55) #[true, true, true, true, true, true, true, true, true, true, false, false, false, true, false, false] rfl rfl (one_of HT_.out (by kernel_rfl)) (by decide) (fun K hK => ?_)
                                refine goes_ Tryd.func44 (by kernel_rfl) rfl #[.agg #[.int .i64 x211000_3, .string x211001_3, .string x211002_3, .int .i64 x211003_3, .int .i64 x211004_3, .int .i64 x211005_3, .int .i64 x211006_3, .slice Ao25 x211007_3.length co25], .int .u8 (bt t208 x10_3), .string (rdOf ByteArray.empty t204 (ji20))] (by rfl) rfl rfl (by (try simp only [List.map_toArray, List.map_cons, List.map_nil]); first | done | (simp only [hji20]; rfl) | rfl | (simp only [List.length_drop, List.length_take]; rfl)) ?_
                                with_reducible refine (oublietteref39_with.calls x211000_3 x211001_3 x211002_3 x211003_3 x211004_3 x211005_3 x211006_3 (fun k_ => some k_ = (.slice Ao25 x211007_3.length co25 : Value).ownBlock) (.slice Ao25 x211007_3.length co25) x211007_3 (bt t208 x10_3) (rdOf ByteArray.empty t204 (ji20)) t212 t213 t214 t215 t216 t217 t218 t219 t222 w _ ?side1 ?side2 A23.out).mono ?_
                                (case side1 => repeat (first | (with_reducible first | exact HB.out | apply below_alloc | apply pw_below_drewN | apply below_drew1 | refine below_set ?_ GE203.out | refine below_set ?_ GE210.out | refine below_set ?_ GE223.out) | exact HB.out))
                                (case side2 => exact Kd.R_tight rfl HO_211007.out)
                                rintro e w29 ⟨v220, rfl, ho0, hb, hkp⟩
                                have HS8_ := cell_kept (hHeld.2.2.2.2.2.2.2.2) hkp (by first | (rw [add_block]; exact (fun hs_ => ((((Kd.R_apart' HO_4.out (Kd.R_typed HO_211007.out) (by decide))).1 _ rfl).2) hs_)) | (show ¬ _; simp only [add_block]; exact (fun hs_ => ((((Kd.R_apart' HO_4.out (Kd.R_typed HO_211007.out) (by decide))).1 _ rfl).2) hs_)) | exact (fun hs_ => ((((Kd.R_apart' HO_4.out (Kd.R_typed HO_211007.out) (by decide))).1 _ rfl).2) hs_))
                                refine ⟨_, rfl, ?_⟩
                                have n0_ := Aside0.mk (Kd.R_mono (ok' := fun k_ => True) (Kd.R_keptB ((Kd.R_apart' HO_4.out (Kd.R_typed HO_211007.out) (by decide))) hkp (fun k_ hk_ hs_ => (hk_.2) hs_)) (fun k_ hk_ => trivial))
                                have n1_ := Aside0.mk (blk_kept (by (with_reducible repeat (first | refine blk_drewN ?_ _ | refine blk_drew ?_ | refine blk_alloc ?_ _)); exact BK203.out) hkp (fun hs_ => (fun e_ => (Kd.R_ne HO_211007.out BK203.out (by decide)) e_) hs_))
                                have n2_ := Aside0.mk (blk_kept (by (with_reducible repeat (first | refine blk_drewN ?_ _ | refine blk_drew ?_ | refine blk_alloc ?_ _)); exact BK210.out) hkp (fun hs_ => (fun e_ => (Kd.R_ne HO_211007.out BK210.out (by decide)) e_) hs_))
                                have n3_ := Aside0.mk (blk_kept (by (with_reducible repeat (first | refine blk_drewN ?_ _ | refine blk_drew ?_ | refine blk_alloc ?_ _)); exact BK223.out) hkp (fun hs_ => (fun e_ => (Kd.R_ne HO_211007.out BK223.out (by decide)) e_) hs_))
                                have n4_ := Aside0.mk (Kd.R_mono (ok' := fun k_ => True) ho0 (fun k_ hk_ => trivial))
                                have n5_ := Aside0.mk (hb)
                                clear HO_4
                                clear BK203
                                clear BK210
                                clear BK223
                                clear HB
                                clear HO_211007
                                have HO_4 := n0_
                                have BK203 := n1_
                                have BK210 := n2_
                                have BK223 := n3_
                                have HO221 := n4_
                                have HB := n5_
                                clear n0_ n1_ n2_ n3_ n4_ n5_
                                (try clear hb)
                                (try clear hkp)
                                (try clear ho0)
                                refine hK.out _ _ ⟨(blk_cell BK210.out 0).trans rfl, (blk_cell BK210.out 1).trans rfl, (blk_cell BK210.out 2).trans rfl, (blk_cell BK210.out 3).trans rfl, (blk_cell BK210.out 4).trans rfl, (blk_cell BK210.out 5).trans rfl, (blk_cell BK210.out 6).trans rfl, (blk_cell BK210.out 7).trans rfl, HS8_⟩ (fun hHeld => ?_)
                                clear hK K
                                refine norm_ (a' := ?_) ?_ ?_
                                rotate_left
                                · show Act.put _ (some 55) _ = _
                                  simp only [Act.put, List.setIfInBounds_toArray, List.set_cons_zero, List.set_cons_succ, i64_w, i32_w]
                                  rfl
                                refine pure_ (i := 10) (N := some 45) (v := ?_) (a' := ?_) #[true, true, true, true, true, true, true, true, true, true, true, false, false, true, false, false] rfl rfl (any_of HT_.out (by kernel_rfl)) (fun _ _ _ h => h) (Or.inl ⟨by rfl, ?_⟩) ?_ ?_
                                rotate_left
                                · intro w'
                                  go_simp
                                  with_reducible rfl
                                rotate_left
                                · simp only [Act.put, List.setIfInBounds_toArray, List.set_cons_zero, List.set_cons_succ, i64_w, i32_w]
                                  rfl
                                refine pure_ (i := 11) (N := some 56) (v := ?_) (a' := ?_) #[true, true, true, true, true, true, true, true, true, true, true, true, false, true, false, false] rfl rfl (any_of HT_.out (by kernel_rfl)) (fun _ _ _ h => h) (Or.inl ⟨by rfl, ?_⟩) ?_ ?_
                                rotate_left
                                · intro w'
                                  go_simp
                                  with_reducible rfl
                                rotate_left
                                · simp only [Act.put, List.setIfInBounds_toArray, List.set_cons_zero, List.set_cons_succ, i64_w, i32_w]
                                  rfl
                                refine pure_ (i := 12) (N := some 57) (v := ?_) (a' := ?_) #[true, true, true, true, true, true, true, true, true, true, true, true, true, true, false, false] rfl rfl (any_of HT_.out (by kernel_rfl)) (fun _ _ _ h => h) (Or.inl ⟨by rfl, ?_⟩) ?_ ?_
                                rotate_left
                                · intro w'
                                  go_simp
                                  with_reducible rfl
                                rotate_left
                                · simp only [Act.put, List.setIfInBounds_toArray, List.set_cons_zero, List.set_cons_succ, i64_w, i32_w]
                                  rfl
                                exact norm_ (by simp only [putAll, Act.put, List.setIfInBounds_toArray, List.set_cons_zero, List.set_cons_succ]) (hCont (v220, gb223) _ ⟨hHeld, (by (with_reducible repeat (first | apply Kd.R_alloc | apply Kd.R_drewN | apply Kd.R_drew)); exact HO221.out), (by (with_reducible repeat (first | apply Kd.R_alloc | apply Kd.R_drewN | apply Kd.R_drew)); exact HO_4.out), (by (with_reducible repeat (first | refine blk_drewN ?_ _ | refine blk_drew ?_ | refine blk_alloc ?_ _)); exact BK203.out), (by (with_reducible repeat (first | refine blk_drewN ?_ _ | refine blk_drew ?_ | refine blk_alloc ?_ _)); exact BK210.out), (by (with_reducible repeat (first | refine blk_drewN ?_ _ | refine blk_drew ?_ | refine blk_alloc ?_ _)); exact BK223.out), GW223.out, GE223.out, NB203_223.out, NB223_203.out, NB210_223.out, NB223_210.out, (by repeat (first | (with_reducible first | exact HB.out | apply below_alloc | apply pw_below_drewN | apply below_drew1 | refine below_set ?_ GE203.out | refine below_set ?_ GE210.out | refine below_set ?_ GE223.out) | exact HB.out))⟩)
                            rintro ⟨v220, gb223⟩ w30 ⟨hS_, h0_, h1_, h2_, h3_, h4_, h5_, h6_, h7_, h8_, h9_, h10_, h11_⟩
                            have n0_ : Aside0 (Kd.R (Kd.int .u8) 5 w30 w.heap.size (fun _ => True) v220 t219) := ⟨h0_⟩
                            have n1_ : Aside0 (Kd.R Kd.string 9 w30 w.heap.size (fun _ => True) (.slice (some ad211) t204.length co27) t204) := ⟨h1_⟩
                            have n2_ : Aside0 (w30.heap[gb203]? = some (.cells #[.int .i64 x204000_1, .string x204001_1, .string x204002_1, .int .i64 x204003_1, .int .i64 x204004_1, .int .i64 x204005_1, .int .i64 x204006_1, .slice none 0 0] 28 (0, 0))) := ⟨h2_⟩
                            have n3_ : Aside0 (w30.heap[gb210]? = some (.cells #[.int .i64 x211000_3, .string x211001_3, .string x211002_3, .int .i64 x211003_3, .int .i64 x211004_3, .int .i64 x211005_3, .int .i64 x211006_3, .slice Ao25 x211007_3.length co25] 28 (0, 0))) := ⟨h3_⟩
                            have n4_ : Aside0 (w30.heap[gb223]? = some (.cells #[.int .i64 0, .string (⟨#[]⟩ : ByteArray), .string (⟨#[]⟩ : ByteArray), .int .i64 0, .int .i64 0, .int .i64 0, .int .i64 0, .slice none 0 0] 28 (0, 0))) := ⟨h4_⟩
                            have n5_ : Aside0 (w.heap.size ≤ gb223) := ⟨h5_⟩
                            have n6_ : Aside0 (w.heap.size ≤ gb223) := ⟨h6_⟩
                            have n7_ : Aside0 (gb203 ≠ gb223) := ⟨h7_⟩
                            have n8_ : Aside0 (gb223 ≠ gb203) := ⟨h8_⟩
                            have n9_ : Aside0 (gb210 ≠ gb223) := ⟨h9_⟩
                            have n10_ : Aside0 (gb223 ≠ gb210) := ⟨h10_⟩
                            have n11_ : Aside0 (Below w.heap.size w w30) := ⟨h11_⟩
                            clear HO_4
                            clear HO_211007
                            clear BK203
                            clear BK210
                            clear HB
                            clear h0_ h1_ h2_ h3_ h4_ h5_ h6_ h7_ h8_ h9_ h10_ h11_
                            have HO221 := n0_
                            have HO_4 := n1_
                            have BK203 := n2_
                            have BK210 := n3_
                            have BK223 := n4_
                            have GW223 := n5_
                            have GE223 := n6_
                            have NB203_223 := n7_
                            have NB223_203 := n8_
                            have NB210_223 := n9_
                            have NB223_210 := n10_
                            have HB := n11_
                            clear n0_ n1_ n2_ n3_ n4_ n5_ n6_ n7_ n8_ n9_ n10_ n11_
                            have hHeld : w30.cell? ⟨gb210, 0, none⟩ = some (.int .i64 x211000_3) ∧ w30.cell? ⟨gb210, 1, none⟩ = some (.string x211001_3) ∧ w30.cell? ⟨gb210, 2, none⟩ = some (.string x211002_3) ∧ w30.cell? ⟨gb210, 3, none⟩ = some (.int .i64 x211003_3) ∧ w30.cell? ⟨gb210, 4, none⟩ = some (.int .i64 x211004_3) ∧ w30.cell? ⟨gb210, 5, none⟩ = some (.int .i64 x211005_3) ∧ w30.cell? ⟨gb210, 6, none⟩ = some (.int .i64 x211006_3) ∧ w30.cell? ⟨gb210, 7, none⟩ = some (.slice Ao25 x211007_3.length co25) ∧ w30.cell? (ad211.add ((ji20)).toNat) = some (.string (rdOf ByteArray.empty t204 (ji20))) := hS_
                            obtain ⟨Ao38, co38, eo38⟩ := Kd.R_slice HO221.out
                            (first | subst eo38 | (injection eo38 with f1_ f2_ f3_; have f4_ := f1_.symm; have f5_ := f3_.symm; clear f1_ f2_ f3_; subst f4_; subst f5_))
                            refine norm_ (a' := ?_) ?_ ?_
                            rotate_left
                            · simp only [putAll, Act.put, List.setIfInBounds_toArray, List.set_cons_zero, List.set_cons_succ]
                              rfl
                            refine one_ (i := 14) (N := none) #[true, true, true, true, true, true, true, true, true, true, true, true, true, true, true, false] rfl rfl (one_of HT_.out (by kernel_rfl)) (by decide) (fun K hK => ?_)
                            have hs31 : w30.cell? ⟨gb223, 0, none⟩ = some (.int .i64 0) := (blk_cell BK223.out 0).trans rfl
                            have hfs31 := blk_frozen BK223.out 0
                            have hns31_0 := NB203_223.out
                            have hns31_1 := NB210_223.out
                            have hms31_0 := NB223_203.out
                            have hms31_1 := NB223_210.out
                            have hs32 : w30.cell? ⟨gb223, 1, none⟩ = some (.string (⟨#[]⟩ : ByteArray)) := (blk_cell BK223.out 1).trans rfl
                            have hfs32 := blk_frozen BK223.out 1
                            have hns32_0 := NB203_223.out
                            have hns32_1 := NB210_223.out
                            have hms32_0 := NB223_203.out
                            have hms32_1 := NB223_210.out
                            have hs33 : w30.cell? ⟨gb223, 2, none⟩ = some (.string (⟨#[]⟩ : ByteArray)) := (blk_cell BK223.out 2).trans rfl
                            have hfs33 := blk_frozen BK223.out 2
                            have hns33_0 := NB203_223.out
                            have hns33_1 := NB210_223.out
                            have hms33_0 := NB223_203.out
                            have hms33_1 := NB223_210.out
                            have hs34 : w30.cell? ⟨gb223, 3, none⟩ = some (.int .i64 0) := (blk_cell BK223.out 3).trans rfl
                            have hfs34 := blk_frozen BK223.out 3
                            have hns34_0 := NB203_223.out
                            have hns34_1 := NB210_223.out
                            have hms34_0 := NB223_203.out
                            have hms34_1 := NB223_210.out
                            have hs35 : w30.cell? ⟨gb223, 4, none⟩ = some (.int .i64 0) := (blk_cell BK223.out 4).trans rfl
                            have hfs35 := blk_frozen BK223.out 4
                            have hns35_0 := NB203_223.out
                            have hns35_1 := NB210_223.out
                            have hms35_0 := NB223_203.out
                            have hms35_1 := NB223_210.out
                            have hs36 : w30.cell? ⟨gb223, 5, none⟩ = some (.int .i64 0) := (blk_cell BK223.out 5).trans rfl
                            have hfs36 := blk_frozen BK223.out 5
                            have hns36_0 := NB203_223.out
                            have hns36_1 := NB210_223.out
                            have hms36_0 := NB223_203.out
                            have hms36_1 := NB223_210.out
                            have hs37 : w30.cell? ⟨gb223, 6, none⟩ = some (.int .i64 0) := (blk_cell BK223.out 6).trans rfl
                            have hfs37 := blk_frozen BK223.out 6
                            have hns37_0 := NB203_223.out
                            have hns37_1 := NB210_223.out
                            have hms37_0 := NB223_203.out
                            have hms37_1 := NB223_210.out
                            have hs39 : w30.cell? ⟨gb223, 7, none⟩ = some (.slice none 0 0) := (blk_cell BK223.out 7).trans rfl
                            have hfs39 := blk_frozen BK223.out 7
                            have hns39_0 := NB203_223.out
                            have hns39_1 := NB210_223.out
                            have hms39_0 := NB223_203.out
                            have hms39_1 := NB223_210.out
                            refine skip_ (w1 := ?_) (by rfl) rfl ?_ ?_
                            rotate_left
                            · go_simp
                              rfl
                            refine hK.out _ _ ⟨((cell_far (p := ⟨gb223, _, none⟩) NB210_223.out _).trans (((cell_far (p := ⟨gb223, _, none⟩) NB210_223.out _).trans (((cell_far (p := ⟨gb223, _, none⟩) NB210_223.out _).trans (((cell_far (p := ⟨gb223, _, none⟩) NB210_223.out _).trans (((cell_far (p := ⟨gb223, _, none⟩) NB210_223.out _).trans (((cell_far (p := ⟨gb223, _, none⟩) NB210_223.out _).trans (((cell_far (p := ⟨gb223, _, none⟩) NB210_223.out _).trans (((cell_far (p := ⟨gb223, _, none⟩) NB210_223.out _).trans (hHeld.1)))))))))))))))), ((cell_far (p := ⟨gb223, _, none⟩) NB210_223.out _).trans (((cell_far (p := ⟨gb223, _, none⟩) NB210_223.out _).trans (((cell_far (p := ⟨gb223, _, none⟩) NB210_223.out _).trans (((cell_far (p := ⟨gb223, _, none⟩) NB210_223.out _).trans (((cell_far (p := ⟨gb223, _, none⟩) NB210_223.out _).trans (((cell_far (p := ⟨gb223, _, none⟩) NB210_223.out _).trans (((cell_far (p := ⟨gb223, _, none⟩) NB210_223.out _).trans (((cell_far (p := ⟨gb223, _, none⟩) NB210_223.out _).trans (hHeld.2.1)))))))))))))))), ((cell_far (p := ⟨gb223, _, none⟩) NB210_223.out _).trans (((cell_far (p := ⟨gb223, _, none⟩) NB210_223.out _).trans (((cell_far (p := ⟨gb223, _, none⟩) NB210_223.out _).trans (((cell_far (p := ⟨gb223, _, none⟩) NB210_223.out _).trans (((cell_far (p := ⟨gb223, _, none⟩) NB210_223.out _).trans (((cell_far (p := ⟨gb223, _, none⟩) NB210_223.out _).trans (((cell_far (p := ⟨gb223, _, none⟩) NB210_223.out _).trans (((cell_far (p := ⟨gb223, _, none⟩) NB210_223.out _).trans (hHeld.2.2.1)))))))))))))))), ((cell_far (p := ⟨gb223, _, none⟩) NB210_223.out _).trans (((cell_far (p := ⟨gb223, _, none⟩) NB210_223.out _).trans (((cell_far (p := ⟨gb223, _, none⟩) NB210_223.out _).trans (((cell_far (p := ⟨gb223, _, none⟩) NB210_223.out _).trans (((cell_far (p := ⟨gb223, _, none⟩) NB210_223.out _).trans (((cell_far (p := ⟨gb223, _, none⟩) NB210_223.out _).trans (((cell_far (p := ⟨gb223, _, none⟩) NB210_223.out _).trans (((cell_far (p := ⟨gb223, _, none⟩) NB210_223.out _).trans (hHeld.2.2.2.1)))))))))))))))), ((cell_far (p := ⟨gb223, _, none⟩) NB210_223.out _).trans (((cell_far (p := ⟨gb223, _, none⟩) NB210_223.out _).trans (((cell_far (p := ⟨gb223, _, none⟩) NB210_223.out _).trans (((cell_far (p := ⟨gb223, _, none⟩) NB210_223.out _).trans (((cell_far (p := ⟨gb223, _, none⟩) NB210_223.out _).trans (((cell_far (p := ⟨gb223, _, none⟩) NB210_223.out _).trans (((cell_far (p := ⟨gb223, _, none⟩) NB210_223.out _).trans (((cell_far (p := ⟨gb223, _, none⟩) NB210_223.out _).trans (hHeld.2.2.2.2.1)))))))))))))))), ((cell_far (p := ⟨gb223, _, none⟩) NB210_223.out _).trans (((cell_far (p := ⟨gb223, _, none⟩) NB210_223.out _).trans (((cell_far (p := ⟨gb223, _, none⟩) NB210_223.out _).trans (((cell_far (p := ⟨gb223, _, none⟩) NB210_223.out _).trans (((cell_far (p := ⟨gb223, _, none⟩) NB210_223.out _).trans (((cell_far (p := ⟨gb223, _, none⟩) NB210_223.out _).trans (((cell_far (p := ⟨gb223, _, none⟩) NB210_223.out _).trans (((cell_far (p := ⟨gb223, _, none⟩) NB210_223.out _).trans (hHeld.2.2.2.2.2.1)))))))))))))))), ((cell_far (p := ⟨gb223, _, none⟩) NB210_223.out _).trans (((cell_far (p := ⟨gb223, _, none⟩) NB210_223.out _).trans (((cell_far (p := ⟨gb223, _, none⟩) NB210_223.out _).trans (((cell_far (p := ⟨gb223, _, none⟩) NB210_223.out _).trans (((cell_far (p := ⟨gb223, _, none⟩) NB210_223.out _).trans (((cell_far (p := ⟨gb223, _, none⟩) NB210_223.out _).trans (((cell_far (p := ⟨gb223, _, none⟩) NB210_223.out _).trans (((cell_far (p := ⟨gb223, _, none⟩) NB210_223.out _).trans (hHeld.2.2.2.2.2.2.1)))))))))))))))), ((cell_far (p := ⟨gb223, _, none⟩) NB210_223.out _).trans (((cell_far (p := ⟨gb223, _, none⟩) NB210_223.out _).trans (((cell_far (p := ⟨gb223, _, none⟩) NB210_223.out _).trans (((cell_far (p := ⟨gb223, _, none⟩) NB210_223.out _).trans (((cell_far (p := ⟨gb223, _, none⟩) NB210_223.out _).trans (((cell_far (p := ⟨gb223, _, none⟩) NB210_223.out _).trans (((cell_far (p := ⟨gb223, _, none⟩) NB210_223.out _).trans (((cell_far (p := ⟨gb223, _, none⟩) NB210_223.out _).trans (hHeld.2.2.2.2.2.2.2.1)))))))))))))))), ((cell_far (p := ⟨gb223, _, none⟩) (by first | exact Kd.own_blk (Kd.R_ne HO_4.out BK223.out (by decide)) | (rw [add_block]; exact Kd.own_blk (Kd.R_ne HO_4.out BK223.out (by decide))) | (show (Addr.add _ _).block ≠ _; rw [add_block]; exact Kd.own_blk (Kd.R_ne HO_4.out BK223.out (by decide))) | (dsimp only; exact Kd.own_blk (Kd.R_ne HO_4.out BK223.out (by decide)))) _).trans (((cell_far (p := ⟨gb223, _, none⟩) (by first | exact Kd.own_blk (Kd.R_ne HO_4.out BK223.out (by decide)) | (rw [add_block]; exact Kd.own_blk (Kd.R_ne HO_4.out BK223.out (by decide))) | (show (Addr.add _ _).block ≠ _; rw [add_block]; exact Kd.own_blk (Kd.R_ne HO_4.out BK223.out (by decide))) | (dsimp only; exact Kd.own_blk (Kd.R_ne HO_4.out BK223.out (by decide)))) _).trans (((cell_far (p := ⟨gb223, _, none⟩) (by first | exact Kd.own_blk (Kd.R_ne HO_4.out BK223.out (by decide)) | (rw [add_block]; exact Kd.own_blk (Kd.R_ne HO_4.out BK223.out (by decide))) | (show (Addr.add _ _).block ≠ _; rw [add_block]; exact Kd.own_blk (Kd.R_ne HO_4.out BK223.out (by decide))) | (dsimp only; exact Kd.own_blk (Kd.R_ne HO_4.out BK223.out (by decide)))) _).trans (((cell_far (p := ⟨gb223, _, none⟩) (by first | exact Kd.own_blk (Kd.R_ne HO_4.out BK223.out (by decide)) | (rw [add_block]; exact Kd.own_blk (Kd.R_ne HO_4.out BK223.out (by decide))) | (show (Addr.add _ _).block ≠ _; rw [add_block]; exact Kd.own_blk (Kd.R_ne HO_4.out BK223.out (by decide))) | (dsimp only; exact Kd.own_blk (Kd.R_ne HO_4.out BK223.out (by decide)))) _).trans (((cell_far (p := ⟨gb223, _, none⟩) (by first | exact Kd.own_blk (Kd.R_ne HO_4.out BK223.out (by decide)) | (rw [add_block]; exact Kd.own_blk (Kd.R_ne HO_4.out BK223.out (by decide))) | (show (Addr.add _ _).block ≠ _; rw [add_block]; exact Kd.own_blk (Kd.R_ne HO_4.out BK223.out (by decide))) | (dsimp only; exact Kd.own_blk (Kd.R_ne HO_4.out BK223.out (by decide)))) _).trans (((cell_far (p := ⟨gb223, _, none⟩) (by first | exact Kd.own_blk (Kd.R_ne HO_4.out BK223.out (by decide)) | (rw [add_block]; exact Kd.own_blk (Kd.R_ne HO_4.out BK223.out (by decide))) | (show (Addr.add _ _).block ≠ _; rw [add_block]; exact Kd.own_blk (Kd.R_ne HO_4.out BK223.out (by decide))) | (dsimp only; exact Kd.own_blk (Kd.R_ne HO_4.out BK223.out (by decide)))) _).trans (((cell_far (p := ⟨gb223, _, none⟩) (by first | exact Kd.own_blk (Kd.R_ne HO_4.out BK223.out (by decide)) | (rw [add_block]; exact Kd.own_blk (Kd.R_ne HO_4.out BK223.out (by decide))) | (show (Addr.add _ _).block ≠ _; rw [add_block]; exact Kd.own_blk (Kd.R_ne HO_4.out BK223.out (by decide))) | (dsimp only; exact Kd.own_blk (Kd.R_ne HO_4.out BK223.out (by decide)))) _).trans (((cell_far (p := ⟨gb223, _, none⟩) (by first | exact Kd.own_blk (Kd.R_ne HO_4.out BK223.out (by decide)) | (rw [add_block]; exact Kd.own_blk (Kd.R_ne HO_4.out BK223.out (by decide))) | (show (Addr.add _ _).block ≠ _; rw [add_block]; exact Kd.own_blk (Kd.R_ne HO_4.out BK223.out (by decide))) | (dsimp only; exact Kd.own_blk (Kd.R_ne HO_4.out BK223.out (by decide)))) _).trans (hHeld.2.2.2.2.2.2.2.2))))))))))))))))⟩ (fun hHeld => ?_)
                            clear hK K
                            refine pure_ (i := 15) (N := some 12) (v := ?_) (a' := ?_) #[true, true, true, true, true, true, true, true, true, true, true, true, true, true, true, true] rfl rfl (any_of HT_.out (by kernel_rfl)) (fun _ _ _ h => h) (Or.inl ⟨by rfl, ?_⟩) ?_ ?_
                            rotate_left
                            · intro w'
                              go_simp
                              with_reducible rfl
                            rotate_left
                            · simp only [Act.put, List.setIfInBounds_toArray, List.set_cons_zero, List.set_cons_succ, i64_w, i32_w]
                              rfl
                            refine done_ (done_of HT_.out (by kernel_rfl)) ?_
                            have hnb40 := NB223_203.out
                            have hnc40 := NB203_223.out
                            have hnb41 := NB223_210.out
                            have hnc41 := NB210_223.out
                            have hcz42_0 : w30.cell? ⟨gb223, 0, none⟩ = some (.int .i64 0) := (blk_cell BK223.out 0).trans rfl
                            have hcz42_1 : w30.cell? ⟨gb223, 1, none⟩ = some (.string (⟨#[]⟩ : ByteArray)) := (blk_cell BK223.out 1).trans rfl
                            have hcz42_2 : w30.cell? ⟨gb223, 2, none⟩ = some (.string (⟨#[]⟩ : ByteArray)) := (blk_cell BK223.out 2).trans rfl
                            have hcz42_3 : w30.cell? ⟨gb223, 3, none⟩ = some (.int .i64 0) := (blk_cell BK223.out 3).trans rfl
                            have hcz42_4 : w30.cell? ⟨gb223, 4, none⟩ = some (.int .i64 0) := (blk_cell BK223.out 4).trans rfl
                            have hcz42_5 : w30.cell? ⟨gb223, 5, none⟩ = some (.int .i64 0) := (blk_cell BK223.out 5).trans rfl
                            have hcz42_6 : w30.cell? ⟨gb223, 6, none⟩ = some (.int .i64 0) := (blk_cell BK223.out 6).trans rfl
                            have hcz42_7 : w30.cell? ⟨gb223, 7, none⟩ = some (.slice none 0 0) := (blk_cell BK223.out 7).trans rfl
                            have hfz42_0 := blk_frozen BK223.out 0
                            have hfz42_1 := blk_frozen BK223.out 1
                            have hfz42_2 := blk_frozen BK223.out 2
                            have hfz42_3 := blk_frozen BK223.out 3
                            have hfz42_4 := blk_frozen BK223.out 4
                            have hfz42_5 := blk_frozen BK223.out 5
                            have hfz42_6 := blk_frozen BK223.out 6
                            have hfz42_7 := blk_frozen BK223.out 7
                            have hnb43 := NB210_203.out
                            have hnc43 := NB203_210.out
                            have hcz44_0 : w30.cell? ⟨gb210, 0, none⟩ = some (.int .i64 x211000_3) := (blk_cell BK210.out 0).trans rfl
                            have hcz44_1 : w30.cell? ⟨gb210, 1, none⟩ = some (.string x211001_3) := (blk_cell BK210.out 1).trans rfl
                            have hcz44_2 : w30.cell? ⟨gb210, 2, none⟩ = some (.string x211002_3) := (blk_cell BK210.out 2).trans rfl
                            have hcz44_3 : w30.cell? ⟨gb210, 3, none⟩ = some (.int .i64 x211003_3) := (blk_cell BK210.out 3).trans rfl
                            have hcz44_4 : w30.cell? ⟨gb210, 4, none⟩ = some (.int .i64 x211004_3) := (blk_cell BK210.out 4).trans rfl
                            have hcz44_5 : w30.cell? ⟨gb210, 5, none⟩ = some (.int .i64 x211005_3) := (blk_cell BK210.out 5).trans rfl
                            have hcz44_6 : w30.cell? ⟨gb210, 6, none⟩ = some (.int .i64 x211006_3) := (blk_cell BK210.out 6).trans rfl
                            have hcz44_7 : w30.cell? ⟨gb210, 7, none⟩ = some (.slice Ao25 x211007_3.length co25) := (blk_cell BK210.out 7).trans rfl
                            have hfz44_0 := blk_frozen BK210.out 0
                            have hfz44_1 := blk_frozen BK210.out 1
                            have hfz44_2 := blk_frozen BK210.out 2
                            have hfz44_3 := blk_frozen BK210.out 3
                            have hfz44_4 := blk_frozen BK210.out 4
                            have hfz44_5 := blk_frozen BK210.out 5
                            have hfz44_6 := blk_frozen BK210.out 6
                            have hfz44_7 := blk_frozen BK210.out 7
                            try go_wp2
                            go_roundg k3
                            case measure => have := HK1.out; have := HJ6.out; have := HK3.out; omega
                            case rel => exact ⟨(t222), (ji20), (t212), (t213), (t214), (t215), (t216), (t217), (t218), (t219), (.slice Ao38 t219.length co38), (by first | rfl | (simp; done) | (simp [*]; done)), (by first | rfl | (simp; done) | (simp only [← hji20] <;> (first | rfl | simp)) | (simp [*]; done)), H', ⟨by have := HK1.out; have := HJ6.out; have := HK3.out; omega⟩, ⟨by (with_reducible repeat (first | apply Kd.R_alloc | apply Kd.R_drewN | apply Kd.R_drew)); exact Kd.R_mono (Kd.R_far (p := ⟨gb210, 7, none⟩) (Kd.R_far (p := ⟨gb210, 6, none⟩) (Kd.R_far (p := ⟨gb210, 5, none⟩) (Kd.R_far (p := ⟨gb210, 4, none⟩) (Kd.R_far (p := ⟨gb210, 3, none⟩) (Kd.R_far (p := ⟨gb210, 2, none⟩) (Kd.R_far (p := ⟨gb210, 1, none⟩) (Kd.R_far (p := ⟨gb210, 0, none⟩) (Kd.R_far (p := ⟨gb223, 7, none⟩) (Kd.R_far (p := ⟨gb223, 6, none⟩) (Kd.R_far (p := ⟨gb223, 5, none⟩) (Kd.R_far (p := ⟨gb223, 4, none⟩) (Kd.R_far (p := ⟨gb223, 3, none⟩) (Kd.R_far (p := ⟨gb223, 2, none⟩) (Kd.R_far (p := ⟨gb223, 1, none⟩) (Kd.R_far (p := ⟨gb223, 0, none⟩) (Kd.R_types (Kd.R_types HO_4.out BK223.out (by decide)) BK210.out (by decide)) (fun _ hk => hk.1.2) (.int .i64 t212)) (fun _ hk => hk.1.2) (.string t213)) (fun _ hk => hk.1.2) (.string t214)) (fun _ hk => hk.1.2) (.int .i64 t215)) (fun _ hk => hk.1.2) (.int .i64 t216)) (fun _ hk => hk.1.2) (.int .i64 t217)) (fun _ hk => hk.1.2) (.int .i64 t218)) (fun _ hk => hk.1.2) (.slice Ao38 t219.length co38)) (fun _ hk => hk.2) (.int .i64 t212)) (fun _ hk => hk.2) (.string t213)) (fun _ hk => hk.2) (.string t214)) (fun _ hk => hk.2) (.int .i64 t215)) (fun _ hk => hk.2) (.int .i64 t216)) (fun _ hk => hk.2) (.int .i64 t217)) (fun _ hk => hk.2) (.int .i64 t218)) (fun _ hk => hk.2) (.slice Ao38 t219.length co38)) (fun _ hk => trivial)⟩, ⟨by (with_reducible repeat (first | apply Kd.R_alloc | apply Kd.R_drewN | apply Kd.R_drew)); exact Kd.R_mono (Kd.R_far (p := ⟨gb210, 7, none⟩) (Kd.R_far (p := ⟨gb210, 6, none⟩) (Kd.R_far (p := ⟨gb210, 5, none⟩) (Kd.R_far (p := ⟨gb210, 4, none⟩) (Kd.R_far (p := ⟨gb210, 3, none⟩) (Kd.R_far (p := ⟨gb210, 2, none⟩) (Kd.R_far (p := ⟨gb210, 1, none⟩) (Kd.R_far (p := ⟨gb210, 0, none⟩) (Kd.R_far (p := ⟨gb223, 7, none⟩) (Kd.R_far (p := ⟨gb223, 6, none⟩) (Kd.R_far (p := ⟨gb223, 5, none⟩) (Kd.R_far (p := ⟨gb223, 4, none⟩) (Kd.R_far (p := ⟨gb223, 3, none⟩) (Kd.R_far (p := ⟨gb223, 2, none⟩) (Kd.R_far (p := ⟨gb223, 1, none⟩) (Kd.R_far (p := ⟨gb223, 0, none⟩) (Kd.R_types (Kd.R_types HO221.out BK223.out (by decide)) BK210.out (by decide)) (fun _ hk => hk.1.2) (.int .i64 t212)) (fun _ hk => hk.1.2) (.string t213)) (fun _ hk => hk.1.2) (.string t214)) (fun _ hk => hk.1.2) (.int .i64 t215)) (fun _ hk => hk.1.2) (.int .i64 t216)) (fun _ hk => hk.1.2) (.int .i64 t217)) (fun _ hk => hk.1.2) (.int .i64 t218)) (fun _ hk => hk.1.2) (.slice Ao38 t219.length co38)) (fun _ hk => hk.2) (.int .i64 t212)) (fun _ hk => hk.2) (.string t213)) (fun _ hk => hk.2) (.string t214)) (fun _ hk => hk.2) (.int .i64 t215)) (fun _ hk => hk.2) (.int .i64 t216)) (fun _ hk => hk.2) (.int .i64 t217)) (fun _ hk => hk.2) (.int .i64 t218)) (fun _ hk => hk.2) (.slice Ao38 t219.length co38)) (fun _ hk => trivial)⟩, ⟨by (with_reducible repeat (first | refine blk_drewN ?_ _ | refine blk_drew ?_ | refine blk_alloc ?_ _)); refine blk_far ?_ NB203_210.out _; (with_reducible repeat (first | refine blk_drewN ?_ _ | refine blk_drew ?_ | refine blk_alloc ?_ _)); refine blk_far ?_ NB203_210.out _; (with_reducible repeat (first | refine blk_drewN ?_ _ | refine blk_drew ?_ | refine blk_alloc ?_ _)); refine blk_far ?_ NB203_210.out _; (with_reducible repeat (first | refine blk_drewN ?_ _ | refine blk_drew ?_ | refine blk_alloc ?_ _)); refine blk_far ?_ NB203_210.out _; (with_reducible repeat (first | refine blk_drewN ?_ _ | refine blk_drew ?_ | refine blk_alloc ?_ _)); refine blk_far ?_ NB203_210.out _; (with_reducible repeat (first | refine blk_drewN ?_ _ | refine blk_drew ?_ | refine blk_alloc ?_ _)); refine blk_far ?_ NB203_210.out _; (with_reducible repeat (first | refine blk_drewN ?_ _ | refine blk_drew ?_ | refine blk_alloc ?_ _)); refine blk_far ?_ NB203_210.out _; (with_reducible repeat (first | refine blk_drewN ?_ _ | refine blk_drew ?_ | refine blk_alloc ?_ _)); refine blk_far ?_ NB203_210.out _; (with_reducible repeat (first | refine blk_drewN ?_ _ | refine blk_drew ?_ | refine blk_alloc ?_ _)); refine blk_far ?_ NB203_223.out _; (with_reducible repeat (first | refine blk_drewN ?_ _ | refine blk_drew ?_ | refine blk_alloc ?_ _)); refine blk_far ?_ NB203_223.out _; (with_reducible repeat (first | refine blk_drewN ?_ _ | refine blk_drew ?_ | refine blk_alloc ?_ _)); refine blk_far ?_ NB203_223.out _; (with_reducible repeat (first | refine blk_drewN ?_ _ | refine blk_drew ?_ | refine blk_alloc ?_ _)); refine blk_far ?_ NB203_223.out _; (with_reducible repeat (first | refine blk_drewN ?_ _ | refine blk_drew ?_ | refine blk_alloc ?_ _)); refine blk_far ?_ NB203_223.out _; (with_reducible repeat (first | refine blk_drewN ?_ _ | refine blk_drew ?_ | refine blk_alloc ?_ _)); refine blk_far ?_ NB203_223.out _; (with_reducible repeat (first | refine blk_drewN ?_ _ | refine blk_drew ?_ | refine blk_alloc ?_ _)); refine blk_far ?_ NB203_223.out _; (with_reducible repeat (first | refine blk_drewN ?_ _ | refine blk_drew ?_ | refine blk_alloc ?_ _)); refine blk_far ?_ NB203_223.out _; (with_reducible repeat (first | refine blk_drewN ?_ _ | refine blk_drew ?_ | refine blk_alloc ?_ _)); exact BK203.out⟩, ⟨by (with_reducible repeat (first | refine blk_drewN ?_ _ | refine blk_drew ?_ | refine blk_alloc ?_ _)); refine blk_put (cs := #[.int .i64 t212, .string t213, .string t214, .int .i64 t215, .int .i64 t216, .int .i64 t217, .int .i64 t218, .slice Ao25 x211007_3.length co25]) ?_ 7 _ rfl; (with_reducible repeat (first | refine blk_drewN ?_ _ | refine blk_drew ?_ | refine blk_alloc ?_ _)); refine blk_put (cs := #[.int .i64 t212, .string t213, .string t214, .int .i64 t215, .int .i64 t216, .int .i64 t217, .int .i64 x211006_3, .slice Ao25 x211007_3.length co25]) ?_ 6 _ rfl; (with_reducible repeat (first | refine blk_drewN ?_ _ | refine blk_drew ?_ | refine blk_alloc ?_ _)); refine blk_put (cs := #[.int .i64 t212, .string t213, .string t214, .int .i64 t215, .int .i64 t216, .int .i64 x211005_3, .int .i64 x211006_3, .slice Ao25 x211007_3.length co25]) ?_ 5 _ rfl; (with_reducible repeat (first | refine blk_drewN ?_ _ | refine blk_drew ?_ | refine blk_alloc ?_ _)); refine blk_put (cs := #[.int .i64 t212, .string t213, .string t214, .int .i64 t215, .int .i64 x211004_3, .int .i64 x211005_3, .int .i64 x211006_3, .slice Ao25 x211007_3.length co25]) ?_ 4 _ rfl; (with_reducible repeat (first | refine blk_drewN ?_ _ | refine blk_drew ?_ | refine blk_alloc ?_ _)); refine blk_put (cs := #[.int .i64 t212, .string t213, .string t214, .int .i64 x211003_3, .int .i64 x211004_3, .int .i64 x211005_3, .int .i64 x211006_3, .slice Ao25 x211007_3.length co25]) ?_ 3 _ rfl; (with_reducible repeat (first | refine blk_drewN ?_ _ | refine blk_drew ?_ | refine blk_alloc ?_ _)); refine blk_put (cs := #[.int .i64 t212, .string t213, .string x211002_3, .int .i64 x211003_3, .int .i64 x211004_3, .int .i64 x211005_3, .int .i64 x211006_3, .slice Ao25 x211007_3.length co25]) ?_ 2 _ rfl; (with_reducible repeat (first | refine blk_drewN ?_ _ | refine blk_drew ?_ | refine blk_alloc ?_ _)); refine blk_put (cs := #[.int .i64 t212, .string x211001_3, .string x211002_3, .int .i64 x211003_3, .int .i64 x211004_3, .int .i64 x211005_3, .int .i64 x211006_3, .slice Ao25 x211007_3.length co25]) ?_ 1 _ rfl; (with_reducible repeat (first | refine blk_drewN ?_ _ | refine blk_drew ?_ | refine blk_alloc ?_ _)); refine blk_put (cs := #[.int .i64 x211000_3, .string x211001_3, .string x211002_3, .int .i64 x211003_3, .int .i64 x211004_3, .int .i64 x211005_3, .int .i64 x211006_3, .slice Ao25 x211007_3.length co25]) ?_ 0 _ rfl; (with_reducible repeat (first | refine blk_drewN ?_ _ | refine blk_drew ?_ | refine blk_alloc ?_ _)); refine blk_far ?_ NB210_223.out _; (with_reducible repeat (first | refine blk_drewN ?_ _ | refine blk_drew ?_ | refine blk_alloc ?_ _)); refine blk_far ?_ NB210_223.out _; (with_reducible repeat (first | refine blk_drewN ?_ _ | refine blk_drew ?_ | refine blk_alloc ?_ _)); refine blk_far ?_ NB210_223.out _; (with_reducible repeat (first | refine blk_drewN ?_ _ | refine blk_drew ?_ | refine blk_alloc ?_ _)); refine blk_far ?_ NB210_223.out _; (with_reducible repeat (first | refine blk_drewN ?_ _ | refine blk_drew ?_ | refine blk_alloc ?_ _)); refine blk_far ?_ NB210_223.out _; (with_reducible repeat (first | refine blk_drewN ?_ _ | refine blk_drew ?_ | refine blk_alloc ?_ _)); refine blk_far ?_ NB210_223.out _; (with_reducible repeat (first | refine blk_drewN ?_ _ | refine blk_drew ?_ | refine blk_alloc ?_ _)); refine blk_far ?_ NB210_223.out _; (with_reducible repeat (first | refine blk_drewN ?_ _ | refine blk_drew ?_ | refine blk_alloc ?_ _)); refine blk_far ?_ NB210_223.out _; (with_reducible repeat (first | refine blk_drewN ?_ _ | refine blk_drew ?_ | refine blk_alloc ?_ _)); exact BK210.out⟩, ⟨by repeat (first | (with_reducible first | exact HB.out | apply below_alloc | apply pw_below_drewN | apply below_drew1 | refine below_set ?_ GE203.out | refine below_set ?_ GE210.out | refine below_set ?_ GE223.out) | exact HB.out)⟩⟩
                          · replace c24 := Bool.eq_false_iff.mpr c24
                            subst c24
                            have H1 : (oublietteref39_Parse.l1 k3 t204 x5_1 t208 false ji20 t212 t213 t214 t215 t216 t217 t218 t219) = some (r1, r2, r3, r4, r5, r6, r7, r8, r9) := by rw [if_neg (show ¬ (false = true) by decide)] at H; exact H
                            clear H
                            have H := H1
                            clear H1
                            have H' := Aside0.mk H
                            clear H
                            obtain ⟨Ao45, co45, eo45⟩ := Kd.R_slice HO_211007.out
                            subst eo45
                            try go_wp2
                            have n0_ := Aside0.mk (Kd.R_drew HO_4.out)
                            have n1_ := Aside0.mk (Kd.R_drew HO_211007.out)
                            have n2_ := Aside0.mk (blk_drew BK203.out)
                            have n3_ := Aside0.mk (blk_drew BK210.out)
                            have n4_ := Aside0.mk (below_drew1 HB.out)
                            clear HO_4
                            clear HO_211007
                            clear BK203
                            clear BK210
                            clear HB
                            have HO_4 := n0_
                            have HO_211007 := n1_
                            have BK203 := n2_
                            have BK210 := n3_
                            have HB := n4_
                            clear n0_ n1_ n2_ n3_ n4_
                            have p19 : 0 ≤ (x10_3 : Int) := of_decide_eq_true (by first | (with_reducible assumption) | assumption)
                            have q19 : x10_3 < (t208.size : Int) := of_decide_eq_true (by first | (with_reducible assumption) | assumption)
                            have hx19 := bt_at t208 x10_3
                            replace p19 := eq_true p19
                            replace q19 := eq_true q19
                            obtain ⟨Ao47, co47, eo47⟩ := Kd.R_slice HO_4.out
                            (first | subst eo47 | (injection eo47 with f1_ f2_ f3_; have f4_ := f1_.symm; have f5_ := f3_.symm; clear f1_ f2_ f3_; subst f4_; subst f5_))
                            have p211 : 0 ≤ ((ji20) : Int) := of_decide_eq_true (by first | (with_reducible assumption) | assumption)
                            have q211 : (ji20) < (t204.length : Int) := of_decide_eq_true (by first | (with_reducible assumption) | assumption)
                            obtain ⟨ad211, e211, hx211_0⟩ := Kd.at_string (Kd.R_reads' HO_4.out).2.2 (ji20) p211 q211
                            cases e211
                            replace p211 := eq_true p211
                            replace q211 := eq_true q211
                            refine start_ (n := 16) (S := fun w' => w'.cell? ⟨gb210, 0, none⟩ = some (.int .i64 x211000_3) ∧ w'.cell? ⟨gb210, 1, none⟩ = some (.string x211001_3) ∧ w'.cell? ⟨gb210, 2, none⟩ = some (.string x211002_3) ∧ w'.cell? ⟨gb210, 3, none⟩ = some (.int .i64 x211003_3) ∧ w'.cell? ⟨gb210, 4, none⟩ = some (.int .i64 x211004_3) ∧ w'.cell? ⟨gb210, 5, none⟩ = some (.int .i64 x211005_3) ∧ w'.cell? ⟨gb210, 6, none⟩ = some (.int .i64 x211006_3) ∧ w'.cell? ⟨gb210, 7, none⟩ = some (.slice Ao45 x211007_3.length co45) ∧ w'.cell? (ad211.add ((ji20)).toNat) = some (.string (rdOf ByteArray.empty t204 (ji20)))) (ds := []) #[false, false, false, false, false, false, false, false, false, false, false, false, false, false, false, false] (by kernel_rfl) rfl rfl ⟨(blk_cell BK210.out 0).trans rfl, (blk_cell BK210.out 1).trans rfl, (blk_cell BK210.out 2).trans rfl, (blk_cell BK210.out 3).trans rfl, (blk_cell BK210.out 4).trans rfl, (blk_cell BK210.out 5).trans rfl, (blk_cell BK210.out 6).trans rfl, (blk_cell BK210.out 7).trans rfl, hx211_0⟩ (fun hHeld => ?_); refine with_tabW oublietteref39_Parse.tab12 oublietteref39_Parse.bits12 (fun HT_ HW_ => ?_)
                            generalize wr.drew = w46 at HO_4 HO_211007 BK203 BK210 HB hx211_0 hHeld ⊢
                            refine pure_ (i := 1) (N := some 47) (v := ?_) (a' := ?_) #[false, true, false, false, false, false, false, false, false, false, false, false, false, false, false, false] rfl rfl (any_of HT_.out (by kernel_rfl)) (fun _ _ _ h => h) (Or.inl ⟨by rfl, ?_⟩) ?_ ?_
                            rotate_left
                            · intro w'
                              go_simp
                              with_reducible rfl
                            rotate_left
                            · simp only [Act.put, List.setIfInBounds_toArray, List.set_cons_zero, List.set_cons_succ, i64_w, i32_w]
                              rfl
                            refine pure_ (i := 2) (N := some 48) (v := ?_) (a' := ?_) #[false, true, true, false, false, false, false, false, false, false, false, false, false, false, false, false] rfl rfl (any_of HT_.out (by kernel_rfl)) (fun _ _ _ h => h) (Or.inl ⟨by rfl, ?_⟩) ?_ ?_
                            rotate_left
                            · intro w'
                              go_simp
                              with_reducible rfl
                            rotate_left
                            · simp only [Act.put, List.setIfInBounds_toArray, List.set_cons_zero, List.set_cons_succ, i64_w, i32_w]
                              rfl
                            refine pure_ (i := 4) (N := some 50) (v := ?_) (a' := ?_) #[false, true, true, false, true, false, false, false, false, false, false, false, false, false, false, false] rfl rfl (any_of HT_.out (by kernel_rfl)) (fun _ _ _ h => h) (Or.inl ⟨by rfl, ?_⟩) ?_ ?_
                            rotate_left
                            · intro w'
                              go_simp
                              with_reducible rfl
                            rotate_left
                            · simp only [Act.put, List.setIfInBounds_toArray, List.set_cons_zero, List.set_cons_succ, i64_w, i32_w]
                              rfl
                            refine pure_ (i := 5) (N := some 51) (v := ?_) (a' := ?_) #[false, true, true, false, true, true, false, false, false, false, false, false, false, false, false, false] rfl rfl (any_of HT_.out (by kernel_rfl)) (fun _ _ _ h => h) (Or.inl ⟨by rfl, ?_⟩) ?_ ?_
                            rotate_left
                            · intro w'
                              go_simp
                              with_reducible rfl
                            rotate_left
                            · simp only [Act.put, List.setIfInBounds_toArray, List.set_cons_zero, List.set_cons_succ, i64_w, i32_w]
                              rfl
                            refine pure_ (i := 6) (N := some 52) (v := ?_) (a' := ?_) #[false, true, true, false, true, true, true, false, false, false, false, false, false, false, false, false] rfl rfl (any_of HT_.out (by kernel_rfl)) (fun _ _ _ h => h) (Or.inl ⟨by rfl, ?_⟩) ?_ ?_
                            rotate_left
                            · intro w'
                              go_simp
                              with_reducible rfl
                            rotate_left
                            · simp only [Act.put, List.setIfInBounds_toArray, List.set_cons_zero, List.set_cons_succ, i64_w, i32_w]
                              rfl
                            refine pure_ (i := 7) (N := some 53) (v := ?_) (a' := ?_) #[false, true, true, false, true, true, true, true, false, false, false, false, false, false, false, false] rfl rfl (any_of HT_.out (by kernel_rfl)) (fun _ _ _ h => h) (Or.inl ⟨by rfl, ?_⟩) ?_ ?_
                            rotate_left
                            · intro w'
                              go_simp
                              with_reducible rfl
                            rotate_left
                            · simp only [Act.put, List.setIfInBounds_toArray, List.set_cons_zero, List.set_cons_succ, i64_w, i32_w]
                              rfl
                            refine take_ (i := 0) (N := some 46) (v := ?_) (a' := ?_) #[true, true, true, false, true, true, true, true, false, false, false, false, false, false, false, false] rfl rfl (take_ofW HT_.out HW_.out (by kernel_rfl)) (fun _ _ _ h => h) (Or.inl ⟨by rfl, ?_⟩) hHeld ?_ ?_
                            rotate_left
                            · rintro w' ⟨s0, s1, s2, s3, s4, s5, s6, s7, s8⟩
                              go_simp
                              with_reducible rfl
                            rotate_left
                            · simp only [Act.put, List.setIfInBounds_toArray, List.set_cons_zero, List.set_cons_succ, i64_w, i32_w]
                              rfl
                            refine take_ (i := 3) (N := some 49) (v := ?_) (a' := ?_) #[true, true, true, true, true, true, true, true, false, false, false, false, false, false, false, false] rfl rfl (take_ofW HT_.out HW_.out (by kernel_rfl)) (fun _ _ _ h => h) (Or.inl ⟨by rfl, ?_⟩) hHeld ?_ ?_
                            rotate_left
                            · rintro w' ⟨s0, s1, s2, s3, s4, s5, s6, s7, s8⟩
                              go_simp
                              with_reducible rfl
                            rotate_left
                            · simp only [Act.put, List.setIfInBounds_toArray, List.set_cons_zero, List.set_cons_succ, i64_w, i32_w]
                              rfl
                            refine take_ (i := 8) (N := some 54) (v := ?_) (a' := ?_) #[true, true, true, true, true, true, true, true, true, false, false, false, false, false, false, false] rfl rfl (take_ofW HT_.out HW_.out (by kernel_rfl)) (fun _ _ _ h => h) (Or.inl ⟨by rfl, ?_⟩) hHeld ?_ ?_
                            rotate_left
                            · rintro w' ⟨s0, s1, s2, s3, s4, s5, s6, s7, s8⟩
                              go_simp
                              with_reducible rfl
                            rotate_left
                            · simp only [Act.put, List.setIfInBounds_toArray, List.set_cons_zero, List.set_cons_succ, i64_w, i32_w]
                              rfl
                            refine join_ (σ := Value × Nat) 2 #[true, true, true, true, true, true, true, true, true, true, true, true, true, true, false, false] (fun s_ => [(55, .tuple #[.agg #[.int .i64 t212, .string t213, .string t214, .int .i64 t215, .int .i64 t216, .int .i64 t217, .int .i64 t218, s_.1], .bool t222]), (11, .pointer (some ⟨s_.2, 0, none⟩)), (45, .tuple #[.agg #[.int .i64 t212, .string t213, .string t214, .int .i64 t215, .int .i64 t216, .int .i64 t217, .int .i64 t218, s_.1], .bool t222]), (56, .agg #[.int .i64 t212, .string t213, .string t214, .int .i64 t215, .int .i64 t216, .int .i64 t217, .int .i64 t218, s_.1]), (57, .bool t222)]) (fun s_ w' => (w'.cell? ⟨gb210, 0, none⟩ = some (.int .i64 x211000_3) ∧ w'.cell? ⟨gb210, 1, none⟩ = some (.string x211001_3) ∧ w'.cell? ⟨gb210, 2, none⟩ = some (.string x211002_3) ∧ w'.cell? ⟨gb210, 3, none⟩ = some (.int .i64 x211003_3) ∧ w'.cell? ⟨gb210, 4, none⟩ = some (.int .i64 x211004_3) ∧ w'.cell? ⟨gb210, 5, none⟩ = some (.int .i64 x211005_3) ∧ w'.cell? ⟨gb210, 6, none⟩ = some (.int .i64 x211006_3) ∧ w'.cell? ⟨gb210, 7, none⟩ = some (.slice Ao45 x211007_3.length co45) ∧ w'.cell? (ad211.add ((ji20)).toNat) = some (.string (rdOf ByteArray.empty t204 (ji20)))) ∧ (Kd.R (Kd.int .u8) 5 w' w.heap.size (fun _ => True) s_.1 t219) ∧ (Kd.R Kd.string 9 w' w.heap.size (fun _ => True) (.slice (some ad211) t204.length co47) t204) ∧ (w'.heap[gb203]? = some (.cells #[.int .i64 x204000_1, .string x204001_1, .string x204002_1, .int .i64 x204003_1, .int .i64 x204004_1, .int .i64 x204005_1, .int .i64 x204006_1, .slice none 0 0] 28 (0, 0))) ∧ (w'.heap[gb210]? = some (.cells #[.int .i64 x211000_3, .string x211001_3, .string x211002_3, .int .i64 x211003_3, .int .i64 x211004_3, .int .i64 x211005_3, .int .i64 x211006_3, .slice Ao45 x211007_3.length co45] 28 (0, 0))) ∧ (w'.heap[s_.2]? = some (.cells #[.int .i64 0, .string (⟨#[]⟩ : ByteArray), .string (⟨#[]⟩ : ByteArray), .int .i64 0, .int .i64 0, .int .i64 0, .int .i64 0, .slice none 0 0] 28 (0, 0))) ∧ (w.heap.size ≤ s_.2) ∧ (w.heap.size ≤ s_.2) ∧ (gb203 ≠ s_.2) ∧ (s_.2 ≠ gb203) ∧ (gb210 ≠ s_.2) ∧ (s_.2 ≠ gb210) ∧ (Below w.heap.size w w')) ?_ ?_
                            rotate_left
                            · intro hCont
                              refine two_ (i := 9) (j := 13) (Ni := some 55) (Nj := some 11) #[true, true, true, true, true, true, true, true, true, true, false, false, false, false, false, false] #[true, true, true, true, true, true, true, true, true, false, false, false, false, true, false, false] rfl rfl rfl rfl (two_of HT_.out (by kernel_rfl)) (by decide) (by decide) (fun K hK => ?_) (fun K hK => ?_)
                              · skip
                                refine goes_ Tryd.func44 (by kernel_rfl) rfl #[.agg #[.int .i64 x211000_3, .string x211001_3, .string x211002_3, .int .i64 x211003_3, .int .i64 x211004_3, .int .i64 x211005_3, .int .i64 x211006_3, .slice Ao45 x211007_3.length co45], .int .u8 (bt t208 x10_3), .string (rdOf ByteArray.empty t204 (ji20))] (by rfl) rfl rfl (by (try simp only [List.map_toArray, List.map_cons, List.map_nil]); first | done | (simp only [hji20]; rfl) | rfl | (simp only [List.length_drop, List.length_take]; rfl)) ?_
                                with_reducible refine (oublietteref39_with.calls x211000_3 x211001_3 x211002_3 x211003_3 x211004_3 x211005_3 x211006_3 (fun k_ => some k_ = (.slice Ao45 x211007_3.length co45 : Value).ownBlock) (.slice Ao45 x211007_3.length co45) x211007_3 (bt t208 x10_3) (rdOf ByteArray.empty t204 (ji20)) t212 t213 t214 t215 t216 t217 t218 t219 t222 w _ ?side1 ?side2 A23.out).mono ?_
                                (case side1 => repeat (first | (with_reducible first | exact HB.out | apply below_alloc | apply pw_below_drewN | apply below_drew1 | refine below_set ?_ GE203.out | refine below_set ?_ GE210.out) | exact HB.out))
                                (case side2 => exact Kd.R_tight rfl HO_211007.out)
                                rintro e w48 ⟨v220, rfl, ho0, hb, hkp⟩
                                have HS8_ := cell_kept (hHeld.2.2.2.2.2.2.2.2) hkp (by first | (rw [add_block]; exact (fun hs_ => ((((Kd.R_apart' HO_4.out (Kd.R_typed HO_211007.out) (by decide))).1 _ rfl).2) hs_)) | (show ¬ _; simp only [add_block]; exact (fun hs_ => ((((Kd.R_apart' HO_4.out (Kd.R_typed HO_211007.out) (by decide))).1 _ rfl).2) hs_)) | exact (fun hs_ => ((((Kd.R_apart' HO_4.out (Kd.R_typed HO_211007.out) (by decide))).1 _ rfl).2) hs_))
                                refine ⟨_, rfl, ?_⟩
                                have n0_ := Aside0.mk (Kd.R_mono (ok' := fun k_ => True) (Kd.R_keptB ((Kd.R_apart' HO_4.out (Kd.R_typed HO_211007.out) (by decide))) hkp (fun k_ hk_ hs_ => (hk_.2) hs_)) (fun k_ hk_ => trivial))
                                have n1_ := Aside0.mk (blk_kept (by (with_reducible repeat (first | refine blk_drewN ?_ _ | refine blk_drew ?_ | refine blk_alloc ?_ _)); exact BK203.out) hkp (fun hs_ => (fun e_ => (Kd.R_ne HO_211007.out BK203.out (by decide)) e_) hs_))
                                have n2_ := Aside0.mk (blk_kept (by (with_reducible repeat (first | refine blk_drewN ?_ _ | refine blk_drew ?_ | refine blk_alloc ?_ _)); exact BK210.out) hkp (fun hs_ => (fun e_ => (Kd.R_ne HO_211007.out BK210.out (by decide)) e_) hs_))
                                have n3_ := Aside0.mk (Kd.R_mono (ok' := fun k_ => True) ho0 (fun k_ hk_ => trivial))
                                have n4_ := Aside0.mk (hb)
                                clear HO_4
                                clear BK203
                                clear BK210
                                clear HB
                                clear HO_211007
                                have HO_4 := n0_
                                have BK203 := n1_
                                have BK210 := n2_
                                have HO221 := n3_
                                have HB := n4_
                                clear n0_ n1_ n2_ n3_ n4_
                                (try clear hb)
                                (try clear hkp)
                                (try clear ho0)
                                refine hK.out _ _ ⟨(blk_cell BK210.out 0).trans rfl, (blk_cell BK210.out 1).trans rfl, (blk_cell BK210.out 2).trans rfl, (blk_cell BK210.out 3).trans rfl, (blk_cell BK210.out 4).trans rfl, (blk_cell BK210.out 5).trans rfl, (blk_cell BK210.out 6).trans rfl, (blk_cell BK210.out 7).trans rfl, HS8_⟩ (fun hHeld => ?_)
                                clear hK K
                                refine norm_ (a' := ?_) ?_ ?_
                                rotate_left
                                · show Act.put _ (some 55) _ = _
                                  simp only [Act.put, List.setIfInBounds_toArray, List.set_cons_zero, List.set_cons_succ, i64_w, i32_w]
                                  rfl
                                refine pure_ (i := 10) (N := some 45) (v := ?_) (a' := ?_) #[true, true, true, true, true, true, true, true, true, true, true, false, false, false, false, false] rfl rfl (any_of HT_.out (by kernel_rfl)) (fun _ _ _ h => h) (Or.inl ⟨by rfl, ?_⟩) ?_ ?_
                                rotate_left
                                · intro w'
                                  go_simp
                                  with_reducible rfl
                                rotate_left
                                · simp only [Act.put, List.setIfInBounds_toArray, List.set_cons_zero, List.set_cons_succ, i64_w, i32_w]
                                  rfl
                                refine pure_ (i := 11) (N := some 56) (v := ?_) (a' := ?_) #[true, true, true, true, true, true, true, true, true, true, true, true, false, false, false, false] rfl rfl (any_of HT_.out (by kernel_rfl)) (fun _ _ _ h => h) (Or.inl ⟨by rfl, ?_⟩) ?_ ?_
                                rotate_left
                                · intro w'
                                  go_simp
                                  with_reducible rfl
                                rotate_left
                                · simp only [Act.put, List.setIfInBounds_toArray, List.set_cons_zero, List.set_cons_succ, i64_w, i32_w]
                                  rfl
                                refine pure_ (i := 12) (N := some 57) (v := ?_) (a' := ?_) #[true, true, true, true, true, true, true, true, true, true, true, true, true, false, false, false] rfl rfl (any_of HT_.out (by kernel_rfl)) (fun _ _ _ h => h) (Or.inl ⟨by rfl, ?_⟩) ?_ ?_
                                rotate_left
                                · intro w'
                                  go_simp
                                  with_reducible rfl
                                rotate_left
                                · simp only [Act.put, List.setIfInBounds_toArray, List.set_cons_zero, List.set_cons_succ, i64_w, i32_w]
                                  rfl
                                refine one_ (i := 13) (N := some 11) #[true, true, true, true, true, true, true, true, true, true, true, true, true, true, false, false] rfl rfl (one_of HT_.out (by kernel_rfl)) (by decide) (fun K hK => ?_)
                                refine box_step ?hg (N := 11) ?hd (cs := #[.int .i64 0, .string (⟨#[]⟩ : ByteArray), .string (⟨#[]⟩ : ByteArray), .int .i64 0, .int .i64 0, .int .i64 0, .int .i64 0, .slice none 0 0]) (t := 28) ?hr ?_; (case hd => rfl); (case hg => rfl); (case hr => first | (go_simp; done) | (go_simp; rfl))
                                intro gb223 hg w49 hbox hb
                                have HS8_ := (hb.cell (World.block_lt_of_cell? _ _ (hHeld.2.2.2.2.2.2.2.2))).trans (hHeld.2.2.2.2.2.2.2.2)
                                have n0_ := Aside0.mk (Kd.R_below (by (with_reducible repeat (first | apply Kd.R_alloc | apply Kd.R_drewN | apply Kd.R_drew)); exact HO_4.out) hb)
                                have n1_ := Aside0.mk (Kd.R_below (by (with_reducible repeat (first | apply Kd.R_alloc | apply Kd.R_drewN | apply Kd.R_drew)); exact HO221.out) hb)
                                have n2_ := Aside0.mk (blk_below (g := gb203) (o := .cells #[.int .i64 x204000_1, .string x204001_1, .string x204002_1, .int .i64 x204003_1, .int .i64 x204004_1, .int .i64 x204005_1, .int .i64 x204006_1, .slice none 0 0] 28 (0, 0)) (by (with_reducible repeat (first | refine blk_drewN ?_ _ | refine blk_drew ?_ | refine blk_alloc ?_ _)); exact BK203.out) hb)
                                have n3_ := Aside0.mk (blk_below (g := gb210) (o := .cells #[.int .i64 x211000_3, .string x211001_3, .string x211002_3, .int .i64 x211003_3, .int .i64 x211004_3, .int .i64 x211005_3, .int .i64 x211006_3, .slice Ao45 x211007_3.length co45] 28 (0, 0)) (by (with_reducible repeat (first | refine blk_drewN ?_ _ | refine blk_drew ?_ | refine blk_alloc ?_ _)); exact BK210.out) hb)
                                have n4_ := Aside0.mk (below_step (by repeat (first | (with_reducible first | exact HB.out | apply below_alloc | apply pw_below_drewN | apply below_drew1 | refine below_set ?_ GE203.out | refine below_set ?_ GE210.out) | exact HB.out)) hb)
                                have n5_ := Aside0.mk (hbox)
                                have n6_ := Aside0.mk ((by rw [hg]; exact (below_size (by repeat (first | (with_reducible first | exact HB.out | apply below_alloc | apply pw_below_drewN | apply below_drew1 | refine below_set ?_ GE203.out | refine below_set ?_ GE210.out) | exact HB.out))) : w.heap.size ≤ gb223))
                                have n7_ := Aside0.mk ((by rw [hg]; exact (below_size (by repeat (first | (with_reducible first | exact HB.out | apply below_alloc | apply pw_below_drewN | apply below_drew1 | refine below_set ?_ GE203.out | refine below_set ?_ GE210.out) | exact HB.out))) : w.heap.size ≤ gb223))
                                have n8_ := Aside0.mk ((by rw [hg]; exact Nat.ne_of_lt (blk_lt (g := gb203) (o := .cells #[.int .i64 x204000_1, .string x204001_1, .string x204002_1, .int .i64 x204003_1, .int .i64 x204004_1, .int .i64 x204005_1, .int .i64 x204006_1, .slice none 0 0] 28 (0, 0)) (by (with_reducible repeat (first | refine blk_drewN ?_ _ | refine blk_drew ?_ | refine blk_alloc ?_ _)); exact BK203.out)) : gb203 ≠ gb223))
                                have n9_ := Aside0.mk ((by rw [hg]; exact Nat.ne_of_gt (blk_lt (g := gb203) (o := .cells #[.int .i64 x204000_1, .string x204001_1, .string x204002_1, .int .i64 x204003_1, .int .i64 x204004_1, .int .i64 x204005_1, .int .i64 x204006_1, .slice none 0 0] 28 (0, 0)) (by (with_reducible repeat (first | refine blk_drewN ?_ _ | refine blk_drew ?_ | refine blk_alloc ?_ _)); exact BK203.out)) : gb223 ≠ gb203))
                                have n10_ := Aside0.mk ((by rw [hg]; exact Nat.ne_of_lt (blk_lt (g := gb210) (o := .cells #[.int .i64 x211000_3, .string x211001_3, .string x211002_3, .int .i64 x211003_3, .int .i64 x211004_3, .int .i64 x211005_3, .int .i64 x211006_3, .slice Ao45 x211007_3.length co45] 28 (0, 0)) (by (with_reducible repeat (first | refine blk_drewN ?_ _ | refine blk_drew ?_ | refine blk_alloc ?_ _)); exact BK210.out)) : gb210 ≠ gb223))
                                have n11_ := Aside0.mk ((by rw [hg]; exact Nat.ne_of_gt (blk_lt (g := gb210) (o := .cells #[.int .i64 x211000_3, .string x211001_3, .string x211002_3, .int .i64 x211003_3, .int .i64 x211004_3, .int .i64 x211005_3, .int .i64 x211006_3, .slice Ao45 x211007_3.length co45] 28 (0, 0)) (by (with_reducible repeat (first | refine blk_drewN ?_ _ | refine blk_drew ?_ | refine blk_alloc ?_ _)); exact BK210.out)) : gb223 ≠ gb210))
                                clear HO_4
                                clear HO221
                                clear BK203
                                clear BK210
                                clear HB
                                have HO_4 := n0_
                                have HO221 := n1_
                                have BK203 := n2_
                                have BK210 := n3_
                                have HB := n4_
                                have BK223 := n5_
                                have GW223 := n6_
                                have GE223 := n7_
                                have NB203_223 := n8_
                                have NB223_203 := n9_
                                have NB210_223 := n10_
                                have NB223_210 := n11_
                                clear n0_ n1_ n2_ n3_ n4_ n5_ n6_ n7_ n8_ n9_ n10_ n11_
                                clear hb hbox hg
                                refine hK.out _ _ ⟨(blk_cell BK210.out 0).trans rfl, (blk_cell BK210.out 1).trans rfl, (blk_cell BK210.out 2).trans rfl, (blk_cell BK210.out 3).trans rfl, (blk_cell BK210.out 4).trans rfl, (blk_cell BK210.out 5).trans rfl, (blk_cell BK210.out 6).trans rfl, (blk_cell BK210.out 7).trans rfl, HS8_⟩ (fun hHeld => ?_)
                                clear hK K
                                refine norm_ (a' := ?_) ?_ ?_
                                rotate_left
                                · show Act.put _ (some 11) _ = _
                                  simp only [Act.put, List.setIfInBounds_toArray, List.set_cons_zero, List.set_cons_succ, i64_w, i32_w]
                                  rfl
                                exact norm_ (by simp only [putAll, Act.put, List.setIfInBounds_toArray, List.set_cons_zero, List.set_cons_succ]) (hCont (v220, gb223) _ ⟨hHeld, (by (with_reducible repeat (first | apply Kd.R_alloc | apply Kd.R_drewN | apply Kd.R_drew)); exact HO221.out), (by (with_reducible repeat (first | apply Kd.R_alloc | apply Kd.R_drewN | apply Kd.R_drew)); exact HO_4.out), (by (with_reducible repeat (first | refine blk_drewN ?_ _ | refine blk_drew ?_ | refine blk_alloc ?_ _)); exact BK203.out), (by (with_reducible repeat (first | refine blk_drewN ?_ _ | refine blk_drew ?_ | refine blk_alloc ?_ _)); exact BK210.out), (by (with_reducible repeat (first | refine blk_drewN ?_ _ | refine blk_drew ?_ | refine blk_alloc ?_ _)); exact BK223.out), GW223.out, GE223.out, NB203_223.out, NB223_203.out, NB210_223.out, NB223_210.out, (by repeat (first | (with_reducible first | exact HB.out | apply below_alloc | apply pw_below_drewN | apply below_drew1 | refine below_set ?_ GE203.out | refine below_set ?_ GE210.out | refine below_set ?_ GE223.out) | exact HB.out))⟩)
                              · skip
                                refine box_step ?hg (N := 11) ?hd (cs := #[.int .i64 0, .string (⟨#[]⟩ : ByteArray), .string (⟨#[]⟩ : ByteArray), .int .i64 0, .int .i64 0, .int .i64 0, .int .i64 0, .slice none 0 0]) (t := 28) ?hr ?_; (case hd => rfl); (case hg => rfl); (case hr => first | (go_simp; done) | (go_simp; rfl))
                                intro gb223 hg w48 hbox hb
                                have HS8_ := (hb.cell (World.block_lt_of_cell? _ _ (hHeld.2.2.2.2.2.2.2.2))).trans (hHeld.2.2.2.2.2.2.2.2)
                                have n0_ := Aside0.mk (Kd.R_below (by (with_reducible repeat (first | apply Kd.R_alloc | apply Kd.R_drewN | apply Kd.R_drew)); exact HO_4.out) hb)
                                have n1_ := Aside0.mk (Kd.R_below (by (with_reducible repeat (first | apply Kd.R_alloc | apply Kd.R_drewN | apply Kd.R_drew)); exact HO_211007.out) hb)
                                have n2_ := Aside0.mk (blk_below (g := gb203) (o := .cells #[.int .i64 x204000_1, .string x204001_1, .string x204002_1, .int .i64 x204003_1, .int .i64 x204004_1, .int .i64 x204005_1, .int .i64 x204006_1, .slice none 0 0] 28 (0, 0)) (by (with_reducible repeat (first | refine blk_drewN ?_ _ | refine blk_drew ?_ | refine blk_alloc ?_ _)); exact BK203.out) hb)
                                have n3_ := Aside0.mk (blk_below (g := gb210) (o := .cells #[.int .i64 x211000_3, .string x211001_3, .string x211002_3, .int .i64 x211003_3, .int .i64 x211004_3, .int .i64 x211005_3, .int .i64 x211006_3, .slice Ao45 x211007_3.length co45] 28 (0, 0)) (by (with_reducible repeat (first | refine blk_drewN ?_ _ | refine blk_drew ?_ | refine blk_alloc ?_ _)); exact BK210.out) hb)
                                have n4_ := Aside0.mk (below_step (by repeat (first | (with_reducible first | exact HB.out | apply below_alloc | apply pw_below_drewN | apply below_drew1 | refine below_set ?_ GE203.out | refine below_set ?_ GE210.out) | exact HB.out)) hb)
                                have n5_ := Aside0.mk (hbox)
                                have n6_ := Aside0.mk ((by rw [hg]; exact (below_size (by repeat (first | (with_reducible first | exact HB.out | apply below_alloc | apply pw_below_drewN | apply below_drew1 | refine below_set ?_ GE203.out | refine below_set ?_ GE210.out) | exact HB.out))) : w.heap.size ≤ gb223))
                                have n7_ := Aside0.mk ((by rw [hg]; exact (below_size (by repeat (first | (with_reducible first | exact HB.out | apply below_alloc | apply pw_below_drewN | apply below_drew1 | refine below_set ?_ GE203.out | refine below_set ?_ GE210.out) | exact HB.out))) : w.heap.size ≤ gb223))
                                have n8_ := Aside0.mk ((by rw [hg]; exact Nat.ne_of_lt (blk_lt (g := gb203) (o := .cells #[.int .i64 x204000_1, .string x204001_1, .string x204002_1, .int .i64 x204003_1, .int .i64 x204004_1, .int .i64 x204005_1, .int .i64 x204006_1, .slice none 0 0] 28 (0, 0)) (by (with_reducible repeat (first | refine blk_drewN ?_ _ | refine blk_drew ?_ | refine blk_alloc ?_ _)); exact BK203.out)) : gb203 ≠ gb223))
                                have n9_ := Aside0.mk ((by rw [hg]; exact Nat.ne_of_gt (blk_lt (g := gb203) (o := .cells #[.int .i64 x204000_1, .string x204001_1, .string x204002_1, .int .i64 x204003_1, .int .i64 x204004_1, .int .i64 x204005_1, .int .i64 x204006_1, .slice none 0 0] 28 (0, 0)) (by (with_reducible repeat (first | refine blk_drewN ?_ _ | refine blk_drew ?_ | refine blk_alloc ?_ _)); exact BK203.out)) : gb223 ≠ gb203))
                                have n10_ := Aside0.mk ((by rw [hg]; exact Nat.ne_of_lt (blk_lt (g := gb210) (o := .cells #[.int .i64 x211000_3, .string x211001_3, .string x211002_3, .int .i64 x211003_3, .int .i64 x211004_3, .int .i64 x211005_3, .int .i64 x211006_3, .slice Ao45 x211007_3.length co45] 28 (0, 0)) (by (with_reducible repeat (first | refine blk_drewN ?_ _ | refine blk_drew ?_ | refine blk_alloc ?_ _)); exact BK210.out)) : gb210 ≠ gb223))
                                have n11_ := Aside0.mk ((by rw [hg]; exact Nat.ne_of_gt (blk_lt (g := gb210) (o := .cells #[.int .i64 x211000_3, .string x211001_3, .string x211002_3, .int .i64 x211003_3, .int .i64 x211004_3, .int .i64 x211005_3, .int .i64 x211006_3, .slice Ao45 x211007_3.length co45] 28 (0, 0)) (by (with_reducible repeat (first | refine blk_drewN ?_ _ | refine blk_drew ?_ | refine blk_alloc ?_ _)); exact BK210.out)) : gb223 ≠ gb210))
                                clear HO_4
                                clear HO_211007
                                clear BK203
                                clear BK210
                                clear HB
                                have HO_4 := n0_
                                have HO_211007 := n1_
                                have BK203 := n2_
                                have BK210 := n3_
                                have HB := n4_
                                have BK223 := n5_
                                have GW223 := n6_
                                have GE223 := n7_
                                have NB203_223 := n8_
                                have NB223_203 := n9_
                                have NB210_223 := n10_
                                have NB223_210 := n11_
                                clear n0_ n1_ n2_ n3_ n4_ n5_ n6_ n7_ n8_ n9_ n10_ n11_
                                clear hb hbox hg
                                refine hK.out _ _ ⟨(blk_cell BK210.out 0).trans rfl, (blk_cell BK210.out 1).trans rfl, (blk_cell BK210.out 2).trans rfl, (blk_cell BK210.out 3).trans rfl, (blk_cell BK210.out 4).trans rfl, (blk_cell BK210.out 5).trans rfl, (blk_cell BK210.out 6).trans rfl, (blk_cell BK210.out 7).trans rfl, HS8_⟩ (fun hHeld => ?_)
                                clear hK K
                                refine norm_ (a' := ?_) ?_ ?_
                                rotate_left
                                · show Act.put _ (some 11) _ = _
                                  simp only [Act.put, List.setIfInBounds_toArray, List.set_cons_zero, List.set_cons_succ, i64_w, i32_w]
                                  rfl
                                refine one_ (i := 9) (N := some 55) #[true, true, true, true, true, true, true, true, true, true, false, false, false, true, false, false] rfl rfl (one_of HT_.out (by kernel_rfl)) (by decide) (fun K hK => ?_)
                                refine goes_ Tryd.func44 (by kernel_rfl) rfl #[.agg #[.int .i64 x211000_3, .string x211001_3, .string x211002_3, .int .i64 x211003_3, .int .i64 x211004_3, .int .i64 x211005_3, .int .i64 x211006_3, .slice Ao45 x211007_3.length co45], .int .u8 (bt t208 x10_3), .string (rdOf ByteArray.empty t204 (ji20))] (by rfl) rfl rfl (by (try simp only [List.map_toArray, List.map_cons, List.map_nil]); first | done | (simp only [hji20]; rfl) | rfl | (simp only [List.length_drop, List.length_take]; rfl)) ?_
                                with_reducible refine (oublietteref39_with.calls x211000_3 x211001_3 x211002_3 x211003_3 x211004_3 x211005_3 x211006_3 (fun k_ => some k_ = (.slice Ao45 x211007_3.length co45 : Value).ownBlock) (.slice Ao45 x211007_3.length co45) x211007_3 (bt t208 x10_3) (rdOf ByteArray.empty t204 (ji20)) t212 t213 t214 t215 t216 t217 t218 t219 t222 w _ ?side1 ?side2 A23.out).mono ?_
                                (case side1 => repeat (first | (with_reducible first | exact HB.out | apply below_alloc | apply pw_below_drewN | apply below_drew1 | refine below_set ?_ GE203.out | refine below_set ?_ GE210.out | refine below_set ?_ GE223.out) | exact HB.out))
                                (case side2 => exact Kd.R_tight rfl HO_211007.out)
                                rintro e w49 ⟨v220, rfl, ho0, hb, hkp⟩
                                have HS8_ := cell_kept (hHeld.2.2.2.2.2.2.2.2) hkp (by first | (rw [add_block]; exact (fun hs_ => ((((Kd.R_apart' HO_4.out (Kd.R_typed HO_211007.out) (by decide))).1 _ rfl).2) hs_)) | (show ¬ _; simp only [add_block]; exact (fun hs_ => ((((Kd.R_apart' HO_4.out (Kd.R_typed HO_211007.out) (by decide))).1 _ rfl).2) hs_)) | exact (fun hs_ => ((((Kd.R_apart' HO_4.out (Kd.R_typed HO_211007.out) (by decide))).1 _ rfl).2) hs_))
                                refine ⟨_, rfl, ?_⟩
                                have n0_ := Aside0.mk (Kd.R_mono (ok' := fun k_ => True) (Kd.R_keptB ((Kd.R_apart' HO_4.out (Kd.R_typed HO_211007.out) (by decide))) hkp (fun k_ hk_ hs_ => (hk_.2) hs_)) (fun k_ hk_ => trivial))
                                have n1_ := Aside0.mk (blk_kept (by (with_reducible repeat (first | refine blk_drewN ?_ _ | refine blk_drew ?_ | refine blk_alloc ?_ _)); exact BK203.out) hkp (fun hs_ => (fun e_ => (Kd.R_ne HO_211007.out BK203.out (by decide)) e_) hs_))
                                have n2_ := Aside0.mk (blk_kept (by (with_reducible repeat (first | refine blk_drewN ?_ _ | refine blk_drew ?_ | refine blk_alloc ?_ _)); exact BK210.out) hkp (fun hs_ => (fun e_ => (Kd.R_ne HO_211007.out BK210.out (by decide)) e_) hs_))
                                have n3_ := Aside0.mk (blk_kept (by (with_reducible repeat (first | refine blk_drewN ?_ _ | refine blk_drew ?_ | refine blk_alloc ?_ _)); exact BK223.out) hkp (fun hs_ => (fun e_ => (Kd.R_ne HO_211007.out BK223.out (by decide)) e_) hs_))
                                have n4_ := Aside0.mk (Kd.R_mono (ok' := fun k_ => True) ho0 (fun k_ hk_ => trivial))
                                have n5_ := Aside0.mk (hb)
                                clear HO_4
                                clear BK203
                                clear BK210
                                clear BK223
                                clear HB
                                clear HO_211007
                                have HO_4 := n0_
                                have BK203 := n1_
                                have BK210 := n2_
                                have BK223 := n3_
                                have HO221 := n4_
                                have HB := n5_
                                clear n0_ n1_ n2_ n3_ n4_ n5_
                                (try clear hb)
                                (try clear hkp)
                                (try clear ho0)
                                refine hK.out _ _ ⟨(blk_cell BK210.out 0).trans rfl, (blk_cell BK210.out 1).trans rfl, (blk_cell BK210.out 2).trans rfl, (blk_cell BK210.out 3).trans rfl, (blk_cell BK210.out 4).trans rfl, (blk_cell BK210.out 5).trans rfl, (blk_cell BK210.out 6).trans rfl, (blk_cell BK210.out 7).trans rfl, HS8_⟩ (fun hHeld => ?_)
                                clear hK K
                                refine norm_ (a' := ?_) ?_ ?_
                                rotate_left
                                · show Act.put _ (some 55) _ = _
                                  simp only [Act.put, List.setIfInBounds_toArray, List.set_cons_zero, List.set_cons_succ, i64_w, i32_w]
                                  rfl
                                refine pure_ (i := 10) (N := some 45) (v := ?_) (a' := ?_) #[true, true, true, true, true, true, true, true, true, true, true, false, false, true, false, false] rfl rfl (any_of HT_.out (by kernel_rfl)) (fun _ _ _ h => h) (Or.inl ⟨by rfl, ?_⟩) ?_ ?_
                                rotate_left
                                · intro w'
                                  go_simp
                                  with_reducible rfl
                                rotate_left
                                · simp only [Act.put, List.setIfInBounds_toArray, List.set_cons_zero, List.set_cons_succ, i64_w, i32_w]
                                  rfl
                                refine pure_ (i := 11) (N := some 56) (v := ?_) (a' := ?_) #[true, true, true, true, true, true, true, true, true, true, true, true, false, true, false, false] rfl rfl (any_of HT_.out (by kernel_rfl)) (fun _ _ _ h => h) (Or.inl ⟨by rfl, ?_⟩) ?_ ?_
                                rotate_left
                                · intro w'
                                  go_simp
                                  with_reducible rfl
                                rotate_left
                                · simp only [Act.put, List.setIfInBounds_toArray, List.set_cons_zero, List.set_cons_succ, i64_w, i32_w]
                                  rfl
                                refine pure_ (i := 12) (N := some 57) (v := ?_) (a' := ?_) #[true, true, true, true, true, true, true, true, true, true, true, true, true, true, false, false] rfl rfl (any_of HT_.out (by kernel_rfl)) (fun _ _ _ h => h) (Or.inl ⟨by rfl, ?_⟩) ?_ ?_
                                rotate_left
                                · intro w'
                                  go_simp
                                  with_reducible rfl
                                rotate_left
                                · simp only [Act.put, List.setIfInBounds_toArray, List.set_cons_zero, List.set_cons_succ, i64_w, i32_w]
                                  rfl
                                exact norm_ (by simp only [putAll, Act.put, List.setIfInBounds_toArray, List.set_cons_zero, List.set_cons_succ]) (hCont (v220, gb223) _ ⟨hHeld, (by (with_reducible repeat (first | apply Kd.R_alloc | apply Kd.R_drewN | apply Kd.R_drew)); exact HO221.out), (by (with_reducible repeat (first | apply Kd.R_alloc | apply Kd.R_drewN | apply Kd.R_drew)); exact HO_4.out), (by (with_reducible repeat (first | refine blk_drewN ?_ _ | refine blk_drew ?_ | refine blk_alloc ?_ _)); exact BK203.out), (by (with_reducible repeat (first | refine blk_drewN ?_ _ | refine blk_drew ?_ | refine blk_alloc ?_ _)); exact BK210.out), (by (with_reducible repeat (first | refine blk_drewN ?_ _ | refine blk_drew ?_ | refine blk_alloc ?_ _)); exact BK223.out), GW223.out, GE223.out, NB203_223.out, NB223_203.out, NB210_223.out, NB223_210.out, (by repeat (first | (with_reducible first | exact HB.out | apply below_alloc | apply pw_below_drewN | apply below_drew1 | refine below_set ?_ GE203.out | refine below_set ?_ GE210.out | refine below_set ?_ GE223.out) | exact HB.out))⟩)
                            rintro ⟨v220, gb223⟩ w50 ⟨hS_, h0_, h1_, h2_, h3_, h4_, h5_, h6_, h7_, h8_, h9_, h10_, h11_⟩
                            have n0_ : Aside0 (Kd.R (Kd.int .u8) 5 w50 w.heap.size (fun _ => True) v220 t219) := ⟨h0_⟩
                            have n1_ : Aside0 (Kd.R Kd.string 9 w50 w.heap.size (fun _ => True) (.slice (some ad211) t204.length co47) t204) := ⟨h1_⟩
                            have n2_ : Aside0 (w50.heap[gb203]? = some (.cells #[.int .i64 x204000_1, .string x204001_1, .string x204002_1, .int .i64 x204003_1, .int .i64 x204004_1, .int .i64 x204005_1, .int .i64 x204006_1, .slice none 0 0] 28 (0, 0))) := ⟨h2_⟩
                            have n3_ : Aside0 (w50.heap[gb210]? = some (.cells #[.int .i64 x211000_3, .string x211001_3, .string x211002_3, .int .i64 x211003_3, .int .i64 x211004_3, .int .i64 x211005_3, .int .i64 x211006_3, .slice Ao45 x211007_3.length co45] 28 (0, 0))) := ⟨h3_⟩
                            have n4_ : Aside0 (w50.heap[gb223]? = some (.cells #[.int .i64 0, .string (⟨#[]⟩ : ByteArray), .string (⟨#[]⟩ : ByteArray), .int .i64 0, .int .i64 0, .int .i64 0, .int .i64 0, .slice none 0 0] 28 (0, 0))) := ⟨h4_⟩
                            have n5_ : Aside0 (w.heap.size ≤ gb223) := ⟨h5_⟩
                            have n6_ : Aside0 (w.heap.size ≤ gb223) := ⟨h6_⟩
                            have n7_ : Aside0 (gb203 ≠ gb223) := ⟨h7_⟩
                            have n8_ : Aside0 (gb223 ≠ gb203) := ⟨h8_⟩
                            have n9_ : Aside0 (gb210 ≠ gb223) := ⟨h9_⟩
                            have n10_ : Aside0 (gb223 ≠ gb210) := ⟨h10_⟩
                            have n11_ : Aside0 (Below w.heap.size w w50) := ⟨h11_⟩
                            clear HO_4
                            clear HO_211007
                            clear BK203
                            clear BK210
                            clear HB
                            clear h0_ h1_ h2_ h3_ h4_ h5_ h6_ h7_ h8_ h9_ h10_ h11_
                            have HO221 := n0_
                            have HO_4 := n1_
                            have BK203 := n2_
                            have BK210 := n3_
                            have BK223 := n4_
                            have GW223 := n5_
                            have GE223 := n6_
                            have NB203_223 := n7_
                            have NB223_203 := n8_
                            have NB210_223 := n9_
                            have NB223_210 := n10_
                            have HB := n11_
                            clear n0_ n1_ n2_ n3_ n4_ n5_ n6_ n7_ n8_ n9_ n10_ n11_
                            have hHeld : w50.cell? ⟨gb210, 0, none⟩ = some (.int .i64 x211000_3) ∧ w50.cell? ⟨gb210, 1, none⟩ = some (.string x211001_3) ∧ w50.cell? ⟨gb210, 2, none⟩ = some (.string x211002_3) ∧ w50.cell? ⟨gb210, 3, none⟩ = some (.int .i64 x211003_3) ∧ w50.cell? ⟨gb210, 4, none⟩ = some (.int .i64 x211004_3) ∧ w50.cell? ⟨gb210, 5, none⟩ = some (.int .i64 x211005_3) ∧ w50.cell? ⟨gb210, 6, none⟩ = some (.int .i64 x211006_3) ∧ w50.cell? ⟨gb210, 7, none⟩ = some (.slice Ao45 x211007_3.length co45) ∧ w50.cell? (ad211.add ((ji20)).toNat) = some (.string (rdOf ByteArray.empty t204 (ji20))) := hS_
                            obtain ⟨Ao58, co58, eo58⟩ := Kd.R_slice HO221.out
                            (first | subst eo58 | (injection eo58 with f1_ f2_ f3_; have f4_ := f1_.symm; have f5_ := f3_.symm; clear f1_ f2_ f3_; subst f4_; subst f5_))
                            refine norm_ (a' := ?_) ?_ ?_
                            rotate_left
                            · simp only [putAll, Act.put, List.setIfInBounds_toArray, List.set_cons_zero, List.set_cons_succ]
                              rfl
                            refine one_ (i := 14) (N := none) #[true, true, true, true, true, true, true, true, true, true, true, true, true, true, true, false] rfl rfl (one_of HT_.out (by kernel_rfl)) (by decide) (fun K hK => ?_)
                            have hs51 : w50.cell? ⟨gb223, 0, none⟩ = some (.int .i64 0) := (blk_cell BK223.out 0).trans rfl
                            have hfs51 := blk_frozen BK223.out 0
                            have hns51_0 := NB203_223.out
                            have hns51_1 := NB210_223.out
                            have hms51_0 := NB223_203.out
                            have hms51_1 := NB223_210.out
                            have hs52 : w50.cell? ⟨gb223, 1, none⟩ = some (.string (⟨#[]⟩ : ByteArray)) := (blk_cell BK223.out 1).trans rfl
                            have hfs52 := blk_frozen BK223.out 1
                            have hns52_0 := NB203_223.out
                            have hns52_1 := NB210_223.out
                            have hms52_0 := NB223_203.out
                            have hms52_1 := NB223_210.out
                            have hs53 : w50.cell? ⟨gb223, 2, none⟩ = some (.string (⟨#[]⟩ : ByteArray)) := (blk_cell BK223.out 2).trans rfl
                            have hfs53 := blk_frozen BK223.out 2
                            have hns53_0 := NB203_223.out
                            have hns53_1 := NB210_223.out
                            have hms53_0 := NB223_203.out
                            have hms53_1 := NB223_210.out
                            have hs54 : w50.cell? ⟨gb223, 3, none⟩ = some (.int .i64 0) := (blk_cell BK223.out 3).trans rfl
                            have hfs54 := blk_frozen BK223.out 3
                            have hns54_0 := NB203_223.out
                            have hns54_1 := NB210_223.out
                            have hms54_0 := NB223_203.out
                            have hms54_1 := NB223_210.out
                            have hs55 : w50.cell? ⟨gb223, 4, none⟩ = some (.int .i64 0) := (blk_cell BK223.out 4).trans rfl
                            have hfs55 := blk_frozen BK223.out 4
                            have hns55_0 := NB203_223.out
                            have hns55_1 := NB210_223.out
                            have hms55_0 := NB223_203.out
                            have hms55_1 := NB223_210.out
                            have hs56 : w50.cell? ⟨gb223, 5, none⟩ = some (.int .i64 0) := (blk_cell BK223.out 5).trans rfl
                            have hfs56 := blk_frozen BK223.out 5
                            have hns56_0 := NB203_223.out
                            have hns56_1 := NB210_223.out
                            have hms56_0 := NB223_203.out
                            have hms56_1 := NB223_210.out
                            have hs57 : w50.cell? ⟨gb223, 6, none⟩ = some (.int .i64 0) := (blk_cell BK223.out 6).trans rfl
                            have hfs57 := blk_frozen BK223.out 6
                            have hns57_0 := NB203_223.out
                            have hns57_1 := NB210_223.out
                            have hms57_0 := NB223_203.out
                            have hms57_1 := NB223_210.out
                            have hs59 : w50.cell? ⟨gb223, 7, none⟩ = some (.slice none 0 0) := (blk_cell BK223.out 7).trans rfl
                            have hfs59 := blk_frozen BK223.out 7
                            have hns59_0 := NB203_223.out
                            have hns59_1 := NB210_223.out
                            have hms59_0 := NB223_203.out
                            have hms59_1 := NB223_210.out
                            refine skip_ (w1 := ?_) (by rfl) rfl ?_ ?_
                            rotate_left
                            · go_simp
                              rfl
                            refine hK.out _ _ ⟨((cell_far (p := ⟨gb223, _, none⟩) NB210_223.out _).trans (((cell_far (p := ⟨gb223, _, none⟩) NB210_223.out _).trans (((cell_far (p := ⟨gb223, _, none⟩) NB210_223.out _).trans (((cell_far (p := ⟨gb223, _, none⟩) NB210_223.out _).trans (((cell_far (p := ⟨gb223, _, none⟩) NB210_223.out _).trans (((cell_far (p := ⟨gb223, _, none⟩) NB210_223.out _).trans (((cell_far (p := ⟨gb223, _, none⟩) NB210_223.out _).trans (((cell_far (p := ⟨gb223, _, none⟩) NB210_223.out _).trans (hHeld.1)))))))))))))))), ((cell_far (p := ⟨gb223, _, none⟩) NB210_223.out _).trans (((cell_far (p := ⟨gb223, _, none⟩) NB210_223.out _).trans (((cell_far (p := ⟨gb223, _, none⟩) NB210_223.out _).trans (((cell_far (p := ⟨gb223, _, none⟩) NB210_223.out _).trans (((cell_far (p := ⟨gb223, _, none⟩) NB210_223.out _).trans (((cell_far (p := ⟨gb223, _, none⟩) NB210_223.out _).trans (((cell_far (p := ⟨gb223, _, none⟩) NB210_223.out _).trans (((cell_far (p := ⟨gb223, _, none⟩) NB210_223.out _).trans (hHeld.2.1)))))))))))))))), ((cell_far (p := ⟨gb223, _, none⟩) NB210_223.out _).trans (((cell_far (p := ⟨gb223, _, none⟩) NB210_223.out _).trans (((cell_far (p := ⟨gb223, _, none⟩) NB210_223.out _).trans (((cell_far (p := ⟨gb223, _, none⟩) NB210_223.out _).trans (((cell_far (p := ⟨gb223, _, none⟩) NB210_223.out _).trans (((cell_far (p := ⟨gb223, _, none⟩) NB210_223.out _).trans (((cell_far (p := ⟨gb223, _, none⟩) NB210_223.out _).trans (((cell_far (p := ⟨gb223, _, none⟩) NB210_223.out _).trans (hHeld.2.2.1)))))))))))))))), ((cell_far (p := ⟨gb223, _, none⟩) NB210_223.out _).trans (((cell_far (p := ⟨gb223, _, none⟩) NB210_223.out _).trans (((cell_far (p := ⟨gb223, _, none⟩) NB210_223.out _).trans (((cell_far (p := ⟨gb223, _, none⟩) NB210_223.out _).trans (((cell_far (p := ⟨gb223, _, none⟩) NB210_223.out _).trans (((cell_far (p := ⟨gb223, _, none⟩) NB210_223.out _).trans (((cell_far (p := ⟨gb223, _, none⟩) NB210_223.out _).trans (((cell_far (p := ⟨gb223, _, none⟩) NB210_223.out _).trans (hHeld.2.2.2.1)))))))))))))))), ((cell_far (p := ⟨gb223, _, none⟩) NB210_223.out _).trans (((cell_far (p := ⟨gb223, _, none⟩) NB210_223.out _).trans (((cell_far (p := ⟨gb223, _, none⟩) NB210_223.out _).trans (((cell_far (p := ⟨gb223, _, none⟩) NB210_223.out _).trans (((cell_far (p := ⟨gb223, _, none⟩) NB210_223.out _).trans (((cell_far (p := ⟨gb223, _, none⟩) NB210_223.out _).trans (((cell_far (p := ⟨gb223, _, none⟩) NB210_223.out _).trans (((cell_far (p := ⟨gb223, _, none⟩) NB210_223.out _).trans (hHeld.2.2.2.2.1)))))))))))))))), ((cell_far (p := ⟨gb223, _, none⟩) NB210_223.out _).trans (((cell_far (p := ⟨gb223, _, none⟩) NB210_223.out _).trans (((cell_far (p := ⟨gb223, _, none⟩) NB210_223.out _).trans (((cell_far (p := ⟨gb223, _, none⟩) NB210_223.out _).trans (((cell_far (p := ⟨gb223, _, none⟩) NB210_223.out _).trans (((cell_far (p := ⟨gb223, _, none⟩) NB210_223.out _).trans (((cell_far (p := ⟨gb223, _, none⟩) NB210_223.out _).trans (((cell_far (p := ⟨gb223, _, none⟩) NB210_223.out _).trans (hHeld.2.2.2.2.2.1)))))))))))))))), ((cell_far (p := ⟨gb223, _, none⟩) NB210_223.out _).trans (((cell_far (p := ⟨gb223, _, none⟩) NB210_223.out _).trans (((cell_far (p := ⟨gb223, _, none⟩) NB210_223.out _).trans (((cell_far (p := ⟨gb223, _, none⟩) NB210_223.out _).trans (((cell_far (p := ⟨gb223, _, none⟩) NB210_223.out _).trans (((cell_far (p := ⟨gb223, _, none⟩) NB210_223.out _).trans (((cell_far (p := ⟨gb223, _, none⟩) NB210_223.out _).trans (((cell_far (p := ⟨gb223, _, none⟩) NB210_223.out _).trans (hHeld.2.2.2.2.2.2.1)))))))))))))))), ((cell_far (p := ⟨gb223, _, none⟩) NB210_223.out _).trans (((cell_far (p := ⟨gb223, _, none⟩) NB210_223.out _).trans (((cell_far (p := ⟨gb223, _, none⟩) NB210_223.out _).trans (((cell_far (p := ⟨gb223, _, none⟩) NB210_223.out _).trans (((cell_far (p := ⟨gb223, _, none⟩) NB210_223.out _).trans (((cell_far (p := ⟨gb223, _, none⟩) NB210_223.out _).trans (((cell_far (p := ⟨gb223, _, none⟩) NB210_223.out _).trans (((cell_far (p := ⟨gb223, _, none⟩) NB210_223.out _).trans (hHeld.2.2.2.2.2.2.2.1)))))))))))))))), ((cell_far (p := ⟨gb223, _, none⟩) (by first | exact Kd.own_blk (Kd.R_ne HO_4.out BK223.out (by decide)) | (rw [add_block]; exact Kd.own_blk (Kd.R_ne HO_4.out BK223.out (by decide))) | (show (Addr.add _ _).block ≠ _; rw [add_block]; exact Kd.own_blk (Kd.R_ne HO_4.out BK223.out (by decide))) | (dsimp only; exact Kd.own_blk (Kd.R_ne HO_4.out BK223.out (by decide)))) _).trans (((cell_far (p := ⟨gb223, _, none⟩) (by first | exact Kd.own_blk (Kd.R_ne HO_4.out BK223.out (by decide)) | (rw [add_block]; exact Kd.own_blk (Kd.R_ne HO_4.out BK223.out (by decide))) | (show (Addr.add _ _).block ≠ _; rw [add_block]; exact Kd.own_blk (Kd.R_ne HO_4.out BK223.out (by decide))) | (dsimp only; exact Kd.own_blk (Kd.R_ne HO_4.out BK223.out (by decide)))) _).trans (((cell_far (p := ⟨gb223, _, none⟩) (by first | exact Kd.own_blk (Kd.R_ne HO_4.out BK223.out (by decide)) | (rw [add_block]; exact Kd.own_blk (Kd.R_ne HO_4.out BK223.out (by decide))) | (show (Addr.add _ _).block ≠ _; rw [add_block]; exact Kd.own_blk (Kd.R_ne HO_4.out BK223.out (by decide))) | (dsimp only; exact Kd.own_blk (Kd.R_ne HO_4.out BK223.out (by decide)))) _).trans (((cell_far (p := ⟨gb223, _, none⟩) (by first | exact Kd.own_blk (Kd.R_ne HO_4.out BK223.out (by decide)) | (rw [add_block]; exact Kd.own_blk (Kd.R_ne HO_4.out BK223.out (by decide))) | (show (Addr.add _ _).block ≠ _; rw [add_block]; exact Kd.own_blk (Kd.R_ne HO_4.out BK223.out (by decide))) | (dsimp only; exact Kd.own_blk (Kd.R_ne HO_4.out BK223.out (by decide)))) _).trans (((cell_far (p := ⟨gb223, _, none⟩) (by first | exact Kd.own_blk (Kd.R_ne HO_4.out BK223.out (by decide)) | (rw [add_block]; exact Kd.own_blk (Kd.R_ne HO_4.out BK223.out (by decide))) | (show (Addr.add _ _).block ≠ _; rw [add_block]; exact Kd.own_blk (Kd.R_ne HO_4.out BK223.out (by decide))) | (dsimp only; exact Kd.own_blk (Kd.R_ne HO_4.out BK223.out (by decide)))) _).trans (((cell_far (p := ⟨gb223, _, none⟩) (by first | exact Kd.own_blk (Kd.R_ne HO_4.out BK223.out (by decide)) | (rw [add_block]; exact Kd.own_blk (Kd.R_ne HO_4.out BK223.out (by decide))) | (show (Addr.add _ _).block ≠ _; rw [add_block]; exact Kd.own_blk (Kd.R_ne HO_4.out BK223.out (by decide))) | (dsimp only; exact Kd.own_blk (Kd.R_ne HO_4.out BK223.out (by decide)))) _).trans (((cell_far (p := ⟨gb223, _, none⟩) (by first | exact Kd.own_blk (Kd.R_ne HO_4.out BK223.out (by decide)) | (rw [add_block]; exact Kd.own_blk (Kd.R_ne HO_4.out BK223.out (by decide))) | (show (Addr.add _ _).block ≠ _; rw [add_block]; exact Kd.own_blk (Kd.R_ne HO_4.out BK223.out (by decide))) | (dsimp only; exact Kd.own_blk (Kd.R_ne HO_4.out BK223.out (by decide)))) _).trans (((cell_far (p := ⟨gb223, _, none⟩) (by first | exact Kd.own_blk (Kd.R_ne HO_4.out BK223.out (by decide)) | (rw [add_block]; exact Kd.own_blk (Kd.R_ne HO_4.out BK223.out (by decide))) | (show (Addr.add _ _).block ≠ _; rw [add_block]; exact Kd.own_blk (Kd.R_ne HO_4.out BK223.out (by decide))) | (dsimp only; exact Kd.own_blk (Kd.R_ne HO_4.out BK223.out (by decide)))) _).trans (hHeld.2.2.2.2.2.2.2.2))))))))))))))))⟩ (fun hHeld => ?_)
                            clear hK K
                            refine pure_ (i := 15) (N := some 12) (v := ?_) (a' := ?_) #[true, true, true, true, true, true, true, true, true, true, true, true, true, true, true, true] rfl rfl (any_of HT_.out (by kernel_rfl)) (fun _ _ _ h => h) (Or.inl ⟨by rfl, ?_⟩) ?_ ?_
                            rotate_left
                            · intro w'
                              go_simp
                              with_reducible rfl
                            rotate_left
                            · simp only [Act.put, List.setIfInBounds_toArray, List.set_cons_zero, List.set_cons_succ, i64_w, i32_w]
                              rfl
                            refine done_ (done_of HT_.out (by kernel_rfl)) ?_
                            have hnb60 := NB223_203.out
                            have hnc60 := NB203_223.out
                            have hnb61 := NB223_210.out
                            have hnc61 := NB210_223.out
                            have hcz62_0 : w50.cell? ⟨gb223, 0, none⟩ = some (.int .i64 0) := (blk_cell BK223.out 0).trans rfl
                            have hcz62_1 : w50.cell? ⟨gb223, 1, none⟩ = some (.string (⟨#[]⟩ : ByteArray)) := (blk_cell BK223.out 1).trans rfl
                            have hcz62_2 : w50.cell? ⟨gb223, 2, none⟩ = some (.string (⟨#[]⟩ : ByteArray)) := (blk_cell BK223.out 2).trans rfl
                            have hcz62_3 : w50.cell? ⟨gb223, 3, none⟩ = some (.int .i64 0) := (blk_cell BK223.out 3).trans rfl
                            have hcz62_4 : w50.cell? ⟨gb223, 4, none⟩ = some (.int .i64 0) := (blk_cell BK223.out 4).trans rfl
                            have hcz62_5 : w50.cell? ⟨gb223, 5, none⟩ = some (.int .i64 0) := (blk_cell BK223.out 5).trans rfl
                            have hcz62_6 : w50.cell? ⟨gb223, 6, none⟩ = some (.int .i64 0) := (blk_cell BK223.out 6).trans rfl
                            have hcz62_7 : w50.cell? ⟨gb223, 7, none⟩ = some (.slice none 0 0) := (blk_cell BK223.out 7).trans rfl
                            have hfz62_0 := blk_frozen BK223.out 0
                            have hfz62_1 := blk_frozen BK223.out 1
                            have hfz62_2 := blk_frozen BK223.out 2
                            have hfz62_3 := blk_frozen BK223.out 3
                            have hfz62_4 := blk_frozen BK223.out 4
                            have hfz62_5 := blk_frozen BK223.out 5
                            have hfz62_6 := blk_frozen BK223.out 6
                            have hfz62_7 := blk_frozen BK223.out 7
                            have hnb63 := NB210_203.out
                            have hnc63 := NB203_210.out
                            have hcz64_0 : w50.cell? ⟨gb210, 0, none⟩ = some (.int .i64 x211000_3) := (blk_cell BK210.out 0).trans rfl
                            have hcz64_1 : w50.cell? ⟨gb210, 1, none⟩ = some (.string x211001_3) := (blk_cell BK210.out 1).trans rfl
                            have hcz64_2 : w50.cell? ⟨gb210, 2, none⟩ = some (.string x211002_3) := (blk_cell BK210.out 2).trans rfl
                            have hcz64_3 : w50.cell? ⟨gb210, 3, none⟩ = some (.int .i64 x211003_3) := (blk_cell BK210.out 3).trans rfl
                            have hcz64_4 : w50.cell? ⟨gb210, 4, none⟩ = some (.int .i64 x211004_3) := (blk_cell BK210.out 4).trans rfl
                            have hcz64_5 : w50.cell? ⟨gb210, 5, none⟩ = some (.int .i64 x211005_3) := (blk_cell BK210.out 5).trans rfl
                            have hcz64_6 : w50.cell? ⟨gb210, 6, none⟩ = some (.int .i64 x211006_3) := (blk_cell BK210.out 6).trans rfl
                            have hcz64_7 : w50.cell? ⟨gb210, 7, none⟩ = some (.slice Ao45 x211007_3.length co45) := (blk_cell BK210.out 7).trans rfl
                            have hfz64_0 := blk_frozen BK210.out 0
                            have hfz64_1 := blk_frozen BK210.out 1
                            have hfz64_2 := blk_frozen BK210.out 2
                            have hfz64_3 := blk_frozen BK210.out 3
                            have hfz64_4 := blk_frozen BK210.out 4
                            have hfz64_5 := blk_frozen BK210.out 5
                            have hfz64_6 := blk_frozen BK210.out 6
                            have hfz64_7 := blk_frozen BK210.out 7
                            try go_wp2
                            go_roundg k3
                            case measure => have := HK1.out; have := HJ6.out; have := HK3.out; omega
                            case rel => exact ⟨(false), (ji20), (t212), (t213), (t214), (t215), (t216), (t217), (t218), (t219), (.slice Ao58 t219.length co58), (by first | rfl | (simp; done) | (simp [*]; done)), (by first | rfl | (simp; done) | (simp only [← hji20] <;> (first | rfl | simp)) | (simp [*]; done)), H', ⟨by have := HK1.out; have := HJ6.out; have := HK3.out; omega⟩, ⟨by (with_reducible repeat (first | apply Kd.R_alloc | apply Kd.R_drewN | apply Kd.R_drew)); exact Kd.R_mono (Kd.R_far (p := ⟨gb210, 7, none⟩) (Kd.R_far (p := ⟨gb210, 6, none⟩) (Kd.R_far (p := ⟨gb210, 5, none⟩) (Kd.R_far (p := ⟨gb210, 4, none⟩) (Kd.R_far (p := ⟨gb210, 3, none⟩) (Kd.R_far (p := ⟨gb210, 2, none⟩) (Kd.R_far (p := ⟨gb210, 1, none⟩) (Kd.R_far (p := ⟨gb210, 0, none⟩) (Kd.R_far (p := ⟨gb223, 7, none⟩) (Kd.R_far (p := ⟨gb223, 6, none⟩) (Kd.R_far (p := ⟨gb223, 5, none⟩) (Kd.R_far (p := ⟨gb223, 4, none⟩) (Kd.R_far (p := ⟨gb223, 3, none⟩) (Kd.R_far (p := ⟨gb223, 2, none⟩) (Kd.R_far (p := ⟨gb223, 1, none⟩) (Kd.R_far (p := ⟨gb223, 0, none⟩) (Kd.R_types (Kd.R_types HO_4.out BK223.out (by decide)) BK210.out (by decide)) (fun _ hk => hk.1.2) (.int .i64 t212)) (fun _ hk => hk.1.2) (.string t213)) (fun _ hk => hk.1.2) (.string t214)) (fun _ hk => hk.1.2) (.int .i64 t215)) (fun _ hk => hk.1.2) (.int .i64 t216)) (fun _ hk => hk.1.2) (.int .i64 t217)) (fun _ hk => hk.1.2) (.int .i64 t218)) (fun _ hk => hk.1.2) (.slice Ao58 t219.length co58)) (fun _ hk => hk.2) (.int .i64 t212)) (fun _ hk => hk.2) (.string t213)) (fun _ hk => hk.2) (.string t214)) (fun _ hk => hk.2) (.int .i64 t215)) (fun _ hk => hk.2) (.int .i64 t216)) (fun _ hk => hk.2) (.int .i64 t217)) (fun _ hk => hk.2) (.int .i64 t218)) (fun _ hk => hk.2) (.slice Ao58 t219.length co58)) (fun _ hk => trivial)⟩, ⟨by (with_reducible repeat (first | apply Kd.R_alloc | apply Kd.R_drewN | apply Kd.R_drew)); exact Kd.R_mono (Kd.R_far (p := ⟨gb210, 7, none⟩) (Kd.R_far (p := ⟨gb210, 6, none⟩) (Kd.R_far (p := ⟨gb210, 5, none⟩) (Kd.R_far (p := ⟨gb210, 4, none⟩) (Kd.R_far (p := ⟨gb210, 3, none⟩) (Kd.R_far (p := ⟨gb210, 2, none⟩) (Kd.R_far (p := ⟨gb210, 1, none⟩) (Kd.R_far (p := ⟨gb210, 0, none⟩) (Kd.R_far (p := ⟨gb223, 7, none⟩) (Kd.R_far (p := ⟨gb223, 6, none⟩) (Kd.R_far (p := ⟨gb223, 5, none⟩) (Kd.R_far (p := ⟨gb223, 4, none⟩) (Kd.R_far (p := ⟨gb223, 3, none⟩) (Kd.R_far (p := ⟨gb223, 2, none⟩) (Kd.R_far (p := ⟨gb223, 1, none⟩) (Kd.R_far (p := ⟨gb223, 0, none⟩) (Kd.R_types (Kd.R_types HO221.out BK223.out (by decide)) BK210.out (by decide)) (fun _ hk => hk.1.2) (.int .i64 t212)) (fun _ hk => hk.1.2) (.string t213)) (fun _ hk => hk.1.2) (.string t214)) (fun _ hk => hk.1.2) (.int .i64 t215)) (fun _ hk => hk.1.2) (.int .i64 t216)) (fun _ hk => hk.1.2) (.int .i64 t217)) (fun _ hk => hk.1.2) (.int .i64 t218)) (fun _ hk => hk.1.2) (.slice Ao58 t219.length co58)) (fun _ hk => hk.2) (.int .i64 t212)) (fun _ hk => hk.2) (.string t213)) (fun _ hk => hk.2) (.string t214)) (fun _ hk => hk.2) (.int .i64 t215)) (fun _ hk => hk.2) (.int .i64 t216)) (fun _ hk => hk.2) (.int .i64 t217)) (fun _ hk => hk.2) (.int .i64 t218)) (fun _ hk => hk.2) (.slice Ao58 t219.length co58)) (fun _ hk => trivial)⟩, ⟨by (with_reducible repeat (first | refine blk_drewN ?_ _ | refine blk_drew ?_ | refine blk_alloc ?_ _)); refine blk_far ?_ NB203_210.out _; (with_reducible repeat (first | refine blk_drewN ?_ _ | refine blk_drew ?_ | refine blk_alloc ?_ _)); refine blk_far ?_ NB203_210.out _; (with_reducible repeat (first | refine blk_drewN ?_ _ | refine blk_drew ?_ | refine blk_alloc ?_ _)); refine blk_far ?_ NB203_210.out _; (with_reducible repeat (first | refine blk_drewN ?_ _ | refine blk_drew ?_ | refine blk_alloc ?_ _)); refine blk_far ?_ NB203_210.out _; (with_reducible repeat (first | refine blk_drewN ?_ _ | refine blk_drew ?_ | refine blk_alloc ?_ _)); refine blk_far ?_ NB203_210.out _; (with_reducible repeat (first | refine blk_drewN ?_ _ | refine blk_drew ?_ | refine blk_alloc ?_ _)); refine blk_far ?_ NB203_210.out _; (with_reducible repeat (first | refine blk_drewN ?_ _ | refine blk_drew ?_ | refine blk_alloc ?_ _)); refine blk_far ?_ NB203_210.out _; (with_reducible repeat (first | refine blk_drewN ?_ _ | refine blk_drew ?_ | refine blk_alloc ?_ _)); refine blk_far ?_ NB203_210.out _; (with_reducible repeat (first | refine blk_drewN ?_ _ | refine blk_drew ?_ | refine blk_alloc ?_ _)); refine blk_far ?_ NB203_223.out _; (with_reducible repeat (first | refine blk_drewN ?_ _ | refine blk_drew ?_ | refine blk_alloc ?_ _)); refine blk_far ?_ NB203_223.out _; (with_reducible repeat (first | refine blk_drewN ?_ _ | refine blk_drew ?_ | refine blk_alloc ?_ _)); refine blk_far ?_ NB203_223.out _; (with_reducible repeat (first | refine blk_drewN ?_ _ | refine blk_drew ?_ | refine blk_alloc ?_ _)); refine blk_far ?_ NB203_223.out _; (with_reducible repeat (first | refine blk_drewN ?_ _ | refine blk_drew ?_ | refine blk_alloc ?_ _)); refine blk_far ?_ NB203_223.out _; (with_reducible repeat (first | refine blk_drewN ?_ _ | refine blk_drew ?_ | refine blk_alloc ?_ _)); refine blk_far ?_ NB203_223.out _; (with_reducible repeat (first | refine blk_drewN ?_ _ | refine blk_drew ?_ | refine blk_alloc ?_ _)); refine blk_far ?_ NB203_223.out _; (with_reducible repeat (first | refine blk_drewN ?_ _ | refine blk_drew ?_ | refine blk_alloc ?_ _)); refine blk_far ?_ NB203_223.out _; (with_reducible repeat (first | refine blk_drewN ?_ _ | refine blk_drew ?_ | refine blk_alloc ?_ _)); exact BK203.out⟩, ⟨by (with_reducible repeat (first | refine blk_drewN ?_ _ | refine blk_drew ?_ | refine blk_alloc ?_ _)); refine blk_put (cs := #[.int .i64 t212, .string t213, .string t214, .int .i64 t215, .int .i64 t216, .int .i64 t217, .int .i64 t218, .slice Ao45 x211007_3.length co45]) ?_ 7 _ rfl; (with_reducible repeat (first | refine blk_drewN ?_ _ | refine blk_drew ?_ | refine blk_alloc ?_ _)); refine blk_put (cs := #[.int .i64 t212, .string t213, .string t214, .int .i64 t215, .int .i64 t216, .int .i64 t217, .int .i64 x211006_3, .slice Ao45 x211007_3.length co45]) ?_ 6 _ rfl; (with_reducible repeat (first | refine blk_drewN ?_ _ | refine blk_drew ?_ | refine blk_alloc ?_ _)); refine blk_put (cs := #[.int .i64 t212, .string t213, .string t214, .int .i64 t215, .int .i64 t216, .int .i64 x211005_3, .int .i64 x211006_3, .slice Ao45 x211007_3.length co45]) ?_ 5 _ rfl; (with_reducible repeat (first | refine blk_drewN ?_ _ | refine blk_drew ?_ | refine blk_alloc ?_ _)); refine blk_put (cs := #[.int .i64 t212, .string t213, .string t214, .int .i64 t215, .int .i64 x211004_3, .int .i64 x211005_3, .int .i64 x211006_3, .slice Ao45 x211007_3.length co45]) ?_ 4 _ rfl; (with_reducible repeat (first | refine blk_drewN ?_ _ | refine blk_drew ?_ | refine blk_alloc ?_ _)); refine blk_put (cs := #[.int .i64 t212, .string t213, .string t214, .int .i64 x211003_3, .int .i64 x211004_3, .int .i64 x211005_3, .int .i64 x211006_3, .slice Ao45 x211007_3.length co45]) ?_ 3 _ rfl; (with_reducible repeat (first | refine blk_drewN ?_ _ | refine blk_drew ?_ | refine blk_alloc ?_ _)); refine blk_put (cs := #[.int .i64 t212, .string t213, .string x211002_3, .int .i64 x211003_3, .int .i64 x211004_3, .int .i64 x211005_3, .int .i64 x211006_3, .slice Ao45 x211007_3.length co45]) ?_ 2 _ rfl; (with_reducible repeat (first | refine blk_drewN ?_ _ | refine blk_drew ?_ | refine blk_alloc ?_ _)); refine blk_put (cs := #[.int .i64 t212, .string x211001_3, .string x211002_3, .int .i64 x211003_3, .int .i64 x211004_3, .int .i64 x211005_3, .int .i64 x211006_3, .slice Ao45 x211007_3.length co45]) ?_ 1 _ rfl; (with_reducible repeat (first | refine blk_drewN ?_ _ | refine blk_drew ?_ | refine blk_alloc ?_ _)); refine blk_put (cs := #[.int .i64 x211000_3, .string x211001_3, .string x211002_3, .int .i64 x211003_3, .int .i64 x211004_3, .int .i64 x211005_3, .int .i64 x211006_3, .slice Ao45 x211007_3.length co45]) ?_ 0 _ rfl; (with_reducible repeat (first | refine blk_drewN ?_ _ | refine blk_drew ?_ | refine blk_alloc ?_ _)); refine blk_far ?_ NB210_223.out _; (with_reducible repeat (first | refine blk_drewN ?_ _ | refine blk_drew ?_ | refine blk_alloc ?_ _)); refine blk_far ?_ NB210_223.out _; (with_reducible repeat (first | refine blk_drewN ?_ _ | refine blk_drew ?_ | refine blk_alloc ?_ _)); refine blk_far ?_ NB210_223.out _; (with_reducible repeat (first | refine blk_drewN ?_ _ | refine blk_drew ?_ | refine blk_alloc ?_ _)); refine blk_far ?_ NB210_223.out _; (with_reducible repeat (first | refine blk_drewN ?_ _ | refine blk_drew ?_ | refine blk_alloc ?_ _)); refine blk_far ?_ NB210_223.out _; (with_reducible repeat (first | refine blk_drewN ?_ _ | refine blk_drew ?_ | refine blk_alloc ?_ _)); refine blk_far ?_ NB210_223.out _; (with_reducible repeat (first | refine blk_drewN ?_ _ | refine blk_drew ?_ | refine blk_alloc ?_ _)); refine blk_far ?_ NB210_223.out _; (with_reducible repeat (first | refine blk_drewN ?_ _ | refine blk_drew ?_ | refine blk_alloc ?_ _)); refine blk_far ?_ NB210_223.out _; (with_reducible repeat (first | refine blk_drewN ?_ _ | refine blk_drew ?_ | refine blk_alloc ?_ _)); exact BK210.out⟩, ⟨by repeat (first | (with_reducible first | exact HB.out | apply below_alloc | apply pw_below_drewN | apply below_drew1 | refine below_set ?_ GE203.out | refine below_set ?_ GE210.out | refine below_set ?_ GE223.out) | exact HB.out)⟩⟩
                        · rw [if_neg c22] at H
                          exact absurd H (by simp)
                      · rw [if_neg c21] at H
                        exact absurd H (by simp)
                    · rw [if_neg c18] at H
                      exact absurd H (by simp)
                  · rw [if_neg c17] at H
                    have c17b0 : decide (x10_3 < (t208.size : Int)) = false := decide_eq_false c17
                    clear c17
                    by_cases c65 : x9_3 = true
                    · subst c65
                      have H1 : (some (x211000_3, x211001_3, x211002_3, x211003_3, x211004_3, x211005_3, x211006_3, x211007_3, 0)) = some (r1, r2, r3, r4, r5, r6, r7, r8, r9) := by rw [if_pos rfl] at H; exact H
                      clear H
                      have H := H1
                      clear H1
                      simp only [Option.some.injEq, Prod.mk.injEq] at H
                      obtain ⟨rfl, rfl, rfl, rfl, rfl, rfl, rfl, rfl, rfl⟩ := H
                      have hnb66 := NB210_203.out
                      have hnc66 := NB203_210.out
                      have hcz67_0 : wr.cell? ⟨gb210, 0, none⟩ = some (.int .i64 x211000_3) := (blk_cell BK210.out 0).trans rfl
                      have hcz67_1 : wr.cell? ⟨gb210, 1, none⟩ = some (.string x211001_3) := (blk_cell BK210.out 1).trans rfl
                      have hcz67_2 : wr.cell? ⟨gb210, 2, none⟩ = some (.string x211002_3) := (blk_cell BK210.out 2).trans rfl
                      have hcz67_3 : wr.cell? ⟨gb210, 3, none⟩ = some (.int .i64 x211003_3) := (blk_cell BK210.out 3).trans rfl
                      have hcz67_4 : wr.cell? ⟨gb210, 4, none⟩ = some (.int .i64 x211004_3) := (blk_cell BK210.out 4).trans rfl
                      have hcz67_5 : wr.cell? ⟨gb210, 5, none⟩ = some (.int .i64 x211005_3) := (blk_cell BK210.out 5).trans rfl
                      have hcz67_6 : wr.cell? ⟨gb210, 6, none⟩ = some (.int .i64 x211006_3) := (blk_cell BK210.out 6).trans rfl
                      have hcz67_7 : wr.cell? ⟨gb210, 7, none⟩ = some (u211007) := (blk_cell BK210.out 7).trans rfl
                      have hfz67_0 := blk_frozen BK210.out 0
                      have hfz67_1 := blk_frozen BK210.out 1
                      have hfz67_2 := blk_frozen BK210.out 2
                      have hfz67_3 := blk_frozen BK210.out 3
                      have hfz67_4 := blk_frozen BK210.out 4
                      have hfz67_5 := blk_frozen BK210.out 5
                      have hfz67_6 := blk_frozen BK210.out 6
                      have hfz67_7 := blk_frozen BK210.out 7
                      have hcz68_0 : wr.cell? ⟨gb203, 0, none⟩ = some (.int .i64 x204000_1) := (blk_cell BK203.out 0).trans rfl
                      have hcz68_1 : wr.cell? ⟨gb203, 1, none⟩ = some (.string x204001_1) := (blk_cell BK203.out 1).trans rfl
                      have hcz68_2 : wr.cell? ⟨gb203, 2, none⟩ = some (.string x204002_1) := (blk_cell BK203.out 2).trans rfl
                      have hcz68_3 : wr.cell? ⟨gb203, 3, none⟩ = some (.int .i64 x204003_1) := (blk_cell BK203.out 3).trans rfl
                      have hcz68_4 : wr.cell? ⟨gb203, 4, none⟩ = some (.int .i64 x204004_1) := (blk_cell BK203.out 4).trans rfl
                      have hcz68_5 : wr.cell? ⟨gb203, 5, none⟩ = some (.int .i64 x204005_1) := (blk_cell BK203.out 5).trans rfl
                      have hcz68_6 : wr.cell? ⟨gb203, 6, none⟩ = some (.int .i64 x204006_1) := (blk_cell BK203.out 6).trans rfl
                      have hcz68_7 : wr.cell? ⟨gb203, 7, none⟩ = some (.slice none 0 0) := (blk_cell BK203.out 7).trans rfl
                      have hfz68_0 := blk_frozen BK203.out 0
                      have hfz68_1 := blk_frozen BK203.out 1
                      have hfz68_2 := blk_frozen BK203.out 2
                      have hfz68_3 := blk_frozen BK203.out 3
                      have hfz68_4 := blk_frozen BK203.out 4
                      have hfz68_5 := blk_frozen BK203.out 5
                      have hfz68_6 := blk_frozen BK203.out 6
                      have hfz68_7 := blk_frozen BK203.out 7
                      obtain ⟨Ao69, co69, eo69⟩ := Kd.R_slice HO_211007.out
                      subst eo69
                      go_wp2
                      refine bodyPost_ret (results_ct rfl _ _ gb203 28 #[.int .i64 x211000_3, .string x211001_3, .string x211002_3, .int .i64 x211003_3, .int .i64 x211004_3, .int .i64 x211005_3, .int .i64 x211006_3, .slice Ao69 x211007_3.length co69] (0, 0) _ rfl (by (with_reducible repeat (first | refine blk_drewN ?_ _ | refine blk_drew ?_ | refine blk_alloc ?_ _)); refine blk_put (cs := #[.int .i64 x211000_3, .string x211001_3, .string x211002_3, .int .i64 x211003_3, .int .i64 x211004_3, .int .i64 x211005_3, .int .i64 x211006_3, .slice none 0 0]) ?_ 7 _ rfl; (with_reducible repeat (first | refine blk_drewN ?_ _ | refine blk_drew ?_ | refine blk_alloc ?_ _)); refine blk_put (cs := #[.int .i64 x211000_3, .string x211001_3, .string x211002_3, .int .i64 x211003_3, .int .i64 x211004_3, .int .i64 x211005_3, .int .i64 x204006_1, .slice none 0 0]) ?_ 6 _ rfl; (with_reducible repeat (first | refine blk_drewN ?_ _ | refine blk_drew ?_ | refine blk_alloc ?_ _)); refine blk_put (cs := #[.int .i64 x211000_3, .string x211001_3, .string x211002_3, .int .i64 x211003_3, .int .i64 x211004_3, .int .i64 x204005_1, .int .i64 x204006_1, .slice none 0 0]) ?_ 5 _ rfl; (with_reducible repeat (first | refine blk_drewN ?_ _ | refine blk_drew ?_ | refine blk_alloc ?_ _)); refine blk_put (cs := #[.int .i64 x211000_3, .string x211001_3, .string x211002_3, .int .i64 x211003_3, .int .i64 x204004_1, .int .i64 x204005_1, .int .i64 x204006_1, .slice none 0 0]) ?_ 4 _ rfl; (with_reducible repeat (first | refine blk_drewN ?_ _ | refine blk_drew ?_ | refine blk_alloc ?_ _)); refine blk_put (cs := #[.int .i64 x211000_3, .string x211001_3, .string x211002_3, .int .i64 x204003_1, .int .i64 x204004_1, .int .i64 x204005_1, .int .i64 x204006_1, .slice none 0 0]) ?_ 3 _ rfl; (with_reducible repeat (first | refine blk_drewN ?_ _ | refine blk_drew ?_ | refine blk_alloc ?_ _)); refine blk_put (cs := #[.int .i64 x211000_3, .string x211001_3, .string x204002_1, .int .i64 x204003_1, .int .i64 x204004_1, .int .i64 x204005_1, .int .i64 x204006_1, .slice none 0 0]) ?_ 2 _ rfl; (with_reducible repeat (first | refine blk_drewN ?_ _ | refine blk_drew ?_ | refine blk_alloc ?_ _)); refine blk_put (cs := #[.int .i64 x211000_3, .string x204001_1, .string x204002_1, .int .i64 x204003_1, .int .i64 x204004_1, .int .i64 x204005_1, .int .i64 x204006_1, .slice none 0 0]) ?_ 1 _ rfl; (with_reducible repeat (first | refine blk_drewN ?_ _ | refine blk_drew ?_ | refine blk_alloc ?_ _)); refine blk_put (cs := #[.int .i64 x204000_1, .string x204001_1, .string x204002_1, .int .i64 x204003_1, .int .i64 x204004_1, .int .i64 x204005_1, .int .i64 x204006_1, .slice none 0 0]) ?_ 0 _ rfl; (with_reducible repeat (first | refine blk_drewN ?_ _ | refine blk_drew ?_ | refine blk_alloc ?_ _)); exact BK203.out) Tryd.underlying28 rfl (by kernel_rfl)) rfl ?_
                      exact ⟨_, by first | rfl | (simp [errW_none, errW_some] <;> rfl) | (simp [*, errW_none, errW_some] <;> rfl), by (with_reducible repeat (first | apply Kd.R_alloc | apply Kd.R_drewN | apply Kd.R_drew)); exact Kd.R_mono (Kd.R_far (p := ⟨gb203, 7, none⟩) (Kd.R_far (p := ⟨gb203, 6, none⟩) (Kd.R_far (p := ⟨gb203, 5, none⟩) (Kd.R_far (p := ⟨gb203, 4, none⟩) (Kd.R_far (p := ⟨gb203, 3, none⟩) (Kd.R_far (p := ⟨gb203, 2, none⟩) (Kd.R_far (p := ⟨gb203, 1, none⟩) (Kd.R_far (p := ⟨gb203, 0, none⟩) (Kd.R_types HO_211007.out BK203.out (by decide)) (fun _ hk => hk.2) (.int .i64 x211000_3)) (fun _ hk => hk.2) (.string x211001_3)) (fun _ hk => hk.2) (.string x211002_3)) (fun _ hk => hk.2) (.int .i64 x211003_3)) (fun _ hk => hk.2) (.int .i64 x211004_3)) (fun _ hk => hk.2) (.int .i64 x211005_3)) (fun _ hk => hk.2) (.int .i64 x211006_3)) (fun _ hk => hk.2) (.slice Ao69 x211007_3.length co69)) (fun _ hk => trivial), by repeat (first | (with_reducible first | exact HB.out | apply below_alloc | apply pw_below_drewN | apply below_drew1 | refine below_set ?_ GE203.out | refine below_set ?_ GE210.out) | exact HB.out)⟩
                    · replace c65 := Bool.eq_false_iff.mpr c65
                      subst c65
                      have H1 : (oublietteref39_Parse.l0 k3 t204 (wrap64 (x5_1 + 1))) = some (r1, r2, r3, r4, r5, r6, r7, r8, r9) := by rw [if_neg (show ¬ (false = true) by decide)] at H; exact H
                      clear H
                      have H := H1
                      clear H1
                      have H' := Aside0.mk H
                      clear H
                      go_wp2
                      go_roundg k3
                      case measure => have := HK1.out; have := HJ6.out; have := HK3.out; omega
                      case rel => exact ⟨(wrap64 (x5_1 + 1)), (x204000_1), (x204001_1), (x204002_1), (x204003_1), (x204004_1), (x204005_1), (x204006_1), (by first | rfl | (simp; done) | (simp [*]; done)), H', ⟨by have := HK1.out; have := HJ6.out; have := HK3.out; omega⟩, ⟨by (with_reducible repeat (first | apply Kd.R_alloc | apply Kd.R_drewN | apply Kd.R_drew)); exact HO_4.out⟩, ⟨by (with_reducible repeat (first | refine blk_drewN ?_ _ | refine blk_drew ?_ | refine blk_alloc ?_ _)); exact BK203.out⟩, ⟨by repeat (first | (with_reducible first | exact HB.out | apply below_alloc | apply pw_below_drewN | apply below_drew1 | refine below_set ?_ GE203.out | refine below_set ?_ GE210.out) | exact HB.out)⟩⟩
      · rw [if_neg c5] at H
        have c5b0 : decide (x5_1 ≤ 9) = false := decide_eq_false c5
        clear c5
        simp only [Option.some.injEq, Prod.mk.injEq] at H
        obtain ⟨rfl, rfl, rfl, rfl, rfl, rfl, rfl, rfl, rfl⟩ := H
        have hcz70_0 : wr.cell? ⟨gb203, 0, none⟩ = some (.int .i64 x204000_1) := (blk_cell BK203.out 0).trans rfl
        have hcz70_1 : wr.cell? ⟨gb203, 1, none⟩ = some (.string x204001_1) := (blk_cell BK203.out 1).trans rfl
        have hcz70_2 : wr.cell? ⟨gb203, 2, none⟩ = some (.string x204002_1) := (blk_cell BK203.out 2).trans rfl
        have hcz70_3 : wr.cell? ⟨gb203, 3, none⟩ = some (.int .i64 x204003_1) := (blk_cell BK203.out 3).trans rfl
        have hcz70_4 : wr.cell? ⟨gb203, 4, none⟩ = some (.int .i64 x204004_1) := (blk_cell BK203.out 4).trans rfl
        have hcz70_5 : wr.cell? ⟨gb203, 5, none⟩ = some (.int .i64 x204005_1) := (blk_cell BK203.out 5).trans rfl
        have hcz70_6 : wr.cell? ⟨gb203, 6, none⟩ = some (.int .i64 x204006_1) := (blk_cell BK203.out 6).trans rfl
        have hcz70_7 : wr.cell? ⟨gb203, 7, none⟩ = some (.slice none 0 0) := (blk_cell BK203.out 7).trans rfl
        have hfz70_0 := blk_frozen BK203.out 0
        have hfz70_1 := blk_frozen BK203.out 1
        have hfz70_2 := blk_frozen BK203.out 2
        have hfz70_3 := blk_frozen BK203.out 3
        have hfz70_4 := blk_frozen BK203.out 4
        have hfz70_5 := blk_frozen BK203.out 5
        have hfz70_6 := blk_frozen BK203.out 6
        have hfz70_7 := blk_frozen BK203.out 7
        go_wp2
        refine bodyPost_ret (results_ct rfl _ _ gb203 28 #[.int .i64 0, .string (⟨#[]⟩ : ByteArray), .string (⟨#[]⟩ : ByteArray), .int .i64 0, .int .i64 0, .int .i64 0, .int .i64 0, .slice none 0 0] (0, 0) _ rfl (by (with_reducible repeat (first | refine blk_drewN ?_ _ | refine blk_drew ?_ | refine blk_alloc ?_ _)); refine blk_put (cs := #[.int .i64 0, .string (⟨#[]⟩ : ByteArray), .string (⟨#[]⟩ : ByteArray), .int .i64 0, .int .i64 0, .int .i64 0, .int .i64 0, .slice none 0 0]) ?_ 7 _ rfl; (with_reducible repeat (first | refine blk_drewN ?_ _ | refine blk_drew ?_ | refine blk_alloc ?_ _)); refine blk_put (cs := #[.int .i64 0, .string (⟨#[]⟩ : ByteArray), .string (⟨#[]⟩ : ByteArray), .int .i64 0, .int .i64 0, .int .i64 0, .int .i64 x204006_1, .slice none 0 0]) ?_ 6 _ rfl; (with_reducible repeat (first | refine blk_drewN ?_ _ | refine blk_drew ?_ | refine blk_alloc ?_ _)); refine blk_put (cs := #[.int .i64 0, .string (⟨#[]⟩ : ByteArray), .string (⟨#[]⟩ : ByteArray), .int .i64 0, .int .i64 0, .int .i64 x204005_1, .int .i64 x204006_1, .slice none 0 0]) ?_ 5 _ rfl; (with_reducible repeat (first | refine blk_drewN ?_ _ | refine blk_drew ?_ | refine blk_alloc ?_ _)); refine blk_put (cs := #[.int .i64 0, .string (⟨#[]⟩ : ByteArray), .string (⟨#[]⟩ : ByteArray), .int .i64 0, .int .i64 x204004_1, .int .i64 x204005_1, .int .i64 x204006_1, .slice none 0 0]) ?_ 4 _ rfl; (with_reducible repeat (first | refine blk_drewN ?_ _ | refine blk_drew ?_ | refine blk_alloc ?_ _)); refine blk_put (cs := #[.int .i64 0, .string (⟨#[]⟩ : ByteArray), .string (⟨#[]⟩ : ByteArray), .int .i64 x204003_1, .int .i64 x204004_1, .int .i64 x204005_1, .int .i64 x204006_1, .slice none 0 0]) ?_ 3 _ rfl; (with_reducible repeat (first | refine blk_drewN ?_ _ | refine blk_drew ?_ | refine blk_alloc ?_ _)); refine blk_put (cs := #[.int .i64 0, .string (⟨#[]⟩ : ByteArray), .string x204002_1, .int .i64 x204003_1, .int .i64 x204004_1, .int .i64 x204005_1, .int .i64 x204006_1, .slice none 0 0]) ?_ 2 _ rfl; (with_reducible repeat (first | refine blk_drewN ?_ _ | refine blk_drew ?_ | refine blk_alloc ?_ _)); refine blk_put (cs := #[.int .i64 0, .string x204001_1, .string x204002_1, .int .i64 x204003_1, .int .i64 x204004_1, .int .i64 x204005_1, .int .i64 x204006_1, .slice none 0 0]) ?_ 1 _ rfl; (with_reducible repeat (first | refine blk_drewN ?_ _ | refine blk_drew ?_ | refine blk_alloc ?_ _)); refine blk_put (cs := #[.int .i64 x204000_1, .string x204001_1, .string x204002_1, .int .i64 x204003_1, .int .i64 x204004_1, .int .i64 x204005_1, .int .i64 x204006_1, .slice none 0 0]) ?_ 0 _ rfl; (with_reducible repeat (first | refine blk_drewN ?_ _ | refine blk_drew ?_ | refine blk_alloc ?_ _)); exact BK203.out) Tryd.underlying28 rfl (by kernel_rfl)) rfl ?_
        exact ⟨_, by first | rfl | (simp [errW_none, errW_some] <;> rfl) | (simp [*, errW_none, errW_some] <;> rfl), by first | exact Kd.R_nil _ _ _ _ _ | exact Kd.N_nil _ _ _ _ _ | exact Kd.V_nil _ _ _ _ _ | exact Kd.Q_nil _ _ _ _ _ | exact Kd.S_nil _ _ _ _ _, by repeat (first | (with_reducible first | exact HB.out | apply below_alloc | apply pw_below_drewN | apply below_drew1 | refine below_set ?_ GE203.out) | exact HB.out)⟩
end Go.Proofs.YtdcknajlioalgaaDoor.QD
