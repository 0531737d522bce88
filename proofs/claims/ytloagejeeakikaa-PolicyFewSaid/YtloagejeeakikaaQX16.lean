-- Written by a program of this session (px.py) out of the translation's print. Not trusted: Lean checks it.
import Derived.Test.YtloagejeeakikaaQX0
import Derived.Test.YtloagejeeakikaaQX3
import Derived.Test.YtloagejeeakikaaQX11
import Derived.Test.YtloagejeeakikaaQX15
import Derived.RangeFuncNested
import Derived.RangeFuncBound
import Derived.RangeFuncCalls
import Derived.RangeFuncLeaves
import Derived.RangeFuncBox
import Derived.Shelf.Abstract
import Derived.WalkKit
import Derived.OwnWalkIn
import Derived.TacticsInMore
import Derived.LoopNIn
import Derived.LoopIn
import Derived.Maps.AppendAt
namespace Go.Proofs.Ytloagejeeakikaa.QX
open Go.RowKit Go.Proofs.YtloagejeeakikaaW.PrintWords Go.Proofs.YtloagejeeakikaaW.PrintLast Go.Proofs.YtloagejeeakikaaW.PrintMore
attribute [local go_sem] max2_int min2_int max_two min_two max_three min_three max_four min_four   -- for this text's walks alone
set_option linter.unusedVariables false
set_option linter.unusedSimpArgs false

/-! ### policy_Leaving: function 11 -/
open Go.Shelf
attribute [local go_sem] Oper.semAt_some
def leavL (least : Int) (l : List Int) : List Int := l.takeWhile fun x => decide (x < least)
theorem takeWhile_all {α : Type} (p : α → Bool) : ∀ l : List α, (∀ x ∈ l, p x = true) → l.takeWhile p = l
  | [], _ => rfl
  | a :: l, h => by rw [List.takeWhile_cons, h a (by simp)]; simp [takeWhile_all p l (fun x hx => h x (by simp [hx]))]
theorem takeWhile_stop {α : Type} (p : α → Bool) : ∀ (l : List α) (x : α) (r : List α), (∀ y ∈ l, p y = true) → p x = false → (l ++ x :: r).takeWhile p = l
  | [], x, r, _, hx => by simp [hx]
  | a :: l, x, r, h, hx => by rw [List.cons_append, List.takeWhile_cons, h a (by simp)]; simp [takeWhile_stop p l x r (fun y hy => h y (by simp [hy])) hx]
theorem results_cellInts {fn : Func} {t : Tmp} (h : fn.results = #[.cell t 37]) (tmps : Array Value) (w : World) (p : Addr) (hp : tmps.getD t undef = .pointer (some p)) {v : Value} (hc : w.cell? p = some v) :
    (results fn tmps).run Try.prog w = .ok v w := by
  have hu := Try.underlying37
  simp [results, h]
  rw [show tmps[t]?.getD undef = .pointer (some p) by simpa using hp]
  go_simp
/-- What 'out = append(out, x)' leaves, where out lies in a box below the row's own blocks. -/
theorem appendedBelow {W w1 : World} {n₀ B : Nat} {t e : TypeId} {size : Nat} {v v' : Value} {k m : Nat} {xs ys : List Value} {tmp : Obj}
    (hv : Boxed W B t v) (hrow : W.ownsRow n₀ e size v k xs) (hn₀ : n₀ ≤ W.heap.size) (hB : B < n₀)
    (hown' : w1.ownsRow n₀ e size v' m ys) (hgrow : (W.alloc tmp).grownBy w1 v.ownBlock) :
    Boxed w1 B t v ∧ Boxed (w1.setCell ⟨B, 0, none⟩ v') B t v' ∧ (w1.setCell ⟨B, 0, none⟩ v').ownsRow n₀ e size v' m ys ∧ KeepsOthers W (w1.setCell ⟨B, 0, none⟩ v') ∧
      (∀ c, c < n₀ → c ≠ B → (w1.setCell ⟨B, 0, none⟩ v').heap[c]? = W.heap[c]?) ∧ (∀ n₁, n₁ ≤ B → Below n₁ W (w1.setCell ⟨B, 0, none⟩ v')) := by
  have hne : some B ≠ v.ownBlock := fun e' => by have := own_base hrow B e'.symm; omega
  have hne' : some B ≠ v'.ownBlock := fun e' => by have := own_base hown' B e'.symm; omega
  have hv1 : Boxed w1 B t v := (hv.alloc tmp).kept hgrow hne
  refine ⟨hv1, hv1.set v', hown'.kept (grownBy_setCell' w1 B v') (.inr hne'.symm), ?_, ?_, ?_⟩
  · refine ((KeepsOthers.alloc W tmp).trans (KeepsOthers.of_grownBy hgrow fun j o ej hj => ?_)).trans (KeepsOthers.setCell _ _ _)
    rcases (hrow.alloc tmp).2 with ⟨rfl, _⟩ | ⟨g, cap, cur, rfl, _, hgb, _⟩
    · simp [Value.ownBlock] at ej
    · obtain rfl : g = j := by simpa [Value.ownBlock] using ej
      rw [hgb] at hj; cases hj; rfl
  · intro c hc hcB
    have h1 : (w1.setCell ⟨B, 0, none⟩ v').heap[c]? = w1.heap[c]? := Below.heap_setCell _ _ _ c hcB
    have h2 := hgrow.block c (by simp; omega) (fun e' => by have := own_base hrow c e'.symm; omega)
    rw [h1, h2]
    exact Below.heap_alloc _ _ _ (by omega)
  · intro n₁ hn₁
    refine (((Below.refl n₁ W).alloc (by omega) tmp).grown hgrow (by simp; omega) fun j ej => ?_).setCell (p := ⟨B, 0, none⟩) hn₁ v'
    have := own_base hrow j ej
    omega
set_option maxRecDepth 100000 in
set_option maxHeartbeats 4000000 in
theorem leaving_in (n : Nat) (hn : 4 ≤ n) (p0 p1 e o s ep least : Int) (d : ByteArray) (t : Bool) (ho : policy_Oldest.f p0 p1 ep = some least) (hr : policy_right.f e o s d = some t) (hb0 : t = true → 0 ≤ o ∧ e ≤ 1073741824) (w : World)
    (hlen : keptN t e o ≤ 10000000) :
    CallsIn .wide n Try.prog 11 #[.agg #[.int .i64 p0, .int .i64 p1], .agg #[.int .i64 e, .int .i64 o, .int .i64 s, .string d], .int .i64 ep] w fun e' W' => ∃ v, e' = .returned v ∧ W'.ownsRow w.heap.size 3 1 v (leavL least (fromL o (keptN t e o))).length ((leavL least (fromL o (keptN t e o))).map (Value.int .i64)) ∧ Below w.heap.size w W' := by
  have h1 : 1 ≤ n := by omega
  obtain ⟨i0, hi, hz0, hz1, hz2⟩ := info_parts infoI
  have hu27 := Try.underlying27
  have hu31 := Try.underlying31
  refine callsIn_of_wp_marks Try.func11 rfl trivial ?_ rfl
  simp only [Try.ntmps11, List.size_toArray, List.length_cons, List.length_nil, Nat.reduceAdd, Nat.reduceSub, Array.replicate_succ, Array.replicate_zero, List.push_toArray, List.append_toArray, List.nil_append, List.cons_append]
  gi_wp2
  refine ⟨trivial, ?_⟩
  obtain ⟨w1, hw1⟩ : ∃ w1, ((w.alloc (.cells #[.int .i64 p0, .int .i64 p1] 31)).alloc (.cells #[.int .i64 e, .int .i64 o, .int .i64 s, .string d] 27)).alloc (.cells #[.slice none 0 0] 37) = w1 := ⟨_, rfl⟩
  have bH : w1.heap[w.heap.size + 1]? = some (.cells #[.int .i64 e, .int .i64 o, .int .i64 s, .string d] 27 (0, 0)) := by
    rw [← hw1, Below.heap_alloc _ _ _ (by simp)]
    have := World.alloc_heap_new (w.alloc (.cells #[.int .i64 p0, .int .i64 p1] 31)) (.cells #[.int .i64 e, .int .i64 o, .int .i64 s, .string d] 27 (0, 0))
    rwa [World.size_alloc] at this
  have bO : Boxed w1 (w.heap.size + 1 + 1) 37 (.slice none 0 0) := by
    rw [← hw1]
    have := Boxed.new ((w.alloc (.cells #[.int .i64 p0, .int .i64 p1] 31)).alloc (.cells #[.int .i64 e, .int .i64 o, .int .i64 s, .string d] 27)) 37 (.slice none 0 0)
    simpa using this
  have hB1 : Below w.heap.size w w1 := by
    rw [← hw1]
    exact (((Below.refl _ w).alloc (Nat.le_refl _) _).alloc (by simp) _).alloc (by simp; omega) _
  have hs1 : w1.heap.size = w.heap.size + 3 := by rw [← hw1]; simp
  rw [hw1]
  clear hw1
  refine (callsIn_wide.2 (policy_Oldest.calls p0 p1 ep least w1 ho)).mono ?_
  rintro e' w2 ⟨rfl, hd2⟩
  have bH2 := blk_below bH hd2
  have bO2 : Boxed w2 (w.heap.size + 1 + 1) 37 (.slice none 0 0) := blk_below bO hd2
  have hB2 : Below w.heap.size w w2 := hB1.trans (hd2.mono (by omega))
  have hs2 : w.heap.size + 3 ≤ w2.heap.size := by have := hd2.size; omega
  have c0 : (w2.alloc (.cells #[.int .i64 least] 3)).cell? ⟨w.heap.size + 1, 0, none⟩ = some (.int .i64 e) := cell_later _ ((blk_cell bH2 0).trans rfl)
  have c1 : (w2.alloc (.cells #[.int .i64 least] 3)).cell? ⟨w.heap.size + 1, 1, none⟩ = some (.int .i64 o) := cell_later _ ((blk_cell bH2 1).trans rfl)
  have c2 : (w2.alloc (.cells #[.int .i64 least] 3)).cell? ⟨w.heap.size + 1, 2, none⟩ = some (.int .i64 s) := cell_later _ ((blk_cell bH2 2).trans rfl)
  have c3 : (w2.alloc (.cells #[.int .i64 least] 3)).cell? ⟨w.heap.size + 1, 3, none⟩ = some (.string d) := cell_later _ ((blk_cell bH2 3).trans rfl)
  gi_wp2
  refine ⟨trivial, ?_⟩
  have bL : Boxed (w2.alloc (.cells #[.int .i64 least] 3)) w2.heap.size 3 (.int .i64 least) := Boxed.new _ _ _
  have bO3 := bO2.alloc (.cells #[.int .i64 least] 3)
  have hB3 : Below w.heap.size w (w2.alloc (.cells #[.int .i64 least] 3)) := hB2.alloc hB2.size _
  refine (epochs_in e o s d _ _).mono ?_
  rintro e' w4 ⟨rfl, rfl⟩
  have bH4 : Boxed ((w2.alloc (.cells #[.int .i64 least] 3)).alloc (.cells #[.int .i64 e, .int .i64 o, .int .i64 s, .string d] 27)) w2.heap.size 3 (.int .i64 least) := bL.alloc _
  have bO4 := bO3.alloc (.cells #[.int .i64 e, .int .i64 o, .int .i64 s, .string d] 27 (0, 0))
  have bE4 := World.alloc_heap_new (w2.alloc (.cells #[.int .i64 least] 3)) (.cells #[.int .i64 e, .int .i64 o, .int .i64 s, .string d] 27 (0, 0))
  have hB4 := hB3.alloc hB3.size (.cells #[.int .i64 e, .int .i64 o, .int .i64 s, .string d] 27 (0, 0))
  have hs4 : ((w2.alloc (.cells #[.int .i64 least] 3)).alloc (.cells #[.int .i64 e, .int .i64 o, .int .i64 s, .string d] 27)).heap.size = w2.heap.size + 2 := by simp
  rw [World.size_alloc] at bE4 ⊢
  obtain ⟨w5, hw5⟩ : ∃ w5, (w2.alloc (.cells #[.int .i64 least] 3)).alloc (.cells #[.int .i64 e, .int .i64 o, .int .i64 s, .string d] 27) = w5 := ⟨_, rfl⟩
  rw [hw5] at bH4 bO4 bE4 hB4 hs4 ⊢
  clear hw5
  gi_wp2
  have hs5 : w.heap.size + 3 ≤ w2.heap.size := hs2
  refine wpIn_rangeFunc_ownG rfl h1 (gf := 24) (lb := #[.pointer (some ⟨w2.heap.size + 1, 0, none⟩)]) rfl trivial (enters_of Try.func24 (by kernel_rfl) rfl)
    (epochs_stops (n - 1) (by omega) (w2.heap.size + 1) e o s d t hr hb0 _ (by omega) bE4) keptAt_t (keptAt_b (by omega)) (Below.refl _ _) (fun _ => rfl)
    (fun pre W => (∃ v, Boxed W (w.heap.size + 1 + 1) 37 v ∧ W.ownsRow w5.heap.size 3 1 v pre.length (pre.map (Value.int .i64)) ∧ ∀ y ∈ pre, y < least) ∧ Boxed W w2.heap.size 3 (.int .i64 least) ∧ Below w.heap.size w5 W)
    (fun c pre W => (∃ v, Boxed W (w.heap.size + 1 + 1) 37 v ∧ W.ownsRow w5.heap.size 3 1 v pre.dropLast.length (pre.dropLast.map (Value.int .i64)) ∧ (c = .exit 0 ∧ (∀ y ∈ pre.dropLast, y < least) ∧ ∃ x, pre = pre.dropLast ++ [x] ∧ least ≤ x)) ∧ Below w.heap.size w5 W)
    (OwnFrom.and (Own.from (holdsRow_own w5.heap.size (w.heap.size + 1 + 1) 37 3 1 (fun pre : List Int => pre.length) (fun pre => pre.map (Value.int .i64)) (fun pre _ => ∀ y ∈ pre, y < least)) _) (OwnFrom.and (Own.from (boxed_own w2.heap.size 3 (fun _ => .int .i64 least)) _) (ownFrom_below (by omega) (by omega))))
    (fun c => OwnFrom.and (Own.from (holdsRow_own w5.heap.size (w.heap.size + 1 + 1) 37 3 1 (fun pre : List Int => pre.dropLast.length) (fun pre => pre.dropLast.map (Value.int .i64)) (fun pre _ => c = .exit 0 ∧ (∀ y ∈ pre.dropLast, y < least) ∧ ∃ x, pre = pre.dropLast ++ [x] ∧ least ≤ x)) _) (ownFrom_below (by omega) (by omega)))
    ⟨⟨_, bO4, World.ownsRow_nil _ _ _ _, by simp⟩, bH4, Below.refl _ _⟩
    (fun x => { tmps := #[.agg #[.int .i64 p0, .int .i64 p1], .agg #[.int .i64 e, .int .i64 o, .int .i64 s, .string d], .int .i64 ep, .pointer (some ⟨w.heap.size, 0, none⟩), .pointer (some ⟨w.heap.size + 1, 0, none⟩), undef, .pointer (some ⟨w.heap.size + 1 + 1, 0, none⟩), .pointer (some ⟨w2.heap.size, 0, none⟩), .int .i64 x, .agg #[.int .i64 p0, .int .i64 p1], .int .i64 ep, .int .i64 least, .agg #[.int .i64 e, .int .i64 o, .int .i64 s, .string d], .func (.func 24) #[] #[.pointer (some ⟨w2.heap.size + 1, 0, none⟩)], .int .i64 x, undef, undef, undef, undef, undef, undef, undef, undef], defers := [] }) ?assign ?body ?done ?stop
  case assign =>
    intro l x W K hK
    gi_wp2
    exact hK
  case body =>
    rintro l pre x W ⟨⟨v, hv, hrow, hall⟩, hL, hB⟩ hlt
    have hcL := hL.cell
    have hc := hv.cell
    have hsW : w5.heap.size ≤ W.heap.size := hB.size
    by_cases hx : x ≥ least
    · have hxb : decide (x ≥ least) = true := decide_eq_true hx
      gi_wp2
      exact ⟨KeepsFrom.refl _ _, ⟨v, hv, by simpa using hrow, rfl, by simpa using hall, x, by simp, hx⟩, hB⟩
    · have hxb : decide (x ≥ least) = false := decide_eq_false hx
      gi_wp2_with (gi_at_builtin; refine wpListIn_append_own _ rfl _ _ 37 rfl w5.heap.size 3 i0 (.int .i64 0) 1 8 Try.underlying37 hi hz0 hz1 hz2 rfl (by decide) _ _ _ rfl (hrow.alloc _) ⟨W.heap.size, 0, none⟩ 1 1 [.int .i64 x] rfl rfl (cell_one_new _ _ _) (by simp [Value.oneCell']) (by simp [maxLen]; omega) (by omega) (by simp; omega) ?_; intro v' w1 hown' hgrow _; obtain ⟨g', cap', rfl⟩ := ownsRow_succ hown'; obtain ⟨hv1, hv2, hr2, hk2, hb2, hbb2⟩ := appendedBelow hv hrow hsW (by omega) hown' hgrow; have hc1 := hv1.cell; have hf1 := hv1.frozen)
      exact ⟨hk2.from _, hb2 _ (by omega) (by omega), ⟨_, hv2, by rw [List.length_append, List.map_append]; rw [hs4] at hr2; exact hr2, by intro y hy; simp at hy; rcases hy with hy | rfl; exact hall y hy; omega⟩, (hb2 _ (by omega) (by omega)).trans hL, hB.trans (hbb2 _ (by omega))⟩
  case done =>
    rintro D ys W hD rfl ⟨⟨v, hv, hrow, hall⟩, hL, hB⟩ hK
    have hc := hv.cell
    have hf := hv.frozen
    obtain ⟨A, c, rfl⟩ := own_slice hrow
    have hB5 : Below w.heap.size w W := hB4.trans hB
    have e1 : leavL least (fromL o (keptN t e o)) = fromL o (keptN t e o) := takeWhile_all _ _ (fun y hy => decide_eq_true (hall y hy))
    have e2 := Aside0.mk e1
    clear e1 hall
    gi_wp2
    rw [e2.out]
    have hK2 := (KeepsOthers.setCell W ⟨w.heap.size + 1 + 1, 0, none⟩ (.slice A (fromL o (keptN t e o)).length c)).same D _ hK rfl
    have hv2 := hv.set (.slice A (fromL o (keptN t e o)).length c)
    have hne : some (w.heap.size + 1 + 1) ≠ (Value.slice A (fromL o (keptN t e o)).length c).ownBlock := fun e' => by have := own_base hrow _ e'.symm; omega
    have hr2 := own_setCell hrow (p := ⟨w.heap.size + 1 + 1, 0, none⟩) hne (.slice A (fromL o (keptN t e o)).length c)
    refine ⟨by simp, .inl ⟨_, _, rfl, run_takeDeferred hK2, ?_⟩⟩
    refine ⟨_, results_cellInts rfl _ _ ⟨w.heap.size + 1 + 1, 0, none⟩ rfl (cell_kept hv2.cell (grownBy_putObj' _ D (.deferred none)) (fun r e => by cases e; exact ⟨_, hK2, rfl⟩)), _, rfl, own_less (ownsRow_putObj hr2 _ hK2 rfl) (by omega), ?_⟩
    exact (hB5.setCell (p := ⟨w.heap.size + 1 + 1, 0, none⟩) (by simp; omega) _).trans (belowK_b (w := w) (Nat.le_refl _) _ D _ _ (by omega) hK2 rfl rfl)
  case stop =>
    rintro D c pre W hD ⟨k, hk, hpre⟩ ⟨⟨v, hv, hrow, rfl, hall, x, hx, hle⟩, hB⟩ hK
    have hc := hv.cell
    have hf := hv.frozen
    have hB5 : Below w.heap.size w W := hB4.trans hB
    have e1 : leavL least (fromL o (keptN t e o)) = pre.dropLast := by
      obtain ⟨r, hr⟩ := fromL_prefix o hk
      rw [← hpre, hx] at hr
      unfold leavL
      rw [← hr, List.append_assoc]
      exact takeWhile_stop _ _ _ _ (fun y hy => decide_eq_true (hall y hy)) (decide_eq_false (by omega))
    have e2 := Aside0.mk e1
    clear e1 hall hx hpre
    generalize pre.dropLast = q at hrow e2
    obtain ⟨A, c, rfl⟩ := own_slice hrow
    gi_wp2
    rw [e2.out]
    have hK2 := (KeepsOthers.setCell W ⟨w.heap.size + 1 + 1, 0, none⟩ (.slice A q.length c)).same D _ hK rfl
    have hv2 := hv.set (.slice A q.length c)
    have hne : some (w.heap.size + 1 + 1) ≠ (Value.slice A q.length c).ownBlock := fun e' => by have := own_base hrow _ e'.symm; omega
    have hr2 := own_setCell hrow (p := ⟨w.heap.size + 1 + 1, 0, none⟩) hne (.slice A q.length c)
    refine ⟨by simp, .inl ⟨_, _, rfl, run_takeDeferred hK2, ?_⟩⟩
    refine ⟨_, results_cellInts rfl _ _ ⟨w.heap.size + 1 + 1, 0, none⟩ rfl (cell_kept hv2.cell (grownBy_putObj' _ D (.deferred none)) (fun r e => by cases e; exact ⟨_, hK2, rfl⟩)), _, rfl, own_less (ownsRow_putObj hr2 _ hK2 rfl) (by omega), ?_⟩
    exact (hB5.setCell (p := ⟨w.heap.size + 1 + 1, 0, none⟩) (by simp; omega) _).trans (belowK_b (w := w) (Nat.le_refl _) _ D _ _ (by omega) hK2 rfl rfl)
def policy_Leaving.f (a0_0 a0_1 a1_0 a1_1 a1_2 : Int) (a1_3 : ByteArray) (a2 : Int) : Option (List Int) :=
  (policy_Oldest.f a0_0 a0_1 a2).bind fun least => (policy_right.f a1_0 a1_1 a1_2 a1_3).bind fun t => (keptL t a1_0 a1_1).bind fun l => some (leavL least l)
theorem policy_Leaving.calls (a0_0 a0_1 a1_0 a1_1 a1_2 : Int) (a1_3 : ByteArray) (a2 : Int) (r : List Int) (w : World) (h : policy_Leaving.f a0_0 a0_1 a1_0 a1_1 a1_2 a1_3 a2 = some r) :
    Calls Try.prog 11 #[.agg #[.int .i64 a0_0, .int .i64 a0_1], .agg #[.int .i64 a1_0, .int .i64 a1_1, .int .i64 a1_2, .string a1_3], .int .i64 a2] w fun e w' => ∃ v0_, e = .returned v0_ ∧ Kd.R (Kd.int .i64) 3 w' w.heap.size (fun _ => True) v0_ r ∧ Below w.heap.size w w' := by
  obtain ⟨least, ho, h⟩ := Option.bind_eq_some_iff.1 h
  obtain ⟨t, hr, h⟩ := Option.bind_eq_some_iff.1 h
  obtain ⟨l, hl, h⟩ := Option.bind_eq_some_iff.1 h
  obtain rfl := Option.some.inj h
  unfold keptL at hl
  by_cases hg : (t = true → 0 ≤ a1_1 ∧ a1_0 ≤ 1073741824) ∧ keptN t a1_0 a1_1 ≤ 10000000
  · rw [if_pos hg] at hl
    obtain rfl := Option.some.inj hl
    refine (callsIn_wide (n := 6)).1 ?_
    refine (leaving_in 6 (by omega) a0_0 a0_1 a1_0 a1_1 a1_2 a2 least a1_3 t ho hr hg.1 w hg.2).mono ?_
    rintro e' w' ⟨v, rfl, hrow, hbel⟩
    exact ⟨v, rfl, Kd.R_of_own hrow (fun _ _ => trivial), hbel⟩
  · rw [if_neg hg] at hl; cases hl

end Go.Proofs.Ytloagejeeakikaa.QX
