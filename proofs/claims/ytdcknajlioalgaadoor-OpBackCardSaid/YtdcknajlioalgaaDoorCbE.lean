/- Plain: texts cut at a byte; the reference's numbers, bytes and parts are the program's. -/
import Derived.Test.YtdcknajlioalgaaDoorCbA
import Derived.Test.YtdcknajlioalgaaDoorCbB
import Derived.Deep.WholeRow
import Derived.Test.YtdcknajlioalgaaDoorCbD
namespace Go.Proofs.YtdcknajlioalgaaDoor.QD
open Go.RowKit Go.Proofs.YtdcknajlioalgaaDoorW.PrintWords Go.Proofs.YtdcknajlioalgaaDoorW.PrintLast Go.Proofs.YtdcknajlioalgaaDoorW.PrintMore Go.Proofs.YtdcknajlioalgaaDoor.Hex
set_option linter.unusedVariables false
set_option linter.unusedSimpArgs false
def sayAcc : ByteArray := ⟨#[97, 99, 99, 101, 112, 116, 101, 100]⟩
def sayOth : ByteArray := ⟨#[111, 116, 104, 101, 114]⟩
def sayNot : ByteArray := ⟨#[110, 111, 116, 104, 105, 110, 103]⟩
theorem results_say {t : Tmp} {fn : Func} (h : fn.results = #[.cell t 129]) (tmps : Array Value) (w : World) (b : Nat) (hp : tmps.getD t undef = .pointer (some ⟨b, 0, none⟩)) {x0 x1 x2 x3 : Value}
    (hc : w.heap[b]? = some (.cells #[x0, x1, x2, x3] 129 (0, 0))) : (results fn tmps).run Tryd.prog w = .ok (.agg #[x0, x1, x2, x3]) w := by
  have hu := Tryd.underlying129
  have c0 : w.cell? ⟨b, 0, none⟩ = some x0 := by simp [World.cell?, hc]
  have c1 : w.cell? ⟨b, 1, none⟩ = some x1 := by simp [World.cell?, hc]
  have c2 : w.cell? ⟨b, 2, none⟩ = some x2 := by simp [World.cell?, hc]
  have c3 : w.cell? ⟨b, 3, none⟩ = some x3 := by simp [World.cell?, hc]
  simp [results, h]
  rw [show tmps[t]?.getD undef = .pointer (some ⟨b, 0, none⟩) by simpa using hp]
  go_simp
theorem sayings (w : World) : Calls Tryd.prog 64 #[] w fun e w' => e = .returned (.agg #[.string ⟨#[]⟩, .string sayAcc, .string sayOth, .string sayNot]) ∧ Below w.heap.size w w' := by
  go_enter Tryd.func64, Tryd.ntmps64
  go_wp2
  refine bodyPost_ret (results_say rfl _ _ w.heap.size rfl (heap_alloc_new _ _)) rfl ⟨rfl, below_alloc (Below.refl _ _) _⟩
end Go.Proofs.YtdcknajlioalgaaDoor.QD
namespace Go.Proofs.YtdcknajlioalgaaDoor.QD
open Go.RowKit Go.Proofs.YtdcknajlioalgaaDoorW.PrintWords Go.Proofs.YtdcknajlioalgaaDoorW.PrintLast Go.Proofs.YtdcknajlioalgaaDoorW.PrintMore Go.Proofs.YtdcknajlioalgaaDoor.Hex
set_option linter.unusedVariables false
set_option linter.unusedSimpArgs false
def sayS (v : Int) : ByteArray := if v = 1 then sayAcc else if v = 2 then sayOth else if v = 3 then sayNot else ⟨#[]⟩
def fieldP (G I : ByteArray) (E S N V : Int) (X : List Int) (sign : Int) : Option ByteArray :=
  if sign = 103 then op_part.f G else if sign = 105 then op_part.f I else if sign = 101 then op_count.f E else if sign = 115 then op_count.f S else if sign = 110 then op_count.f N
  else if sign = 118 then some (sayS V) else if sign = 120 then (if X.length = 32 then hex_Print.f X else some ⟨#[]⟩) else some ⟨#[]⟩
theorem alloc_lt (w : World) (o : Obj) : w.heap.size < (w.alloc o).heap.size := by
  unfold World.alloc
  show _ < (w.heap.push o).size
  rw [Array.size_push]
  exact Nat.lt_succ_self _
theorem cell_of {W : World} {b o e : Nat} {cells : Array Value} {x : Value} (h : W.heap[b]? = some (.cells cells e (0, 0))) (hx : cells[o]? = some x) : W.cell? ⟨b, o, none⟩ = some x := by
  simp [World.cell?, h, hx]
def FPost (r : ByteArray) (w : World) (e : Ending) (w' : World) : Prop := e = .returned (.string r) ∧ Below w.heap.size w w'
set_option maxRecDepth 100000 in
theorem opField (K : Int) (G I : ByteArray) (E S N V : Int) (A : Option Addr) (c n : Nat) (X : List Int) (sign : Int) (r : ByteArray) (w : World) (HLD : Laid w) (hn : X.length = n) (hr : Kd.C (Kd.int .u8) w A X.length X) (hc : X.length ≤ c) (h : fieldP G I E S N V X sign = some r) :
    Calls Tryd.prog 34 #[.agg #[.int .i64 K, .string G, .string I, .int .i64 E, .int .i64 S, .int .i64 N, .int .i64 V, .slice A n c], .int .i32 sign] w (FPost r w) := by
  have hu28 := Tryd.underlying28
  have HL := Aside0.mk HLD
  have HR := Aside0.mk hr
  have HC := Aside0.mk hc
  have HN := Aside0.mk hn
  have HH := Aside0.mk h
  clear HLD hr hc hn h
  have HB := Aside0.mk (below_alloc (Below.refl w.heap.size w) (.cells #[.int .i64 K, .string G, .string I, .int .i64 E, .int .i64 S, .int .i64 N, .int .i64 V, .slice A n c] 28))
  go_enter Tryd.func34, Tryd.ntmps34
  by_cases c1 : sign = 103
  · have d1 : (sign == 103) = true := by simpa using c1
    have h1 := HH.out
    unfold fieldP at h1
    rw [if_pos c1] at h1
    have H1 := Aside0.mk h1
    clear h1
    go_wp2_with (fail)
    refine (op_part.calls G r _ H1.out).mono ?_
    rintro _ w2 ⟨rfl, hb⟩
    have HB2 := Aside0.mk (HB.out.trans (hb.mono HB.out.size))
    clear hb
    go_wp2_with (fail)
    go_ret
    exact ⟨rfl, HB2.out⟩
  have d1 : (sign == 103) = false := by simpa using c1
  by_cases c2 : sign = 105
  · have d2 : (sign == 105) = true := by simpa using c2
    have h1 := HH.out
    unfold fieldP at h1
    rw [if_neg c1, if_pos c2] at h1
    have H1 := Aside0.mk h1
    clear h1
    go_wp2_with (fail)
    refine (op_part.calls I r _ H1.out).mono ?_
    rintro _ w2 ⟨rfl, hb⟩
    have HB2 := Aside0.mk (HB.out.trans (hb.mono HB.out.size))
    clear hb
    go_wp2_with (fail)
    go_ret
    exact ⟨rfl, HB2.out⟩
  have d2 : (sign == 105) = false := by simpa using c2
  by_cases c3 : sign = 101
  · have d3 : (sign == 101) = true := by simpa using c3
    have h1 := HH.out
    unfold fieldP at h1
    rw [if_neg c1, if_neg c2, if_pos c3] at h1
    have H1 := Aside0.mk h1
    clear h1
    go_wp2_with (fail)
    refine (op_count.calls E r _ (HL.out.below HB.out) H1.out).mono ?_
    rintro _ w2 ⟨rfl, hb⟩
    have HB2 := Aside0.mk (HB.out.trans (hb.mono HB.out.size))
    clear hb
    go_wp2_with (fail)
    go_ret
    exact ⟨rfl, HB2.out⟩
  have d3 : (sign == 101) = false := by simpa using c3
  by_cases c4 : sign = 115
  · have d4 : (sign == 115) = true := by simpa using c4
    have h1 := HH.out
    unfold fieldP at h1
    rw [if_neg c1, if_neg c2, if_neg c3, if_pos c4] at h1
    have H1 := Aside0.mk h1
    clear h1
    go_wp2_with (fail)
    refine (op_count.calls S r _ (HL.out.below HB.out) H1.out).mono ?_
    rintro _ w2 ⟨rfl, hb⟩
    have HB2 := Aside0.mk (HB.out.trans (hb.mono HB.out.size))
    clear hb
    go_wp2_with (fail)
    go_ret
    exact ⟨rfl, HB2.out⟩
  have d4 : (sign == 115) = false := by simpa using c4
  by_cases c5 : sign = 110
  · have d5 : (sign == 110) = true := by simpa using c5
    have h1 := HH.out
    unfold fieldP at h1
    rw [if_neg c1, if_neg c2, if_neg c3, if_neg c4, if_pos c5] at h1
    have H1 := Aside0.mk h1
    clear h1
    go_wp2_with (fail)
    refine (op_count.calls N r _ (HL.out.below HB.out) H1.out).mono ?_
    rintro _ w2 ⟨rfl, hb⟩
    have HB2 := Aside0.mk (HB.out.trans (hb.mono HB.out.size))
    clear hb
    go_wp2_with (fail)
    go_ret
    exact ⟨rfl, HB2.out⟩
  have d5 : (sign == 110) = false := by simpa using c5
  by_cases c6 : sign = 118
  · have d6 : (sign == 118) = true := by simpa using c6
    have h1 := HH.out
    unfold fieldP at h1
    rw [if_neg c1, if_neg c2, if_neg c3, if_neg c4, if_neg c5, if_pos c6] at h1
    obtain rfl := Option.some.inj h1
    clear h1 HH
    go_wp2_with (fail)
    refine (sayings _).mono ?_
    rintro _ w2 ⟨rfl, hb⟩
    have HB2 := Aside0.mk (HB.out.trans (hb.mono HB.out.size))
    have hbk := (hb.block w.heap.size (alloc_lt _ _)).trans (heap_alloc_new _ _)
    have hc6 : ∀ o, (w2.alloc o).cell? ⟨w.heap.size, 6, none⟩ = some (.int .i64 V) := fun o =>
      cell_of ((Below.heap_alloc w2 o _ (Nat.lt_of_lt_of_le (alloc_lt _ _) hb.size)).trans hbk) rfl
    clear hb hbk
    by_cases hv : 0 < V ∧ V < 4
    · obtain ⟨v0, v1⟩ := hv
      have e1 : decide (0 < V) = true := decide_eq_true v0
      have e2 : decide (V < 4) = true := decide_eq_true v1
      have hs : sayS V = if V = 1 then sayAcc else if V = 2 then sayOth else sayNot := by
        unfold sayS
        rcases (show V = 1 ∨ V = 2 ∨ V = 3 by omega) with rfl | rfl | rfl <;> rfl
      rcases (show V = 1 ∨ V = 2 ∨ V = 3 by omega) with rfl | rfl | rfl
      all_goals (
        go_wp2_with (fail)
        go_ret
        first | exact ⟨rfl, below_alloc HB2.out _⟩ | exact ⟨rfl, pw_below_drewN (below_alloc HB2.out _) _⟩)
    · have e0 : sayS V = ⟨#[]⟩ := by
        unfold sayS
        rw [if_neg (by omega), if_neg (by omega), if_neg (by omega)]
      by_cases v0 : 0 < V
      · have e1 : decide (0 < V) = true := decide_eq_true v0
        have e2 : decide (V < 4) = false := decide_eq_false (by omega)
        go_wp2_with (fail)
        go_ret
        first | exact ⟨by rw [e0]; rfl, below_alloc HB2.out _⟩ | exact ⟨by rw [e0]; rfl, pw_below_drewN (below_alloc HB2.out _) _⟩
      · have e1 : decide (0 < V) = false := decide_eq_false v0
        go_wp2_with (fail)
        go_ret
        first | exact ⟨by rw [e0]; rfl, below_alloc HB2.out _⟩ | exact ⟨by rw [e0]; rfl, pw_below_drewN (below_alloc HB2.out _) _⟩
  have d6 : (sign == 118) = false := by simpa using c6
  by_cases c7 : sign = 120
  · have d7 : (sign == 120) = true := by simpa using c7
    have h1 := HH.out
    unfold fieldP at h1
    rw [if_neg c1, if_neg c2, if_neg c3, if_neg c4, if_neg c5, if_neg c6, if_pos c7] at h1
    by_cases h32 : X.length = 32
    · rw [if_pos h32] at h1
      have e1 : ((n : Int) == 32) = true := by have := HN.out; simp; omega
      have H1 := Aside0.mk h1
      have hn := HN.out
      subst hn
      clear h1 h32
      have hcall := Aside0.mk (hex_Print.calls A c X r _ (Kd.C_below HR.out HB.out) HC.out H1.out)
      go_wp2_with (fail)
      refine hcall.out.mono ?_
      rintro _ w2 ⟨rfl, hb⟩
      have HB2 := Aside0.mk (HB.out.trans (hb.mono HB.out.size))
      clear hb
      go_wp2_with (fail)
      go_ret
      exact ⟨rfl, HB2.out⟩
    · rw [if_neg h32] at h1
      obtain rfl := Option.some.inj h1
      have e1 : ((n : Int) == 32) = false := by have := HN.out; simp; omega
      clear h1
      go_wp2_with (fail)
      go_ret
      exact ⟨rfl, HB.out⟩
  have d7 : (sign == 120) = false := by simpa using c7
  have h1 := HH.out
  unfold fieldP at h1
  rw [if_neg c1, if_neg c2, if_neg c3, if_neg c4, if_neg c5, if_neg c6, if_neg c7] at h1
  obtain rfl := Option.some.inj h1
  clear h1 HH
  go_wp2_with (fail)
  go_ret
  exact ⟨rfl, HB.out⟩
end Go.Proofs.YtdcknajlioalgaaDoor.QD
namespace Go.Proofs.YtdcknajlioalgaaDoor.QD
open Go.RowKit Go.Proofs.YtdcknajlioalgaaDoorW.PrintWords Go.Proofs.YtdcknajlioalgaaDoorW.PrintLast Go.Proofs.YtdcknajlioalgaaDoorW.PrintMore Go.Proofs.YtdcknajlioalgaaDoor.Hex
set_option linter.unusedVariables false
set_option linter.unusedSimpArgs false
/-- An operation's fields. -/
structure OpV where
  K : Int
  G : ByteArray
  I : ByteArray
  E : Int
  S : Int
  N : Int
  V : Int
  X : List Int
def OpV.cells (o : OpV) (v : Value) : Array Value := #[.int .i64 o.K, .string o.G, .string o.I, .int .i64 o.E, .int .i64 o.S, .int .i64 o.N, .int .i64 o.V, v]
def sayI (s : ByteArray) : Int := if s = sayAcc then 1 else if s = sayOth then 2 else if s = sayNot then 3 else 0
def numN (s : ByteArray) : Int × Int := numP (bytesOf s) 1073741824
/-- The operation with a word behind a sign. -/
def OpV.set (o : OpV) (sign : Int) (s : ByteArray) : OpV :=
  if sign = 103 then { o with G := s } else if sign = 105 then { o with I := s } else if sign = 101 then { o with E := (numN s).1 } else if sign = 115 then { o with S := (numN s).1 }
  else if sign = 110 then { o with N := (numN s).1 } else if sign = 118 then { o with V := sayI s } else if sign = 120 then { o with X := (hexP (bytesOf s)).1 } else o
def OpV.field (o : OpV) (sign : Int) : Option ByteArray := fieldP o.G o.I o.E o.S o.N o.V o.X sign
/-- Is the word one of that sign? -/
def OpV.fits (o : OpV) (sign : Int) (s : ByteArray) : Option Bool :=
  if sign = 101 ∨ sign = 115 ∨ sign = 110 then some (decide ((numN s).2 = 0)) else if s = ⟨#[]⟩ then some false else ((o.set sign s).field sign).map fun r => decide (r = s)
theorem tl_iff (s t : ByteArray) : (s.toList = t.toList) = (s = t) := by
  apply propext
  constructor
  · intro h
    rw [Lib.toList_data, Lib.toList_data] at h
    exact ByteArray.ext (Array.toList_inj.mp h)
  · intro h
    rw [h]
theorem tl_beq (r s : ByteArray) : (r.toList == s.toList) = decide (r = s) := by
  by_cases h : r = s
  · rw [h, decide_eq_true rfl]
    exact beq_self_eq_true _
  · rw [decide_eq_false h, beq_eq_false_iff_ne]
    intro h2
    rw [tl_iff] at h2
    exact h h2
theorem index_say (s : ByteArray) : ∃ i : Int, slices_Index_string_string.f 8 [⟨#[]⟩, sayAcc, sayOth, sayNot] s = some i ∧ max i 0 = sayI s := by
  unfold slices_Index_string_string.f sayI
  by_cases h0 : s = ⟨#[]⟩
  · subst h0
    exact ⟨0, by decide +kernel, by decide +kernel⟩
  by_cases h1 : s = sayAcc
  · subst h1
    exact ⟨1, by decide +kernel, by decide +kernel⟩
  by_cases h2 : s = sayOth
  · subst h2
    exact ⟨2, by decide +kernel, by decide +kernel⟩
  by_cases h3 : s = sayNot
  · subst h3
    exact ⟨3, by decide +kernel, by decide +kernel⟩
  refine ⟨-1, ?_, by rw [if_neg h1, if_neg h2, if_neg h3]; rfl⟩
  have g : ∀ j : Int, j = 0 ∨ j = 1 ∨ j = 2 ∨ j = 3 → ¬ s.toList = (rdOf ByteArray.empty [⟨#[]⟩, sayAcc, sayOth, sayNot] j).toList := by
    intro j hj
    rw [tl_iff]
    rcases hj with rfl | rfl | rfl | rfl
    · exact h0
    · exact h1
    · exact h2
    · exact h3
  have st : ∀ k (j : Int), (j = 0 ∨ j = 1 ∨ j = 2 ∨ j = 3) → slices_Index_string_string.l0 (k + 1) [⟨#[]⟩, sayAcc, sayOth, sayNot] s 4 j = slices_Index_string_string.l0 k [⟨#[]⟩, sayAcc, sayOth, sayNot] s 4 (j + 1) := by
    intro k j hj
    have h4 : (([⟨#[]⟩, sayAcc, sayOth, sayNot] : List ByteArray).length : Int) = 4 := rfl
    rw [slices_Index_string_string.l0, if_pos (by omega), if_pos (by omega), if_pos (by rw [h4]; omega), if_neg (g _ hj), IntWalk.wrap64_in _ (by omega)]
  show slices_Index_string_string.l0 8 _ s 4 0 = _
  rw [st 7 0 (by omega), st 6 _ (by omega), st 5 _ (by omega), st 4 _ (by omega)]
  rfl
theorem set_block {W : World} {b j e : Nat} {fz : Nat × Nat} {cs : Array Value} {x : Value} (h : W.heap[b]? = some (.cells cs e fz)) : (W.setCell ⟨b, j, none⟩ x).heap[b]? = some (.cells (cs.setIfInBounds j x) e fz) := by
  simp only [World.setCell, Array.getElem?_modify, if_true]
  rw [h]
  rfl
theorem frozen_of {W : World} {b o e : Nat} {cells : Array Value} (h : W.heap[b]? = some (.cells cells e (0, 0))) : W.frozen? ⟨b, o, none⟩ = false := by
  simp [World.frozen?, h]
theorem isEmpty_false {s : ByteArray} (h : ¬ s = ⟨#[]⟩) : s.toList.isEmpty = false := by
  rw [Lib.toList_data]
  cases hd : s.data.toList with
  | nil => exact absurd (ByteArray.ext (Array.toList_inj.mp hd)) h
  | cons a l => rfl
theorem fits_word {o : OpV} {sign : Int} {s : ByteArray} {t : Bool} (h : o.fits sign s = some t) (hn : ¬ (sign = 101 ∨ sign = 115 ∨ sign = 110)) (hs : ¬ s = ⟨#[]⟩) : ∃ r, (o.set sign s).field sign = some r ∧ t = decide (r = s) := by
  unfold OpV.fits at h
  rw [if_neg hn, if_neg hs] at h
  cases hf : (o.set sign s).field sign with
  | none => rw [hf] at h; cases h
  | some r => rw [hf] at h; exact ⟨r, rfl, (Option.some.inj h).symm⟩
theorem fits_empty {o : OpV} {sign : Int} {t : Bool} (h : o.fits sign ⟨#[]⟩ = some t) (hn : ¬ (sign = 101 ∨ sign = 115 ∨ sign = 110)) : t = false := by
  unfold OpV.fits at h
  rw [if_neg hn, if_pos rfl] at h
  exact (Option.some.inj h).symm
/-- A world behind another one: what lies below the base is as it lay, and so is each block but one. -/
structure BK (w0 w : World) (b : Nat) (w1 : World) : Prop where
  bl : Below w0.heap.size w0 w1
  sz : w.heap.size ≤ w1.heap.size
  kp : ∀ k, k < w.heap.size → k ≠ b → w1.heap[k]? = w.heap[k]?
theorem BK.first {w0 w : World} (b : Nat) (h : Below w0.heap.size w0 w) : BK w0 w b w := ⟨h, Nat.le_refl _, fun _ _ _ => rfl⟩
theorem BK.step {w0 w w1 w2 : World} {b : Nat} (h : BK w0 w b w1) (hb : Below w1.heap.size w1 w2) : BK w0 w b w2 :=
  ⟨h.bl.trans (hb.mono h.bl.size), Nat.le_trans h.sz hb.size, fun k hk hne => (hb.block k (Nat.lt_of_lt_of_le hk h.sz)).trans (h.kp k hk hne)⟩
theorem BK.set {w0 w w1 : World} {b j : Nat} (h : BK w0 w b w1) (hb : w0.heap.size ≤ b) (x : Value) : BK w0 w b (w1.setCell ⟨b, j, none⟩ x) :=
  ⟨h.bl.setCell (p := ⟨b, j, none⟩) hb x, by simpa [World.setCell] using h.sz, fun k hk hne => (Below.heap_setCell w1 ⟨b, j, none⟩ x k hne).trans (h.kp k hk hne)⟩
theorem BK.al {w0 w w1 : World} {b : Nat} (h : BK w0 w b w1) (o : Obj) : BK w0 w b (w1.alloc o) :=
  ⟨h.bl.alloc h.bl.size o, Nat.le_trans h.sz (Nat.le_of_lt (alloc_lt w1 o)), fun k hk hne => (Below.heap_alloc w1 o k (Nat.lt_of_lt_of_le hk h.sz)).trans (h.kp k hk hne)⟩
/-- The reader's word: the receiver lies in block b. -/
def ReadPost (b : Nat) (w0 w : World) (o : OpV) (t : Bool) (e : Ending) (w' : World) : Prop :=
  ∃ v : Value, e = .returned (.bool t) ∧ w'.heap[b]? = some (.cells (o.cells v) 96 (0, 0)) ∧ Kd.R (Kd.int .u8) 5 w' w0.heap.size (fun k => k ≠ b) v o.X ∧ BK w0 w b w'
set_option maxRecDepth 100000 in
theorem opRead (b : Nat) (o : OpV) (v : Value) (sign : Int) (s : ByteArray) (t : Bool) (w0 w : World) (HLD : Laid w0) (hs : s.size ≤ 1000000) (hb0 : w0.heap.size ≤ b) (hB : Below w0.heap.size w0 w)
    (hbk : w.heap[b]? = some (.cells (o.cells v) 96 (0, 0))) (hR : Kd.R (Kd.int .u8) 5 w w0.heap.size (fun k => k ≠ b) v o.X) (h : o.fits sign s = some t) :
    Calls Tryd.prog 42 #[.pointer (some ⟨b, 0, none⟩), .int .i32 sign, .string s] w (ReadPost b w0 w (o.set sign s) t) := by
  obtain ⟨A, c, rfl, hc, hC⟩ := Kd.R_reads hR
  have hu28 := Tryd.underlying28
  have hu96 := Tryd.underlying96
  have HL := Aside0.mk HLD
  have HB := Aside0.mk (BK.first b hB)
  have HK := Aside0.mk hbk
  have HR := Aside0.mk hR
  have HH := Aside0.mk h
  clear HLD hB hbk hR hc hC h
  go_enter Tryd.func42, Tryd.ntmps42
  go_wp2_with (fail)
  refine (num_Parse.calls s 1073741824 (numN s).1 (numN s).2 w (by unfold num_Parse.f; rw [if_pos hs]; rfl)).mono ?_
  rintro _ w1 ⟨rfl, hb1⟩
  have HB1 := Aside0.mk (HB.out.step hb1)
  have hlt : b < w.heap.size := by
    rcases Nat.lt_or_ge b w.heap.size with h | h
    · exact h
    · have h2 := HK.out
      rw [Array.getElem?_eq_none h] at h2
      cases h2
  have HK1 := Aside0.mk ((hb1.block b hlt).trans HK.out)
  have HR1 := Aside0.mk (Kd.R_below HR.out hb1)
  have HLT := Aside0.mk (Nat.lt_of_lt_of_le hlt hb1.size)
  clear hb1 hlt
  by_cases c1 : sign = 103
  · subst c1
    have d1 : ((103 : Int) == 103) = true := rfl
    have q1 : w1.cell? ⟨b, 1, none⟩ = some (.string o.G) := cell_of HK1.out rfl
    have q2 := frozen_of (o := 1) HK1.out
    have hset : o.set 103 s = { o with G := s } := by unfold OpV.set; rw [if_pos rfl]
    have hk2 := set_block (j := 1) (x := .string s) HK1.out
    have HK2 := Aside0.mk (show (w1.setCell ⟨b, 1, none⟩ (.string s)).heap[b]? = some (.cells (OpV.cells { o with G := s } (.slice A o.X.length c)) 96 (0, 0)) from hk2)
    have HR2 := Aside0.mk (Kd.R_far HR1.out (p := ⟨b, 1, none⟩) (fun k hk => hk) (.string s))
    have HB2 := Aside0.mk (HB1.out.set (j := 1) hb0 (.string s))
    have HS := Aside0.mk hset
    have hfit : (¬ s = ⟨#[]⟩) → ∃ r, fieldP s o.I o.E o.S o.N o.V o.X 103 = some r ∧ t = decide (r = s) := fun hs0 => by
      have := fits_word HH.out (by decide) hs0
      rw [hset] at this
      exact this
    have HF := Aside0.mk hfit
    clear hk2 hset hfit
    by_cases hs0 : s = ⟨#[]⟩
    · have ht := fits_empty (by rw [← hs0]; exact HH.out) (by decide)
      subst ht
      have e0 : s.toList.isEmpty = true := by rw [hs0, Lib.toList_data]; rfl
      clear hs0
      go_wp2_with (fail)
      go_ret
      rw [HS.out]
      exact ⟨_, rfl, HK2.out, HR2.out, HB2.out⟩
    · obtain ⟨r, hr, ht⟩ := HF.out hs0
      have H1 := Aside0.mk hr
      have H2 := Aside0.mk ht
      have e0 := isEmpty_false hs0
      have f0 : (w1.setCell ⟨b, 1, none⟩ (.string s)).cell? ⟨b, 0, none⟩ = some (.int .i64 o.K) := cell_of HK2.out rfl
      have f1 : (w1.setCell ⟨b, 1, none⟩ (.string s)).cell? ⟨b, 1, none⟩ = some (.string s) := cell_of HK2.out rfl
      have f2 : (w1.setCell ⟨b, 1, none⟩ (.string s)).cell? ⟨b, 2, none⟩ = some (.string o.I) := cell_of HK2.out rfl
      have f3 : (w1.setCell ⟨b, 1, none⟩ (.string s)).cell? ⟨b, 3, none⟩ = some (.int .i64 o.E) := cell_of HK2.out rfl
      have f4 : (w1.setCell ⟨b, 1, none⟩ (.string s)).cell? ⟨b, 4, none⟩ = some (.int .i64 o.S) := cell_of HK2.out rfl
      have f5 : (w1.setCell ⟨b, 1, none⟩ (.string s)).cell? ⟨b, 5, none⟩ = some (.int .i64 o.N) := cell_of HK2.out rfl
      have f6 : (w1.setCell ⟨b, 1, none⟩ (.string s)).cell? ⟨b, 6, none⟩ = some (.int .i64 o.V) := cell_of HK2.out rfl
      have f7 : (w1.setCell ⟨b, 1, none⟩ (.string s)).cell? ⟨b, 7, none⟩ = some ((.slice A o.X.length c)) := cell_of HK2.out rfl
      clear hr ht hs0
      have hcall := Aside0.mk (opField o.K s o.I o.E o.S o.N o.V A c _ o.X 103 r (w1.setCell ⟨b, 1, none⟩ (.string s)) (HL.out.below HB2.out.bl) rfl (Kd.R_reads' HR2.out).2.2 (Kd.R_reads' HR2.out).2.1 H1.out)
      go_wp2_with (fail)
      refine hcall.out.mono ?_
      rintro _ w3 ⟨rfl, hb3⟩
      have hlt3 : b < (w1.setCell ⟨b, 1, none⟩ (.string s)).heap.size := Nat.lt_of_lt_of_le HLT.out (by simp [World.setCell])
      have HK3 := Aside0.mk ((hb3.block b hlt3).trans HK2.out)
      have HR3 := Aside0.mk (Kd.R_below HR2.out hb3)
      have HB3 := Aside0.mk (HB2.out.step hb3)
      clear hb3 hlt3 f0 f1 f2 f3 f4 f5 f6 f7
      go_wp2_with (fail)
      go_ret
      rw [HS.out]
      exact ⟨_, by rw [H2.out, ← tl_beq]; rfl, HK3.out, HR3.out, HB3.out⟩
  have d1 : (sign == 103) = false := by simpa using c1
  by_cases c2 : sign = 105
  · subst c2
    have d2 : ((105 : Int) == 105) = true := rfl
    have q1 : w1.cell? ⟨b, 2, none⟩ = some (.string o.I) := cell_of HK1.out rfl
    have q2 := frozen_of (o := 2) HK1.out
    have hset : o.set 105 s = { o with I := s } := by unfold OpV.set; rw [if_neg (by decide), if_pos rfl]
    have hk2 := set_block (j := 2) (x := .string s) HK1.out
    have HK2 := Aside0.mk (show (w1.setCell ⟨b, 2, none⟩ (.string s)).heap[b]? = some (.cells (OpV.cells { o with I := s } (.slice A o.X.length c)) 96 (0, 0)) from hk2)
    have HR2 := Aside0.mk (Kd.R_far HR1.out (p := ⟨b, 2, none⟩) (fun k hk => hk) (.string s))
    have HB2 := Aside0.mk (HB1.out.set (j := 2) hb0 (.string s))
    have HS := Aside0.mk hset
    have hfit : (¬ s = ⟨#[]⟩) → ∃ r, fieldP o.G s o.E o.S o.N o.V o.X 105 = some r ∧ t = decide (r = s) := fun hs0 => by
      have := fits_word HH.out (by decide) hs0
      rw [hset] at this
      exact this
    have HF := Aside0.mk hfit
    clear hk2 hset hfit
    by_cases hs0 : s = ⟨#[]⟩
    · have ht := fits_empty (by rw [← hs0]; exact HH.out) (by decide)
      subst ht
      have e0 : s.toList.isEmpty = true := by rw [hs0, Lib.toList_data]; rfl
      clear hs0
      go_wp2_with (fail)
      go_ret
      rw [HS.out]
      exact ⟨_, rfl, HK2.out, HR2.out, HB2.out⟩
    · obtain ⟨r, hr, ht⟩ := HF.out hs0
      have H1 := Aside0.mk hr
      have H2 := Aside0.mk ht
      have e0 := isEmpty_false hs0
      have f0 : (w1.setCell ⟨b, 2, none⟩ (.string s)).cell? ⟨b, 0, none⟩ = some (.int .i64 o.K) := cell_of HK2.out rfl
      have f1 : (w1.setCell ⟨b, 2, none⟩ (.string s)).cell? ⟨b, 1, none⟩ = some (.string o.G) := cell_of HK2.out rfl
      have f2 : (w1.setCell ⟨b, 2, none⟩ (.string s)).cell? ⟨b, 2, none⟩ = some (.string s) := cell_of HK2.out rfl
      have f3 : (w1.setCell ⟨b, 2, none⟩ (.string s)).cell? ⟨b, 3, none⟩ = some (.int .i64 o.E) := cell_of HK2.out rfl
      have f4 : (w1.setCell ⟨b, 2, none⟩ (.string s)).cell? ⟨b, 4, none⟩ = some (.int .i64 o.S) := cell_of HK2.out rfl
      have f5 : (w1.setCell ⟨b, 2, none⟩ (.string s)).cell? ⟨b, 5, none⟩ = some (.int .i64 o.N) := cell_of HK2.out rfl
      have f6 : (w1.setCell ⟨b, 2, none⟩ (.string s)).cell? ⟨b, 6, none⟩ = some (.int .i64 o.V) := cell_of HK2.out rfl
      have f7 : (w1.setCell ⟨b, 2, none⟩ (.string s)).cell? ⟨b, 7, none⟩ = some ((.slice A o.X.length c)) := cell_of HK2.out rfl
      clear hr ht hs0
      have hcall := Aside0.mk (opField o.K o.G s o.E o.S o.N o.V A c _ o.X 105 r (w1.setCell ⟨b, 2, none⟩ (.string s)) (HL.out.below HB2.out.bl) rfl (Kd.R_reads' HR2.out).2.2 (Kd.R_reads' HR2.out).2.1 H1.out)
      go_wp2_with (fail)
      refine hcall.out.mono ?_
      rintro _ w3 ⟨rfl, hb3⟩
      have hlt3 : b < (w1.setCell ⟨b, 2, none⟩ (.string s)).heap.size := Nat.lt_of_lt_of_le HLT.out (by simp [World.setCell])
      have HK3 := Aside0.mk ((hb3.block b hlt3).trans HK2.out)
      have HR3 := Aside0.mk (Kd.R_below HR2.out hb3)
      have HB3 := Aside0.mk (HB2.out.step hb3)
      clear hb3 hlt3 f0 f1 f2 f3 f4 f5 f6 f7
      go_wp2_with (fail)
      go_ret
      rw [HS.out]
      exact ⟨_, by rw [H2.out, ← tl_beq]; rfl, HK3.out, HR3.out, HB3.out⟩
  have d2 : (sign == 105) = false := by simpa using c2
  by_cases c3 : sign = 101
  · subst c3
    have d3 : ((101 : Int) == 101) = true := rfl
    have q1 : w1.cell? ⟨b, 3, none⟩ = some (.int .i64 o.E) := cell_of HK1.out rfl
    have q2 := frozen_of (o := 3) HK1.out
    have hset : o.set 101 s = { o with E := (numN s).1 } := by unfold OpV.set; rw [if_neg (by decide), if_neg (by decide), if_pos rfl]
    have hk2 := set_block (j := 3) (x := .int .i64 (numN s).1) HK1.out
    have HK2 := Aside0.mk (show (w1.setCell ⟨b, 3, none⟩ (.int .i64 (numN s).1)).heap[b]? = some (.cells (OpV.cells { o with E := (numN s).1 } (.slice A o.X.length c)) 96 (0, 0)) from hk2)
    have HR2 := Aside0.mk (Kd.R_far HR1.out (p := ⟨b, 3, none⟩) (fun k hk => hk) (.int .i64 (numN s).1))
    have HB2 := Aside0.mk (HB1.out.set (j := 3) hb0 (.int .i64 (numN s).1))
    have HS := Aside0.mk hset
    have ht : t = decide ((numN s).2 = 0) := by
      have := HH.out
      unfold OpV.fits at this
      rw [if_pos (by decide)] at this
      exact (Option.some.inj this).symm
    have HT := Aside0.mk ht
    clear hk2 hset ht
    go_wp2_with (fail)
    go_ret
    rw [HS.out]
    exact ⟨_, by rw [HT.out]; rfl, HK2.out, HR2.out, HB2.out⟩
  have d3 : (sign == 101) = false := by simpa using c3
  by_cases c4 : sign = 115
  · subst c4
    have d4 : ((115 : Int) == 115) = true := rfl
    have q1 : w1.cell? ⟨b, 4, none⟩ = some (.int .i64 o.S) := cell_of HK1.out rfl
    have q2 := frozen_of (o := 4) HK1.out
    have hset : o.set 115 s = { o with S := (numN s).1 } := by unfold OpV.set; rw [if_neg (by decide), if_neg (by decide), if_neg (by decide), if_pos rfl]
    have hk2 := set_block (j := 4) (x := .int .i64 (numN s).1) HK1.out
    have HK2 := Aside0.mk (show (w1.setCell ⟨b, 4, none⟩ (.int .i64 (numN s).1)).heap[b]? = some (.cells (OpV.cells { o with S := (numN s).1 } (.slice A o.X.length c)) 96 (0, 0)) from hk2)
    have HR2 := Aside0.mk (Kd.R_far HR1.out (p := ⟨b, 4, none⟩) (fun k hk => hk) (.int .i64 (numN s).1))
    have HB2 := Aside0.mk (HB1.out.set (j := 4) hb0 (.int .i64 (numN s).1))
    have HS := Aside0.mk hset
    have ht : t = decide ((numN s).2 = 0) := by
      have := HH.out
      unfold OpV.fits at this
      rw [if_pos (by decide)] at this
      exact (Option.some.inj this).symm
    have HT := Aside0.mk ht
    clear hk2 hset ht
    go_wp2_with (fail)
    go_ret
    rw [HS.out]
    exact ⟨_, by rw [HT.out]; rfl, HK2.out, HR2.out, HB2.out⟩
  have d4 : (sign == 115) = false := by simpa using c4
  by_cases c5 : sign = 110
  · subst c5
    have d5 : ((110 : Int) == 110) = true := rfl
    have q1 : w1.cell? ⟨b, 5, none⟩ = some (.int .i64 o.N) := cell_of HK1.out rfl
    have q2 := frozen_of (o := 5) HK1.out
    have hset : o.set 110 s = { o with N := (numN s).1 } := by unfold OpV.set; rw [if_neg (by decide), if_neg (by decide), if_neg (by decide), if_neg (by decide), if_pos rfl]
    have hk2 := set_block (j := 5) (x := .int .i64 (numN s).1) HK1.out
    have HK2 := Aside0.mk (show (w1.setCell ⟨b, 5, none⟩ (.int .i64 (numN s).1)).heap[b]? = some (.cells (OpV.cells { o with N := (numN s).1 } (.slice A o.X.length c)) 96 (0, 0)) from hk2)
    have HR2 := Aside0.mk (Kd.R_far HR1.out (p := ⟨b, 5, none⟩) (fun k hk => hk) (.int .i64 (numN s).1))
    have HB2 := Aside0.mk (HB1.out.set (j := 5) hb0 (.int .i64 (numN s).1))
    have HS := Aside0.mk hset
    have ht : t = decide ((numN s).2 = 0) := by
      have := HH.out
      unfold OpV.fits at this
      rw [if_pos (by decide)] at this
      exact (Option.some.inj this).symm
    have HT := Aside0.mk ht
    clear hk2 hset ht
    go_wp2_with (fail)
    go_ret
    rw [HS.out]
    exact ⟨_, by rw [HT.out]; rfl, HK2.out, HR2.out, HB2.out⟩
  have d5 : (sign == 110) = false := by simpa using c5
  by_cases c6 : sign = 118
  · subst c6
    have d6 : ((118 : Int) == 118) = true := rfl
    have hset : o.set 118 s = { o with V := sayI s } := by unfold OpV.set; rw [if_neg (by decide), if_neg (by decide), if_neg (by decide), if_neg (by decide), if_neg (by decide), if_pos rfl]
    have hfit : (¬ s = ⟨#[]⟩) → ∃ r, fieldP o.G o.I o.E o.S o.N (sayI s) o.X 118 = some r ∧ t = decide (r = s) := fun hs0 => by
      have := fits_word HH.out (by decide) hs0
      rw [hset] at this
      exact this
    have HF := Aside0.mk hfit
    have HS := Aside0.mk hset
    clear hset hfit
    go_wp2_with (fail)
    refine (sayings _).mono ?_
    rintro _ w2 ⟨rfl, hb2⟩
    have HK2 := Aside0.mk ((hb2.block b HLT.out).trans HK1.out)
    have HR2 := Aside0.mk (Kd.R_below HR1.out hb2)
    have HB2 := Aside0.mk (HB1.out.step hb2)
    have HL2 := Aside0.mk (Nat.lt_of_lt_of_le HLT.out hb2.size)
    clear hb2
    obtain ⟨i, hi, hmax⟩ := index_say s
    have hC : Kd.C Kd.string (w2.alloc (.cells #[.string ⟨#[]⟩, .string sayAcc, .string sayOth, .string sayNot] 129)) (some ⟨w2.heap.size, 0, none⟩) 4 [⟨#[]⟩, sayAcc, sayOth, sayNot] := by
      refine Kd.C_of_reads (enc := Value.string) (d := ByteArray.empty) ⟨rfl, by decide, fun _ => ⟨_, rfl, fun j hj => ?_⟩⟩
      rw [add_plain]
      rcases (show j = 0 ∨ j = 1 ∨ j = 2 ∨ j = 3 by omega) with rfl | rfl | rfl | rfl <;> exact cell_of (heap_alloc_new _ _) rfl
    have hcall := Aside0.mk (slices_Index_string_string.calls 8 (some ⟨w2.heap.size, 0, none⟩) 4 [⟨#[]⟩, sayAcc, sayOth, sayNot] s i _ hC (Nat.le_refl 4) hi)
    have HK3 := Aside0.mk ((Below.heap_alloc w2 (.cells #[.string ⟨#[]⟩, .string sayAcc, .string sayOth, .string sayNot] 129) b HL2.out).trans HK2.out)
    have HR3 := Aside0.mk (Kd.R_alloc HR2.out (.cells #[.string ⟨#[]⟩, .string sayAcc, .string sayOth, .string sayNot] 129))
    have HB3 := Aside0.mk (HB2.out.al (.cells #[.string ⟨#[]⟩, .string sayAcc, .string sayOth, .string sayNot] 129))
    have HL3 := Aside0.mk (Nat.lt_trans HL2.out (alloc_lt w2 (.cells #[.string ⟨#[]⟩, .string sayAcc, .string sayOth, .string sayNot] 129)))
    clear hC hi
    go_wp2_with (fail)
    refine hcall.out.mono ?_
    rintro _ w4 ⟨rfl, hd4⟩
    have hb4 := hd4.below
    have HK4 := Aside0.mk ((hb4.block b HL3.out).trans HK3.out)
    have HR4 := Aside0.mk (Kd.R_below HR3.out hb4)
    have HB4 := Aside0.mk (HB3.out.step hb4)
    have HLT4 := Aside0.mk (Nat.lt_of_lt_of_le HL3.out hb4.size)
    have hk5 := set_block (j := 6) (x := .int .i64 (sayI s)) HK4.out
    have HK5 := Aside0.mk (show (w4.setCell ⟨b, 6, none⟩ (.int .i64 (sayI s))).heap[b]? = some (.cells (OpV.cells { o with V := sayI s } (.slice A o.X.length c)) 96 (0, 0)) from hk5)
    have HR5 := Aside0.mk (Kd.R_far HR4.out (p := ⟨b, 6, none⟩) (fun k hk => hk) (.int .i64 (sayI s)))
    have HB5 := Aside0.mk (HB4.out.set (j := 6) hb0 (.int .i64 (sayI s)))
    have q1 : w4.cell? ⟨b, 6, none⟩ = some (.int .i64 o.V) := cell_of HK4.out rfl
    have q2 := frozen_of (o := 6) HK4.out
    clear hd4 hb4 hk5
    by_cases hs0 : s = ⟨#[]⟩
    · have ht := fits_empty (by rw [← hs0]; exact HH.out) (by decide)
      subst ht
      have e0 : s.toList.isEmpty = true := by rw [hs0, Lib.toList_data]; rfl
      clear hs0
      go_wp2_with (fail)
      go_ret
      rw [HS.out]
      exact ⟨_, rfl, HK5.out, HR5.out, HB5.out⟩
    · obtain ⟨r, hr, ht⟩ := HF.out hs0
      have H1 := Aside0.mk hr
      have H2 := Aside0.mk ht
      have e0 := isEmpty_false hs0
      have f0 : (w4.setCell ⟨b, 6, none⟩ (.int .i64 (sayI s))).cell? ⟨b, 0, none⟩ = some (.int .i64 o.K) := cell_of HK5.out rfl
      have f1 : (w4.setCell ⟨b, 6, none⟩ (.int .i64 (sayI s))).cell? ⟨b, 1, none⟩ = some (.string o.G) := cell_of HK5.out rfl
      have f2 : (w4.setCell ⟨b, 6, none⟩ (.int .i64 (sayI s))).cell? ⟨b, 2, none⟩ = some (.string o.I) := cell_of HK5.out rfl
      have f3 : (w4.setCell ⟨b, 6, none⟩ (.int .i64 (sayI s))).cell? ⟨b, 3, none⟩ = some (.int .i64 o.E) := cell_of HK5.out rfl
      have f4 : (w4.setCell ⟨b, 6, none⟩ (.int .i64 (sayI s))).cell? ⟨b, 4, none⟩ = some (.int .i64 o.S) := cell_of HK5.out rfl
      have f5 : (w4.setCell ⟨b, 6, none⟩ (.int .i64 (sayI s))).cell? ⟨b, 5, none⟩ = some (.int .i64 o.N) := cell_of HK5.out rfl
      have f6 : (w4.setCell ⟨b, 6, none⟩ (.int .i64 (sayI s))).cell? ⟨b, 6, none⟩ = some (.int .i64 (sayI s)) := cell_of HK5.out rfl
      have f7 : (w4.setCell ⟨b, 6, none⟩ (.int .i64 (sayI s))).cell? ⟨b, 7, none⟩ = some ((.slice A o.X.length c)) := cell_of HK5.out rfl
      clear hr ht hs0
      have hcall := Aside0.mk (opField o.K o.G o.I o.E o.S o.N (sayI s) A c _ o.X 118 r (w4.setCell ⟨b, 6, none⟩ (.int .i64 (sayI s))) (HL.out.below HB5.out.bl) rfl (Kd.R_reads' HR5.out).2.2 (Kd.R_reads' HR5.out).2.1 H1.out)
      go_wp2_with (fail)
      refine hcall.out.mono ?_
      rintro _ w3 ⟨rfl, hb3⟩
      have hlt3 : b < (w4.setCell ⟨b, 6, none⟩ (.int .i64 (sayI s))).heap.size := Nat.lt_of_lt_of_le HLT4.out (by simp [World.setCell])
      have HK3 := Aside0.mk ((hb3.block b hlt3).trans HK5.out)
      have HR3 := Aside0.mk (Kd.R_below HR5.out hb3)
      have HB3 := Aside0.mk (HB5.out.step hb3)
      clear hb3 hlt3 f0 f1 f2 f3 f4 f5 f6 f7
      go_wp2_with (fail)
      go_ret
      rw [HS.out]
      exact ⟨_, by rw [H2.out, ← tl_beq]; rfl, HK3.out, HR3.out, HB3.out⟩
  have d6 : (sign == 118) = false := by simpa using c6
  by_cases c7 : sign = 120
  · subst c7
    have d7 : ((120 : Int) == 120) = true := rfl
    have hx : ∃ X1 p f, hexP (bytesOf s) = (X1, p, f) := ⟨_, _, _, rfl⟩
    obtain ⟨X1, p, f, hx⟩ := hx
    have hset : o.set 120 s = { o with X := X1 } := by unfold OpV.set; rw [if_neg (by decide), if_neg (by decide), if_neg (by decide), if_neg (by decide), if_neg (by decide), if_neg (by decide), if_pos rfl, hx]
    have hfit : (¬ s = ⟨#[]⟩) → ∃ r, fieldP o.G o.I o.E o.S o.N o.V X1 120 = some r ∧ t = decide (r = s) := fun hs0 => by
      have := fits_word HH.out (by decide) hs0
      rw [hset] at this
      exact this
    have HF := Aside0.mk hfit
    have HS := Aside0.mk hset
    have hcall := Aside0.mk (hex_Parse.calls s X1 p f w1 (by unfold hex_Parse.f; rw [if_pos hs, hx]))
    clear hset hfit hx
    go_wp2_with (fail)
    refine hcall.out.mono ?_
    rintro _ w2 ⟨v1, rfl, hv1, hb2⟩
    obtain ⟨A1, c1, rfl, hc1, hC1⟩ := Kd.R_reads hv1
    have HV1 := Aside0.mk (Kd.R_mono (ok' := fun k => k ≠ b) (Kd.R_bound (Kd.R_lower hv1 (Nat.le_refl _))) (fun k hk => by
      have h1 := hk.2.1
      have h2 := HLT.out
      omega))
    have HK2 := Aside0.mk ((hb2.block b HLT.out).trans HK1.out)
    have HB2 := Aside0.mk (HB1.out.step hb2)
    have HLT2 := Aside0.mk (Nat.lt_of_lt_of_le HLT.out hb2.size)
    have hk5 := set_block (j := 7) (x := .slice A1 X1.length c1) HK2.out
    have HK5 := Aside0.mk (show (w2.setCell ⟨b, 7, none⟩ (.slice A1 X1.length c1)).heap[b]? = some (.cells (OpV.cells { o with X := X1 } (.slice A1 X1.length c1)) 96 (0, 0)) from hk5)
    have HR5 := Aside0.mk (Kd.R_lower (Kd.R_far HV1.out (p := ⟨b, 7, none⟩) (fun k hk => hk) (.slice A1 X1.length c1)) HB1.out.bl.size)
    have HB5 := Aside0.mk (HB2.out.set (j := 7) hb0 (.slice A1 X1.length c1))
    have q1 : w2.cell? ⟨b, 7, none⟩ = some (.slice A o.X.length c) := cell_of HK2.out rfl
    have q2 := frozen_of (o := 7) HK2.out
    clear hv1 hc1 hC1 hb2 hk5
    by_cases hs0 : s = ⟨#[]⟩
    · have ht := fits_empty (by rw [← hs0]; exact HH.out) (by decide)
      subst ht
      have e0 : s.toList.isEmpty = true := by rw [hs0, Lib.toList_data]; rfl
      clear hs0
      go_wp2_with (fail)
      go_ret
      rw [HS.out]
      exact ⟨_, rfl, HK5.out, HR5.out, HB5.out⟩
    · obtain ⟨r, hr, ht⟩ := HF.out hs0
      have H1 := Aside0.mk hr
      have H2 := Aside0.mk ht
      have e0 := isEmpty_false hs0
      have f0 : (w2.setCell ⟨b, 7, none⟩ (.slice A1 X1.length c1)).cell? ⟨b, 0, none⟩ = some (.int .i64 o.K) := cell_of HK5.out rfl
      have f1 : (w2.setCell ⟨b, 7, none⟩ (.slice A1 X1.length c1)).cell? ⟨b, 1, none⟩ = some (.string o.G) := cell_of HK5.out rfl
      have f2 : (w2.setCell ⟨b, 7, none⟩ (.slice A1 X1.length c1)).cell? ⟨b, 2, none⟩ = some (.string o.I) := cell_of HK5.out rfl
      have f3 : (w2.setCell ⟨b, 7, none⟩ (.slice A1 X1.length c1)).cell? ⟨b, 3, none⟩ = some (.int .i64 o.E) := cell_of HK5.out rfl
      have f4 : (w2.setCell ⟨b, 7, none⟩ (.slice A1 X1.length c1)).cell? ⟨b, 4, none⟩ = some (.int .i64 o.S) := cell_of HK5.out rfl
      have f5 : (w2.setCell ⟨b, 7, none⟩ (.slice A1 X1.length c1)).cell? ⟨b, 5, none⟩ = some (.int .i64 o.N) := cell_of HK5.out rfl
      have f6 : (w2.setCell ⟨b, 7, none⟩ (.slice A1 X1.length c1)).cell? ⟨b, 6, none⟩ = some (.int .i64 o.V) := cell_of HK5.out rfl
      have f7 : (w2.setCell ⟨b, 7, none⟩ (.slice A1 X1.length c1)).cell? ⟨b, 7, none⟩ = some ((.slice A1 X1.length c1)) := cell_of HK5.out rfl
      clear hr ht hs0
      have hcall := Aside0.mk (opField o.K o.G o.I o.E o.S o.N o.V A1 c1 _ X1 120 r (w2.setCell ⟨b, 7, none⟩ (.slice A1 X1.length c1)) (HL.out.below HB5.out.bl) rfl (Kd.R_reads' HR5.out).2.2 (Kd.R_reads' HR5.out).2.1 H1.out)
      go_wp2_with (fail)
      refine hcall.out.mono ?_
      rintro _ w3 ⟨rfl, hb3⟩
      have hlt3 : b < (w2.setCell ⟨b, 7, none⟩ (.slice A1 X1.length c1)).heap.size := Nat.lt_of_lt_of_le HLT2.out (by simp [World.setCell])
      have HK3 := Aside0.mk ((hb3.block b hlt3).trans HK5.out)
      have HR3 := Aside0.mk (Kd.R_below HR5.out hb3)
      have HB3 := Aside0.mk (HB5.out.step hb3)
      clear hb3 hlt3 f0 f1 f2 f3 f4 f5 f6 f7
      go_wp2_with (fail)
      go_ret
      rw [HS.out]
      exact ⟨_, by rw [H2.out, ← tl_beq]; rfl, HK3.out, HR3.out, HB3.out⟩
  have d7 : (sign == 120) = false := by simpa using c7
  have hset : o.set sign s = o := by unfold OpV.set; rw [if_neg c1, if_neg c2, if_neg c3, if_neg c4, if_neg c5, if_neg c6, if_neg c7]
  have hns : ¬ (sign = 101 ∨ sign = 115 ∨ sign = 110) := by omega
  have hfit : (¬ s = ⟨#[]⟩) → ∃ r, fieldP o.G o.I o.E o.S o.N o.V o.X sign = some r ∧ t = decide (r = s) := fun hs0 => by
    have := fits_word HH.out hns hs0
    rw [hset] at this
    exact this
  have HF := Aside0.mk hfit
  have HS := Aside0.mk hset
  have HNS := Aside0.mk hns
  clear hset hfit hns
  by_cases hs0 : s = ⟨#[]⟩
  · have ht := fits_empty (by rw [← hs0]; exact HH.out) (HNS.out)
    subst ht
    have e0 : s.toList.isEmpty = true := by rw [hs0, Lib.toList_data]; rfl
    clear hs0
    go_wp2_with (fail)
    go_ret
    rw [HS.out]
    exact ⟨_, rfl, HK1.out, HR1.out, HB1.out⟩
  · obtain ⟨r, hr, ht⟩ := HF.out hs0
    have H1 := Aside0.mk hr
    have H2 := Aside0.mk ht
    have e0 := isEmpty_false hs0
    have f0 : (w1).cell? ⟨b, 0, none⟩ = some (.int .i64 o.K) := cell_of HK1.out rfl
    have f1 : (w1).cell? ⟨b, 1, none⟩ = some (.string o.G) := cell_of HK1.out rfl
    have f2 : (w1).cell? ⟨b, 2, none⟩ = some (.string o.I) := cell_of HK1.out rfl
    have f3 : (w1).cell? ⟨b, 3, none⟩ = some (.int .i64 o.E) := cell_of HK1.out rfl
    have f4 : (w1).cell? ⟨b, 4, none⟩ = some (.int .i64 o.S) := cell_of HK1.out rfl
    have f5 : (w1).cell? ⟨b, 5, none⟩ = some (.int .i64 o.N) := cell_of HK1.out rfl
    have f6 : (w1).cell? ⟨b, 6, none⟩ = some (.int .i64 o.V) := cell_of HK1.out rfl
    have f7 : (w1).cell? ⟨b, 7, none⟩ = some ((.slice A o.X.length c)) := cell_of HK1.out rfl
    clear hr ht hs0
    have hcall := Aside0.mk (opField o.K o.G o.I o.E o.S o.N o.V A c _ o.X sign r (w1) (HL.out.below HB1.out.bl) rfl (Kd.R_reads' HR1.out).2.2 (Kd.R_reads' HR1.out).2.1 H1.out)
    go_wp2_with (fail)
    refine hcall.out.mono ?_
    rintro _ w3 ⟨rfl, hb3⟩
    have hlt3 : b < (w1).heap.size := Nat.lt_of_lt_of_le HLT.out (Nat.le_refl _)
    have HK3 := Aside0.mk ((hb3.block b hlt3).trans HK1.out)
    have HR3 := Aside0.mk (Kd.R_below HR1.out hb3)
    have HB3 := Aside0.mk (HB1.out.step hb3)
    clear hb3 hlt3 f0 f1 f2 f3 f4 f5 f6 f7
    go_wp2_with (fail)
    go_ret
    rw [HS.out]
    exact ⟨_, by rw [H2.out, ← tl_beq]; rfl, HK3.out, HR3.out, HB3.out⟩
end Go.Proofs.YtdcknajlioalgaaDoor.QD
namespace Go.Proofs.YtdcknajlioalgaaDoor.QD
open Go.RowKit Go.Proofs.YtdcknajlioalgaaDoorW.PrintWords Go.Proofs.YtdcknajlioalgaaDoorW.PrintLast Go.Proofs.YtdcknajlioalgaaDoorW.PrintMore Go.Proofs.YtdcknajlioalgaaDoor.Hex
set_option linter.unusedVariables false
set_option linter.unusedSimpArgs false
/-- The words and their signs, by kinds. -/
def formL : List (ByteArray × ByteArray) := [(⟨#[]⟩, ⟨#[]⟩), (⟨#[99, 114, 101, 97, 116, 101]⟩, ⟨#[103, 115, 120]⟩), (⟨#[110, 101, 120, 116]⟩, ⟨#[103, 101, 115, 110]⟩), (⟨#[115, 116, 97, 103, 101]⟩, ⟨#[103, 105, 120]⟩), (⟨#[118, 101, 114, 100, 105, 99, 116]⟩, ⟨#[103, 101, 105, 118]⟩), (⟨#[101, 120, 112, 111, 114, 116]⟩, ⟨#[103, 101]⟩), (⟨#[99, 108, 111, 115, 101]⟩, ⟨#[103]⟩), (⟨#[107, 101, 121, 112, 117, 116]⟩, ⟨#[105, 120]⟩), (⟨#[107, 101, 121, 116, 97, 107, 101]⟩, ⟨#[105]⟩), (⟨#[108, 111, 111, 107]⟩, ⟨#[103]⟩)]
def formC : Array Value := #[.string ⟨#[]⟩, .string ⟨#[]⟩, .string ⟨#[99, 114, 101, 97, 116, 101]⟩, .string ⟨#[103, 115, 120]⟩, .string ⟨#[110, 101, 120, 116]⟩, .string ⟨#[103, 101, 115, 110]⟩, .string ⟨#[115, 116, 97, 103, 101]⟩, .string ⟨#[103, 105, 120]⟩, .string ⟨#[118, 101, 114, 100, 105, 99, 116]⟩, .string ⟨#[103, 101, 105, 118]⟩, .string ⟨#[101, 120, 112, 111, 114, 116]⟩, .string ⟨#[103, 101]⟩, .string ⟨#[99, 108, 111, 115, 101]⟩, .string ⟨#[103]⟩, .string ⟨#[107, 101, 121, 112, 117, 116]⟩, .string ⟨#[105, 120]⟩, .string ⟨#[107, 101, 121, 116, 97, 107, 101]⟩, .string ⟨#[105]⟩, .string ⟨#[108, 111, 111, 107]⟩, .string ⟨#[103]⟩]
theorem results_forms {t : Tmp} {fn : Func} (h : fn.results = #[.cell t 82]) (tmps : Array Value) (w : World) (hp : tmps.getD t undef = .pointer (some ⟨w.heap.size, 0, none⟩)) :
    (results fn tmps).run Tryd.prog (w.alloc (.cells formC 82)) = .ok (.agg formC) (w.alloc (.cells formC 82)) := by
  have hl := run_loadVar_new (P := Tryd.prog) w 82 formC 10 81 Tryd.underlying82 (by kernel_rfl)
  simp [results, h]
  rw [show tmps[t]?.getD undef = .pointer (some ⟨w.heap.size, 0, none⟩) by simpa using hp]
  simp only [Sem.run_bind, Result.andThen]
  exact hl
theorem forms (w : World) : Calls Tryd.prog 33 #[] w fun e w' => e = .returned (.agg formC) ∧ Below w.heap.size w w' := by
  have hu81 := Tryd.underlying81
  go_enter Tryd.func33, Tryd.ntmps33
  go_wp2_with ((with_reducible refine gate_ (.store 82 (.tmp 0) (.tmp 10)) rfl ?_); go_loud (refine wpList_store_row rfl 82 (.tmp 0) (.tmp 10) rfl w.heap.size formC rfl rfl 82 _ (heap_alloc_new _ _) (by kernel_rfl) rfl (by kernel_rfl) ?_); rw [World.setRow_alloc_new])
  refine bodyPost_ret (results_forms rfl _ w rfl) rfl ⟨rfl, below_alloc (Below.refl _ _) _⟩
end Go.Proofs.YtdcknajlioalgaaDoor.QD
namespace Go.Proofs.YtdcknajlioalgaaDoor.QD
open Go.RowKit Go.Proofs.YtdcknajlioalgaaDoorW.PrintWords Go.Proofs.YtdcknajlioalgaaDoorW.PrintLast Go.Proofs.YtdcknajlioalgaaDoorW.PrintMore Go.Proofs.YtdcknajlioalgaaDoor.Hex
set_option linter.unusedVariables false
set_option linter.unusedSimpArgs false
/-- The closure of op.Parse: is the form's word the first word? (block p holds the words' slice) -/
theorem parse1 (p q : Nat) (x y h : ByteArray) (m c : Nat) (w : World) (h4 : w.cell? ⟨p, 0, none⟩ = some (.slice (some ⟨q, 0, none⟩) m c)) (hm : 0 < m) (h0 : w.cell? ⟨q, 0, none⟩ = some (.string h)) (hp : p < w.heap.size) (hq : q < w.heap.size) :
    Calls Tryd.prog 41 #[.agg #[.string x, .string y], .pointer (some ⟨p, 0, none⟩)] w fun e w' => e = .returned (.bool (decide (x = h) && !decide (x = ⟨#[]⟩))) ∧ Below w.heap.size w w' := by
  have hu81 := Tryd.underlying81
  have hz : (0 : Int) < m := by omega
  have g4 : (w.alloc (.cells #[.string x, .string y] 81)).cell? ⟨p, 0, none⟩ = some (.slice (some ⟨q, 0, none⟩) m c) := ((below_alloc (Below.refl w.heap.size w) _).cell hp).trans h4
  have g0 : (w.alloc (.cells #[.string x, .string y] 81)).cell? ⟨q, 0, none⟩ = some (.string h) := ((below_alloc (Below.refl w.heap.size w) _).cell hq).trans h0
  have g2 : (w.alloc (.cells #[.string x, .string y] 81)).cell? ⟨w.heap.size, 0, none⟩ = some (.string x) := cell_of (heap_alloc_new _ _) rfl
  have HB := Aside0.mk (below_alloc (Below.refl w.heap.size w) (.cells #[.string x, .string y] 81))
  clear h4 h0 hp hq
  by_cases hx : x = h
  · have e1 : (x.toList == h.toList) = true := by rw [tl_beq]; exact decide_eq_true hx
    have HX := Aside0.mk hx
    by_cases hxe : x = ⟨#[]⟩
    · have HE := Aside0.mk hxe
      have e2 : x.toList.isEmpty = true := by rw [hxe, Lib.toList_data]; rfl
      clear hx hxe
      go_enter Tryd.func41, Tryd.ntmps41
      go_wp2_with (fail)
      go_quiet (fail)
      go_wp2_with (fail)
      go_ret
      exact ⟨by rw [decide_eq_true HX.out, decide_eq_true HE.out]; rfl, pw_below_drewN HB.out _⟩
    · have HE := Aside0.mk hxe
      have e2 := isEmpty_false hxe
      clear hx hxe
      go_enter Tryd.func41, Tryd.ntmps41
      go_wp2_with (fail)
      go_quiet (fail)
      go_wp2_with (fail)
      go_ret
      exact ⟨by rw [decide_eq_true HX.out, decide_eq_false HE.out]; rfl, pw_below_drewN HB.out _⟩
  · have e1 : (x.toList == h.toList) = false := by rw [tl_beq]; exact decide_eq_false hx
    have HX := Aside0.mk hx
    clear hx
    go_enter Tryd.func41, Tryd.ntmps41
    go_wp2_with (fail)
    go_quiet (fail)
    go_wp2_with (fail)
    go_ret
    exact ⟨by rw [decide_eq_false HX.out]; rfl, pw_below_drewN HB.out _⟩
end Go.Proofs.YtdcknajlioalgaaDoor.QD
namespace Go.Proofs.YtdcknajlioalgaaDoor.QD
open Go.RowKit Go.Proofs.YtdcknajlioalgaaDoorW.PrintWords Go.Proofs.YtdcknajlioalgaaDoorW.PrintLast Go.Proofs.YtdcknajlioalgaaDoorW.PrintMore Go.Proofs.YtdcknajlioalgaaDoor.Hex
set_option linter.unusedVariables false
set_option linter.unusedSimpArgs false
def formIs (h : ByteArray) (f : ByteArray × ByteArray) : Bool := decide (f.1 = h) && !decide (f.1 = ⟨#[]⟩)
def kindFrom (h : ByteArray) : List (ByteArray × ByteArray) → Nat → Int
  | [], _ => -1
  | f :: l, i => if formIs h f = true then (i : Int) else kindFrom h l (i + 1)
/-- The kind whose word it is; -1: none. -/
def kindOf (h : ByteArray) : Int := kindFrom h formL 0
theorem formC_at (j : Nat) (hj : j < 10) : formC[j * 2]? = some (.string (formL.getD j (⟨#[]⟩, ⟨#[]⟩)).1) ∧ formC[j * 2 + 1]? = some (.string (formL.getD j (⟨#[]⟩, ⟨#[]⟩)).2) := by
  rcases (show j = 0 ∨ j = 1 ∨ j = 2 ∨ j = 3 ∨ j = 4 ∨ j = 5 ∨ j = 6 ∨ j = 7 ∨ j = 8 ∨ j = 9 by omega) with rfl | rfl | rfl | rfl | rfl | rfl | rfl | rfl | rfl | rfl <;> exact ⟨rfl, rfl⟩
theorem kind_step (h : ByteArray) (k : Nat) (hk : k < 10) : kindFrom h (formL.drop k) k = if formIs h (formL.getD k (⟨#[]⟩, ⟨#[]⟩)) = true then (k : Int) else kindFrom h (formL.drop (k + 1)) (k + 1) := by
  have hl : formL.length = 10 := rfl
  rw [List.drop_eq_getElem_cons (by omega), kindFrom, List.getD_eq_getElem?_getD, List.getElem?_eq_getElem (by omega)]
  rfl
set_option maxRecDepth 100000 in
theorem indexForm (L p q : Nat) (h : ByteArray) (m c : Nat) (w : World) (h4 : w.cell? ⟨p, 0, none⟩ = some (.slice (some ⟨q, 0, none⟩) m c)) (hm : 0 < m) (h0 : w.cell? ⟨q, 0, none⟩ = some (.string h)) (hp : p < w.heap.size) (hq : q < w.heap.size)
    (hL : w.heap[L]? = some (.cells formC 82 (0, 0))) :
    Calls Tryd.prog 40 #[.slice (some ⟨L, 0, none⟩) 10 10, .func (Fn.func 41) #[] #[.pointer (some ⟨p, 0, none⟩)]] w fun e w' => e = .returned (.int .i64 (kindOf h)) ∧ Below w.heap.size w w' := by
  have hu81 := Tryd.underlying81
  have hLt : L < w.heap.size := by
    rcases Nat.lt_or_ge L w.heap.size with h | h
    · exact h
    · rw [Array.getElem?_eq_none h] at hL
      cases hL
  have H4 := Aside0.mk h4
  have H0 := Aside0.mk h0
  have HL := Aside0.mk hL
  have HP := Aside0.mk hp
  have HQ := Aside0.mk hq
  have HLT := Aside0.mk hLt
  have HM := Aside0.mk hm
  clear h4 h0 hL hp hq hLt hm
  go_enter Tryd.func40, Tryd.ntmps40
  go_wp2_with (fail)
  go_loopw [5, 8] (fun v5 v8 wr => ∃ k : Nat, v8 = .int .i64 k ∧ k ≤ 10 ∧ Aside0 (kindOf h = kindFrom h (formL.drop k) k) ∧ Aside0 (Below w.heap.size w wr)) (fun _ v8 _ => 10 - (intOf v8).toNat)
  case atStart => exact ⟨0, rfl, by decide, ⟨rfl⟩, ⟨Below.refl _ _⟩⟩
  case round =>
    obtain ⟨k, rfl, hk, HK, HB⟩ := hrel
    by_cases hlt : k < 10
    · have hlt1 : decide ((k : Int) < 10) = true := decide_eq_true (by omega)
      have i1 : (k : Int) < 10 := by omega
      have hb := (HB.out.block L HLT.out).trans HL.out
      have c0 := cell_of hb (formC_at k hlt).1
      have c1 := cell_of hb (formC_at k hlt).2
      clear hb
      generalize hf : formL.getD k (⟨#[]⟩, ⟨#[]⟩) = f at c0 c1
      have HF := Aside0.mk hf
      clear hf
      obtain ⟨f1, f2⟩ := f
      go_wp2_with (fail)
      refine (parse1 p q f1 f2 h m c wr ((HB.out.cell HP.out).trans H4.out) HM.out ((HB.out.cell HQ.out).trans H0.out) (Nat.lt_of_lt_of_le HP.out HB.out.size) (Nat.lt_of_lt_of_le HQ.out HB.out.size)).mono ?_
      rintro _ w1 ⟨rfl, hb1⟩
      have HB1 := Aside0.mk (HB.out.trans (hb1.mono HB.out.size))
      have hs := kind_step h k hlt
      rw [HF.out] at hs
      clear hb1 c0 c1
      change Aside0 (kindOf h = _) at HK
      by_cases hg : formIs h (f1, f2) = true
      · have hg1 : (decide (f1 = h) && !decide (f1 = (⟨#[]⟩ : ByteArray))) = true := hg
        rw [if_pos hg] at hs
        have HS := Aside0.mk (HK.out.trans hs)
        rw [hg1]
        clear hs hg hg1
        go_wp2_with (fail)
        go_ret
        exact ⟨by rw [HS.out]; rfl, HB1.out⟩
      · have hg0 : formIs h (f1, f2) = false := by simpa using hg
        have hg1 : (decide (f1 = h) && !decide (f1 = (⟨#[]⟩ : ByteArray))) = false := hg0
        rw [if_neg hg] at hs
        have HS := Aside0.mk (HK.out.trans hs)
        rw [hg1]
        clear hs hg hg0 hg1
        go_wp2_with (fail)
        exact ⟨⟨k + 1, by norm_cast, by omega, HS, HB1⟩, by show _ < _; simp only [intOf]; omega⟩
    · have hlt1 : decide ((k : Int) < 10) = false := decide_eq_false (by omega)
      have hkk : k = 10 := by omega
      subst hkk
      have HS := Aside0.mk (HK.out.trans (show kindFrom h (formL.drop 10) 10 = -1 from rfl))
      go_wp2_with (fail)
      go_ret
      exact ⟨by rw [HS.out]; rfl, HB.out⟩
end Go.Proofs.YtdcknajlioalgaaDoor.QD
namespace Go.Proofs.YtdcknajlioalgaaDoor.QD
open Go.RowKit Go.Proofs.YtdcknajlioalgaaDoorW.PrintWords Go.Proofs.YtdcknajlioalgaaDoorW.PrintLast Go.Proofs.YtdcknajlioalgaaDoorW.PrintMore Go.Proofs.YtdcknajlioalgaaDoor.Hex
set_option linter.unusedVariables false
set_option linter.unusedSimpArgs false
/-! ### cuts -/
def cutL (c : UInt8) : List UInt8 → List UInt8 → List (List UInt8)
  | cur, [] => [cur]
  | cur, b :: l => if b = c then cur :: cutL c [] l else cutL c (cur ++ [b]) l
def asText (l : List UInt8) : ByteArray := ⟨l.toArray⟩
theorem asText_size (a : List UInt8) : (asText a).size = a.length := by simp [asText, ByteArray.size]
theorem indexByte_at (c : UInt8) (l : List UInt8) : ∀ pre : List UInt8, c ∉ pre → Lib.indexByte (pre ++ c :: l) c = (pre.length : Int)
  | [], _ => by
    show (if (c == c) = true then (0 : Int) else _) = _
    rw [if_pos (beq_self_eq_true c)]; rfl
  | a :: pre, h => by
    have h1 : ¬ a = c := fun e => h (by rw [e]; simp)
    have h2 := indexByte_at c l pre (fun e => h (by simp [e]))
    show (if (a == c) = true then (0 : Int) else if (Lib.indexByte (pre ++ c :: l) c == -1) = true then -1 else Lib.indexByte (pre ++ c :: l) c + 1) = _
    rw [if_neg (by simpa using h1), h2, if_neg (by rw [beq_iff_eq]; omega)]
    simp
theorem splitK_cut (c : UInt8) : ∀ (l pre : List UInt8), c ∉ pre → Lib.splitK [c] 0 (Lib.count l [c]) (pre ++ l) = cutL c pre l
  | [], pre, _ => by
    rw [Lib.count_one]
    show [pre ++ []] = [pre]
    rw [List.append_nil]
  | b :: l, pre, h => by
    by_cases hb : b = c
    · subst hb
      rw [Lib.count_cons_eq, Nat.add_comm, Lib.splitK, Lib.index_one, indexByte_at b l pre h, if_neg (by rw [beq_iff_eq]; omega), cutL, if_pos rfl]
      have e1 : ((pre.length : Int)).toNat = pre.length := by omega
      rw [e1, Nat.add_zero, List.take_left' rfl]
      have e2 : (pre ++ b :: l).drop (pre.length + [b].length) = l := by
        rw [show pre ++ b :: l = (pre ++ [b]) ++ l by simp]
        exact List.drop_left' (by simp)
      rw [e2]
      have := splitK_cut b l [] (by simp)
      rw [List.nil_append] at this
      rw [this]
    · rw [Lib.count_cons_ne b c l hb, cutL, if_neg hb, ← splitK_cut c l (pre ++ [b]) (by simp [h, Ne.symm hb])]
      simp
theorem splitO_cut (c : UInt8) (s : ByteArray) : splitO c s = (cutL c [] s.data.toList).map asText := by
  have h := Lib.splitB_data ⟨#[c]⟩ 0 (Lib.countB s ⟨#[c]⟩) s
  have h2 : Lib.splitK [c] 0 (Lib.countB s ⟨#[c]⟩) s.data.toList = cutL c [] s.data.toList := by
    have := splitK_cut c s.data.toList [] (by simp)
    rw [List.nil_append] at this
    exact this
  have h3 : (splitO c s).map (·.data.toList) = cutL c [] s.data.toList := h.trans h2
  rw [← h3, List.map_map]
  have : (asText ∘ fun x : ByteArray => x.data.toList) = id := by
    funext x
    simp [asText]
  rw [this, List.map_id]
theorem cutL_small (c : UInt8) : ∀ (l cur x : List UInt8), x ∈ cutL c cur l → x.length ≤ cur.length + l.length
  | [], cur, x, h => by
    have : x = cur := by simpa [cutL] using h
    rw [this]; exact Nat.le_add_right _ _
  | b :: l, cur, x, h => by
    unfold cutL at h
    by_cases hb : b = c
    · rw [if_pos hb] at h
      rcases List.mem_cons.1 h with rfl | h
      · omega
      · have := cutL_small c l [] x h
        simp at this ⊢
        omega
    · rw [if_neg hb] at h
      have := cutL_small c l (cur ++ [b]) x h
      simp at this ⊢
      omega
theorem splitO_small (c : UInt8) (s x : ByteArray) (h : x ∈ splitO c s) : x.size ≤ s.size := by
  rw [splitO_cut] at h
  obtain ⟨l, hl, rfl⟩ := List.mem_map.1 h
  have := cutL_small c _ _ _ hl
  rw [data_length] at this
  rw [asText_size]
  simpa using this
theorem cutL_ne (c : UInt8) : ∀ (l cur : List UInt8), cutL c cur l ≠ []
  | [], cur => by simp [cutL]
  | b :: l, cur => by
    unfold cutL
    by_cases hb : b = c
    · rw [if_pos hb]; simp
    · rw [if_neg hb]; exact cutL_ne c l _
theorem cutL_len (c : UInt8) : ∀ (l cur : List UInt8), (cutL c cur l).length ≤ l.length + 1
  | [], cur => by simp [cutL]
  | b :: l, cur => by
    unfold cutL
    by_cases hb : b = c
    · rw [if_pos hb]
      have := cutL_len c l []
      simp at this ⊢; omega
    · rw [if_neg hb]
      have := cutL_len c l (cur ++ [b])
      simp at this ⊢; omega
theorem bt_drop (s : ByteArray) (i : Nat) (h : i < s.size) : ∃ b : UInt8, s.data.toList.drop i = b :: s.data.toList.drop (i + 1) ∧ bt s i = b.toNat ∧ s.extract i (i + 1) = asText [b] := by
  have hl : i < s.data.toList.length := by rw [data_length]; exact h
  refine ⟨s.data.toList[i], List.drop_eq_getElem_cons hl, ?_, ?_⟩
  · unfold bt
    rw [dif_pos (by simpa using h)]
    rfl
  · apply ByteArray.ext
    apply Array.toList_inj.mp
    rw [Lib.extract_data, List.drop_eq_getElem_cons hl, show i + 1 - i = 0 + 1 by omega]
    simp [asText]
theorem asText_app (a b : List UInt8) : asText a ++ asText b = asText (a ++ b) := by
  apply ByteArray.ext
  simp [asText]
theorem asText_data (s : ByteArray) : asText s.data.toList = s := by simp [asText]
theorem split_loop (s : ByteArray) (hs : s.size ≤ 1000000) : ∀ (b i k : Nat) (P : List ByteArray) (cur : List UInt8), i + b = s.size → P.length ≤ i → cur.length ≤ i →
    oublietteref39_split.l0 (k + b + 1) s (P ++ [asText cur]) i = some (P ++ (cutL 32 cur (s.data.toList.drop i)).map asText)
  | 0, i, k, P, cur, h, hP, hc => by
    rw [oublietteref39_split.l0, if_neg (by omega), List.drop_eq_nil_of_le (by rw [data_length]; omega)]
    rfl
  | b + 1, i, k, P, cur, h, hP, hc => by
    obtain ⟨x, hx, hbt, hex⟩ := bt_drop s i (by omega)
    have hw : wrap64 ((i : Int) + 1) = ((i + 1 : Nat) : Int) := by unfold wrap64; omega
    rw [show k + (b + 1) + 1 = (k + b + 1) + 1 by omega, oublietteref39_split.l0, if_pos (by omega), if_pos (by omega), hx, cutL, hbt]
    by_cases c : x = 32
    · subst c
      rw [if_pos (by decide), if_pos (by simp; omega), if_pos rfl, hw]
      have := split_loop s hs b (i + 1) k (P ++ [asText cur]) [] (by omega) (by simp; omega) (by simp)
      rw [show (⟨#[]⟩ : ByteArray) = asText [] from rfl, this]
      simp
    · have c' : ¬ (x.toNat : Int) = 32 := by
        intro e
        have e2 : x.toNat = 32 := by omega
        exact c (UInt8.toNat.inj e2)
      have hl : wrap64 (((P ++ [asText cur]).length : Int) - 1) = ((P.length : Nat) : Int) := by
        rw [List.length_append, List.length_singleton]
        unfold wrap64; omega
      have hr : rdOf ByteArray.empty (P ++ [asText cur]) ((P.length : Nat) : Int) = asText cur := by
        simp [rdOf]
      rw [if_neg c', if_neg c, hl, if_pos (by omega), if_pos (by rw [List.length_append, List.length_singleton]; omega), hw, if_pos (by omega), if_pos (by omega), hr]
      have e1 : ((i : Int)).toNat = i := by omega
      have e2 : (((i + 1 : Nat) : Int)).toNat = i + 1 := by omega
      have e3 : ((P.length : Int)).toNat = P.length := by omega
      rw [e1, e2, e3, hex, asText_size, asText_size, if_pos (by simp; omega), asText_app]
      have hset : (P ++ [asText cur]).set P.length (asText (cur ++ [x])) = P ++ [asText (cur ++ [x])] := by simp
      rw [hset]
      exact split_loop s hs b (i + 1) k P (cur ++ [x]) (by omega) (by omega) (by simp; omega)
theorem ref_split (s : ByteArray) (hs : s.size ≤ 1000000) (k : Nat) : oublietteref39_split.f (k + s.size + 1) s = some (splitO 32 s) := by
  unfold oublietteref39_split.f
  have := split_loop s hs s.size 0 k [] [] (by omega) (by simp) (by simp)
  rw [List.nil_append, List.nil_append, List.drop_zero, ← splitO_cut] at this
  exact this
/-! ### numbers -/
theorem getD_drop (l : List Int) (i : Nat) (h : i < l.length) : l.drop i = l.getD i 0 :: l.drop (i + 1) := by
  rw [List.drop_eq_getElem_cons h, List.getD_eq_getElem?_getD, List.getElem?_eq_getElem h]
  rfl
theorem small_digit (n : Nat) (h : n < 10) : strOfNums [wrap64 (48 + (n : Int)) % 256] = asText (Lib.decDigits n) := by
  rcases (show n = 0 ∨ n = 1 ∨ n = 2 ∨ n = 3 ∨ n = 4 ∨ n = 5 ∨ n = 6 ∨ n = 7 ∨ n = 8 ∨ n = 9 by omega) with rfl | rfl | rfl | rfl | rfl | rfl | rfl | rfl | rfl | rfl <;>
    (rw [Lib.decDigits, dif_pos (by decide)]; decide +kernel)
theorem digits_len : ∀ (k n : Nat), n < 10 ^ (k + 1) → (Lib.decDigits n).length ≤ k + 1
  | 0, n, h => by rw [Lib.decDigits, dif_pos (by simpa using h)]; simp
  | k + 1, n, h => by
    rw [Lib.decDigits]
    by_cases c : n < 10
    · rw [dif_pos c]; simp
    · rw [dif_neg c, List.length_append]
      have := digits_len k (n / 10) (by rw [Nat.pow_succ] at h; omega)
      simp; omega
theorem print_loop : ∀ (b n k : Nat), n < 10 ^ (b + 1) → n ≤ 1000000000000 → oublietteref01_Print.f (k + b + 2) (n : Int) = some (asText (Lib.decDigits n))
  | 0, n, k, h, hn => by
    rw [show k + 0 + 2 = (k + 1) + 1 by omega, oublietteref01_Print.f, if_neg (by omega), if_pos (by simp at h; omega), small_digit n (by simpa using h)]
  | b + 1, n, k, h, hn => by
    rw [show k + (b + 1) + 2 = (k + b + 2) + 1 by omega, oublietteref01_Print.f, if_neg (by omega)]
    by_cases c : n < 10
    · rw [if_pos (by omega), small_digit n c]
    · rw [if_neg (by omega)]
      have e1 : wrap64 (Int.tdiv (n : Int) 10) = ((n / 10 : Nat) : Int) := by
        rw [Int.tdiv_eq_ediv_of_nonneg (by omega)]
        unfold wrap64; omega
      have e2 : Int.tmod (n : Int) 10 = ((n % 10 : Nat) : Int) := by
        rw [Int.tmod_eq_emod_of_nonneg (by omega)]
        omega
      have i1 := print_loop b (n / 10) k (by rw [Nat.pow_succ] at h; omega) (by omega)
      have i2 := print_loop 0 (n % 10) (k + b) (by simp; omega) (by omega)
      rw [show k + b + 0 + 2 = k + b + 2 by omega] at i2
      rw [e1, e2, i1, i2]
      simp only [Option.bind_some]
      have hd : Lib.decDigits (n % 10) = [UInt8.ofNat (48 + n % 10)] := by rw [Lib.decDigits, dif_pos (by omega)]
      have hl := digits_len 12 (n / 10) (by omega)
      rw [if_pos (by rw [asText_size, asText_size, hd]; simp; omega), asText_app, Lib.decDigits.eq_1 n, dif_neg c, hd]
theorem ref_print (n : Int) (h0 : 0 ≤ n) (h1 : n ≤ 1000000000000) (k : Nat) : oublietteref01_Print.f (k + 14) n = num_Print.f n := by
  obtain ⟨m, rfl⟩ : ∃ m : Nat, n = m := ⟨n.toNat, by omega⟩
  rw [show k + 14 = k + 12 + 2 by omega, print_loop 12 m k (by omega) (by omega)]
  unfold num_Print.f
  rw [if_neg (by omega), if_pos (by omega), Lib.itoa_nonneg]
  rfl
/-! ### bytes -/
end Go.Proofs.YtdcknajlioalgaaDoor.QD
namespace Go.Proofs.YtdcknajlioalgaaDoor.QD
open Go.RowKit Go.Proofs.YtdcknajlioalgaaDoorW.PrintWords Go.Proofs.YtdcknajlioalgaaDoorW.PrintLast Go.Proofs.YtdcknajlioalgaaDoorW.PrintMore Go.Proofs.YtdcknajlioalgaaDoor.Hex
set_option linter.unusedVariables false
set_option linter.unusedSimpArgs false
def signsOf (k : Nat) : ByteArray := (formL.getD k (⟨#[]⟩, ⟨#[]⟩)).2
def opZero (k : Int) : OpV := ⟨k, ⟨#[]⟩, ⟨#[]⟩, 0, 0, 0, 0, []⟩
/-- The words read one behind the other. -/
def readAll : OpV → List Int → List ByteArray → Option (OpV × Bool)
  | o, [], _ => some (o, true)
  | _, _ :: _, [] => none
  | o, g :: gs, s :: ss => (o.fits g s).bind fun t => if t = true then readAll (o.set g s) gs ss else some (o, false)
def parseK (k : Int) (tl : List ByteArray) : Option (OpV × Int) :=
  if k < 0 ∨ tl.length ≠ (signsOf k.toNat).size then some (opZero 0, 3) else (readAll (opZero k) (bytesOf (signsOf k.toNat)) tl).map fun r => if r.2 = true then (r.1, 0) else (opZero 0, 3)
def parseW : List ByteArray → Option (OpV × Int)
  | [] => none
  | hd :: tl => parseK (kindOf hd) tl
/-- op.Parse: the operation, the fault. -/
def opParse (s : ByteArray) : Option (OpV × Int) := if s.size ≤ 1000000 then parseW (splitO 32 s) else none
def OpPost (w : World) (o : OpV) (f : Int) (e : Ending) (w' : World) : Prop :=
  ∃ v, e = .returned (.tuple #[.agg (o.cells v), .int .i64 f]) ∧ Kd.R (Kd.int .u8) 5 w' w.heap.size (fun _ => True) v o.X ∧ Below w.heap.size w w'
theorem kindFrom_range (h : ByteArray) : ∀ (l : List (ByteArray × ByteArray)) (i : Nat), kindFrom h l i = -1 ∨ (i : Int) ≤ kindFrom h l i ∧ kindFrom h l i < i + l.length
  | [], i => .inl rfl
  | f :: l, i => by
    unfold kindFrom
    by_cases c : formIs h f = true
    · rw [if_pos c]; simp only [List.length_cons]; omega
    · rw [if_neg c]
      have := kindFrom_range h l (i + 1)
      simp only [List.length_cons]
      omega
theorem kindOf_range (h : ByteArray) : kindOf h = -1 ∨ ∃ k : Nat, kindOf h = k ∧ k < 10 := by
  rcases kindFrom_range h formL 0 with h1 | ⟨h1, h2⟩
  · exact .inl h1
  · refine .inr ⟨(kindOf h).toNat, ?_, ?_⟩
    · unfold kindOf; omega
    · have : formL.length = 10 := rfl
      unfold kindOf; omega
theorem signsOf_all : ∀ k : Fin 10, (signsOf k.val).size ≤ 4 ∧ (bytesOf (signsOf k.val)).all (fun c => decide (0 ≤ c) && decide (c < 128)) = true := by decide +kernel
theorem signsOf_size {k : Nat} (h : k < 10) : (signsOf k).size ≤ 4 := (signsOf_all ⟨k, h⟩).1
theorem next_byte (wr : World) (it : Nat) (sg : ByteArray) (pos : Nat) (hk : wr.heap[it]? = some (.stringIter sg pos)) (hp : pos < sg.size) (ha : (bytesOf sg).all (fun c => decide (0 ≤ c) && decide (c < 128)) = true) :
    ∃ c : Int, (bytesOf sg).drop pos = c :: (bytesOf sg).drop (pos + 1) ∧ ∀ ty, (Instr.next (.pointer (some ⟨it, 0, none⟩)) true ty).run Tryd.prog wr = .ok (.tuple #[.bool true, .int .i64 pos, .int .i32 c]) (wr.iterAt it sg (pos + 1)) := by
  have hl : pos < (bytesOf sg).length := by rw [bytesOf_length]; exact hp
  have he : (bytesOf sg).getD pos 0 = ((sg[pos]'hp).toNat : Int) := by
    rw [bt_list]
    unfold bt
    rw [dif_pos (by simpa using hp)]
    rfl
  have h1 := List.all_eq_true.1 ha ((bytesOf sg).getD pos 0) (by rw [List.getD_eq_getElem?_getD, List.getElem?_eq_getElem hl]; exact List.getElem_mem hl)
  rw [he, Bool.and_eq_true, decide_eq_true_eq, decide_eq_true_eq] at h1
  refine ⟨((sg[pos]'hp).toNat : Int), ?_, fun ty => Lib.run_next_ascii_at wr it sg pos ty hk hp (by omega)⟩
  rw [getD_drop _ _ hl, he]
theorem word_at (tl : List ByteArray) (hd : ByteArray) (pos : Nat) (h : pos < tl.length) : ∃ x, tl.drop pos = x :: tl.drop (pos + 1) ∧ x ∈ hd :: tl ∧ ((hd :: tl).map Value.string).toArray[pos + 1]? = some (.string x) := by
  refine ⟨tl[pos], List.drop_eq_getElem_cons h, List.mem_cons_of_mem _ (List.getElem_mem h), ?_⟩
  simp [h]
theorem R_iterAt {w : World} {base b it pos pos' : Nat} {v : Value} {X : List Int} {sg : ByteArray} (h : Kd.R (Kd.int .u8) 5 w base (fun k => k ≠ b) v X) (hit : w.heap[it]? = some (.stringIter sg pos)) : Kd.R (Kd.int .u8) 5 (w.iterAt it sg pos') base (fun k => k ≠ b) v X := by
  refine Kd.R_mono (Kd.R_move (Kd.R_bound h) (fun k hk => Lib.iterAt_other w it k sg pos' ?_)) (fun k hk => hk.1)
  rintro rfl
  obtain ⟨_, _, _, q, _, cells, hc⟩ := hk
  rw [hit] at hc
  cases hc
theorem R_setRow {w : World} {base g t : Nat} {ok : Nat → Prop} {v : Value} {X : List Int} {cells : Array Value} (h : Kd.R (Kd.int .u8) 5 w base ok v X) (hg : w.heap[g]? = some (.cells cells t (0, 0))) (ht : 5 ≠ t) (cs : Array Value) :
    Kd.R (Kd.int .u8) 5 (w.setRow g cs) base (fun _ => True) v X := by
  refine Kd.R_mono (Kd.R_move (Kd.R_types h hg (fun q hq => ?_)) (fun k hk => setRow_other w g k cs hk.2)) (fun _ _ => trivial)
  have : q = 5 := by simpa [Kd.int, Kd.scalar] using hq
  rw [this]
  exact ht
theorem below_setRow {B : Nat} {a w : World} (h : Below B a w) {g : Nat} (hg : B ≤ g) (cs : Array Value) : Below B a (w.setRow g cs) :=
  h.trans ⟨rfl, rfl, rfl, by rw [setRow_size]; exact Nat.le_refl _, fun i hi => setRow_other w g i cs (by omega)⟩
def zeroC : Array Value := #[.int .i64 0, .string ⟨#[]⟩, .string ⟨#[]⟩, .int .i64 0, .int .i64 0, .int .i64 0, .int .i64 0, .slice none 0 0]
theorem size_alloc (w : World) (o : Obj) : (w.alloc o).heap.size = w.heap.size + 1 := by
  unfold World.alloc
  show (w.heap.push o).size = _
  rw [Array.size_push]
theorem three (w : World) (a b c : Obj) : (((w.alloc a).alloc b).alloc c).heap[w.heap.size]? = some a ∧ (((w.alloc a).alloc b).alloc c).heap[w.heap.size + 1]? = some b
    ∧ (((w.alloc a).alloc b).alloc c).heap[w.heap.size + 1 + 1]? = some c ∧ Below w.heap.size w (((w.alloc a).alloc b).alloc c) := by
  have s1 := size_alloc w a
  have s2 := size_alloc (w.alloc a) b
  have h2 := heap_alloc_new (w.alloc a) b
  have h3 := heap_alloc_new ((w.alloc a).alloc b) c
  rw [s1] at h2
  rw [s2, s1] at h3
  refine ⟨?_, ?_, h3, below_alloc (below_alloc (below_alloc (Below.refl _ _) a) b) c⟩
  · rw [Below.heap_alloc _ _ _ (by omega), Below.heap_alloc _ _ _ (by omega)]
    exact heap_alloc_new w a
  · rw [Below.heap_alloc _ _ _ (by omega)]
    exact h2
set_option maxRecDepth 100000 in
theorem opParse_calls (s : ByteArray) (o : OpV) (f : Int) (w : World) (HLD : Laid w) (h : opParse s = some (o, f)) : Calls Tryd.prog 17 #[.string s] w (OpPost w o f) := by
  unfold opParse at h
  by_cases hs0 : ¬ s.size ≤ 1000000
  · rw [if_neg hs0] at h; cases h
  have hs : s.size ≤ 1000000 := Decidable.not_not.mp hs0
  clear hs0
  rw [if_pos hs] at h
  have hu28 := Tryd.underlying28
  have hu84 := Tryd.underlying84
  have hu82 := Tryd.underlying82
  have hu81 := Tryd.underlying81
  have hu96 := Tryd.underlying96
  have hlen := splitO_len 32 s
  have hws : ∀ x ∈ splitO 32 s, x.size ≤ s.size := splitO_small 32 s
  have hsp := Split_one s 32
  generalize splitO 32 s = ws at h hlen hws hsp
  cases ws with
  | nil => simp at hlen
  | cons hd tl =>
  rw [parseW] at h
  have HL := Aside0.mk HLD
  have HH := Aside0.mk h
  have HN := Aside0.mk hlen
  have HW := Aside0.mk hws
  have HS := Aside0.mk (hsp (w.alloc (.cells #[.int .i64 0, .string ⟨#[]⟩, .string ⟨#[]⟩, .int .i64 0, .int .i64 0, .int .i64 0, .int .i64 0, .slice none 0 0] 28)) (Nat.lt_of_le_of_lt hs (by decide)))
  clear HLD h hlen hws hsp
  go_enter Tryd.func17, Tryd.ntmps17
  go_wp2_with (fail)
  refine HS.out.mono ?_
  rintro _ w1 ⟨rfl, rfl⟩
  go_wp2_with (fail)
  obtain ⟨z0, z1, z2, zb⟩ := three w (.cells zeroC 28) (.cells ((hd :: tl).map Value.string).toArray 9) (.cells #[.slice (some ⟨w.heap.size + 1, 0, none⟩) (tl.length + 1) (tl.length + 1)] 84)
  have Z0 := Aside0.mk z0
  have Z1 := Aside0.mk z1
  have Z2 := Aside0.mk z2
  have ZB := Aside0.mk zb
  clear z0 z1 z2 zb
  refine (forms _).mono ?_
  rintro _ w2 ⟨rfl, hb⟩
  have hlt := fun k (o : Obj) (h : (((w.alloc (.cells zeroC 28)).alloc (.cells ((hd :: tl).map Value.string).toArray 9)).alloc (.cells #[.slice (some ⟨w.heap.size + 1, 0, none⟩) (tl.length + 1) (tl.length + 1)] 84)).heap[k]? = some o) => (hb.block k (Array.getElem?_eq_some_iff.1 h).1).trans h
  have Y0 := Aside0.mk (hlt _ _ Z0.out)
  have Y1 := Aside0.mk (hlt _ _ Z1.out)
  have Y2 := Aside0.mk (hlt _ _ Z2.out)
  have YB := Aside0.mk (ZB.out.trans (hb.mono ZB.out.size))
  clear hlt hb Z0 Z1 Z2 ZB
  go_wp2_with ((with_reducible refine gate_ (.store 82 (.tmp 5) (.tmp 13)) rfl ?_); go_loud (refine wpList_store_row rfl 82 (.tmp 5) (.tmp 13) rfl w2.heap.size formC rfl rfl 82 _ (heap_alloc_new _ _) (by kernel_rfl) rfl (by kernel_rfl) ?_); rw [World.setRow_alloc_new])
  have hlt := fun k (o : Obj) (h : w2.heap[k]? = some o) => (Below.heap_alloc w2 (.cells formC 82) k (Array.getElem?_eq_some_iff.1 h).1).trans h
  have X0 := Aside0.mk (hlt _ _ Y0.out)
  have X1 := Aside0.mk (hlt _ _ Y1.out)
  have X2 := Aside0.mk (hlt _ _ Y2.out)
  have X3 := Aside0.mk (heap_alloc_new w2 (.cells formC 82))
  have XB := Aside0.mk (below_alloc YB.out (.cells formC 82))
  clear hlt Y0 Y1 Y2 YB
  generalize hL : w2.heap.size = L at X3 ⊢
  generalize w2.alloc (.cells formC 82) = w3 at X0 X1 X2 X3 XB ⊢
  have hsz := fun k (o : Obj) (h : w3.heap[k]? = some o) => (Array.getElem?_eq_some_iff.1 h).1
  obtain ⟨K0, hK0⟩ : ∃ K0, kindOf hd = K0 := ⟨_, rfl⟩
  have IX := (indexForm L (w.heap.size + 1 + 1) (w.heap.size + 1) hd (tl.length + 1) (tl.length + 1) w3 (cell_of X2.out rfl) (Nat.succ_pos _) (cell_of X1.out rfl) (hsz _ _ X2.out) (hsz _ _ X1.out) X3.out)
  rw [hK0] at IX
  refine IX.mono ?_
  clear IX
  rintro _ w4 ⟨rfl, hb⟩
  clear hsz
  have hlt := fun k (o : Obj) (h : w3.heap[k]? = some o) => (hb.block k (Array.getElem?_eq_some_iff.1 h).1).trans h
  have Y0 := Aside0.mk (hlt _ _ X0.out)
  have Y1 := Aside0.mk (hlt _ _ X1.out)
  have Y2 := Aside0.mk (hlt _ _ X2.out)
  have Y3 := Aside0.mk (hlt _ _ X3.out)
  have YB := Aside0.mk (XB.out.trans (hb.mono XB.out.size))
  clear hlt hb X0 X1 X2 X3 XB hL
  have h := HH.out
  clear HH
  have hkr := kindOf_range hd
  rw [hK0] at h hkr
  clear hK0
  unfold parseK at h
  by_cases hk0 : K0 < 0
  · rw [if_pos (.inl hk0)] at h
    obtain ⟨rfl, rfl⟩ := Prod.mk.inj (Option.some.inj h)
    have e1 : decide (K0 < 0) = true := decide_eq_true hk0
    clear h hkr hk0
    go_wp2_with (fail)
    go_quiet (fail)
    go_wp2_with ((with_reducible refine gate_ (.store 28 (.tmp 2) (.tmp 30)) rfl ?_); go_loud (refine wpList_store_row rfl 28 (.tmp 2) (.tmp 30) rfl w.heap.size zeroC rfl rfl 28 zeroC Y0.out (by kernel_rfl) rfl (by kernel_rfl) ?_))
    refine bodyPost_ret (results_ct rfl _ _ w.heap.size 28 zeroC (0, 0) _ rfl (setRow_heap _ _ _ _ _ _ Y0.out) hu28 rfl (by kernel_rfl)) rfl ⟨.slice none 0 0, rfl, Kd.R_nil _ _ _ _ _, below_setRow (pw_below_drewN YB.out _) (Nat.le_refl _) _⟩
  obtain ⟨k, rfl, hk10⟩ : ∃ k : Nat, K0 = k ∧ k < 10 := hkr.resolve_left (by omega)
  clear hkr
  have e1 : decide ((k : Int) < 0) = false := decide_eq_false hk0
  have c1 := cell_of Y3.out (formC_at k hk10).2
  have c2 := cell_of (o := 0) Y2.out rfl
  have hfr : ∀ x : ByteArray, signsOf k = x → (formL.getD k (⟨#[]⟩, ⟨#[]⟩)).2 = x := fun x h => h
  rw [hfr _ rfl] at c1
  clear hfr
  have i1 : (k : Int) < 10 := by omega
  have hsz := signsOf_size hk10
  have hwr : wrap64 (1 + ((signsOf k).size : Int)) = 1 + ((signsOf k).size : Int) := by unfold wrap64; omega
  by_cases hln : tl.length ≠ (signsOf k).size
  · rw [if_pos (.inr hln)] at h
    obtain ⟨rfl, rfl⟩ := Prod.mk.inj (Option.some.inj h)
    have e2 : ((tl.length : Int) + 1 != wrap64 (1 + ((signsOf k).size : Int))) = true := by rw [hwr, bne_iff_ne]; omega
    clear h hln hwr hsz
    go_wp2_with (fail)
    go_quiet (fail)
    go_wp2_with ((with_reducible refine gate_ (.store 28 (.tmp 2) (.tmp 30)) rfl ?_); go_loud (refine wpList_store_row rfl 28 (.tmp 2) (.tmp 30) rfl w.heap.size zeroC rfl rfl 28 zeroC Y0.out (by kernel_rfl) rfl (by kernel_rfl) ?_))
    refine bodyPost_ret (results_ct rfl _ _ w.heap.size 28 zeroC (0, 0) _ rfl (setRow_heap _ _ _ _ _ _ Y0.out) hu28 rfl (by kernel_rfl)) rfl ⟨.slice none 0 0, rfl, Kd.R_nil _ _ _ _ _, below_setRow (pw_below_drewN YB.out _) (Nat.le_refl _) _⟩
  have hln2 : tl.length = (signsOf k).size := Decidable.not_not.mp hln
  rw [if_neg (fun hh => hh.elim hk0 (fun h1 => h1 hln2)), show ((k : Int)).toNat = k from rfl] at h
  have e2 : ((tl.length : Int) + 1 != wrap64 (1 + ((signsOf k).size : Int))) = false := by rw [hwr, bne_eq_false_iff_eq]; omega
  have HH := Aside0.mk h
  have HLN := Aside0.mk hln2
  have HSZ := Aside0.mk hsz
  clear h hln hln2 hwr hsz
  go_wp2_with (fail)
  go_quiet (fail)
  have c3 : ∀ o, ((w4.drewN nq).alloc o).cell? ⟨L, k * 2 + 1, none⟩ = some (.string (signsOf k)) := fun o =>
    cell_of ((Below.heap_alloc (w4.drewN nq) o L (Array.getElem?_eq_some_iff.1 Y3.out).1).trans Y3.out) ((formC_at k hk10).2)
  go_wp2_with (fail)
  have hlt := fun j (o1 o2 : Obj) (h : w4.heap[j]? = some o1) (g : ByteArray) => (Below.heap_alloc ((w4.drewN nq).alloc o2) (.stringIter g 0) j (Nat.lt_trans (Array.getElem?_eq_some_iff.1 h).1 (alloc_lt (w4.drewN nq) o2))).trans ((Below.heap_alloc (w4.drewN nq) o2 j (Array.getElem?_eq_some_iff.1 h).1).trans h)
  have hob : ∀ o2 : Obj, (((w4.drewN nq).alloc o2).iter (signsOf k) 0).heap[w4.heap.size]? = some o2 := fun o2 => (Below.heap_alloc ((w4.drewN nq).alloc o2) (.stringIter (signsOf k) 0) w4.heap.size (alloc_lt (w4.drewN nq) o2)).trans (heap_alloc_new (w4.drewN nq) o2)
  have hoi : ∀ o2 : Obj, (((w4.drewN nq).alloc o2).iter (signsOf k) 0).heap[w4.heap.size + 1]? = some (.stringIter (signsOf k) 0) := fun o2 => by
    have h1 := World.iter_heap ((w4.drewN nq).alloc o2) (signsOf k) 0
    rw [size_alloc] at h1
    exact h1
  have F0 := Aside0.mk (hlt _ _ (.cells #[.int .i64 k, .string ⟨#[]⟩, .string ⟨#[]⟩, .int .i64 0, .int .i64 0, .int .i64 0, .int .i64 0, .slice none 0 0] 96) Y0.out (signsOf k))
  have F1 := Aside0.mk (hlt _ _ (.cells #[.int .i64 k, .string ⟨#[]⟩, .string ⟨#[]⟩, .int .i64 0, .int .i64 0, .int .i64 0, .int .i64 0, .slice none 0 0] 96) Y1.out (signsOf k))
  have F2 := Aside0.mk (hlt _ _ (.cells #[.int .i64 k, .string ⟨#[]⟩, .string ⟨#[]⟩, .int .i64 0, .int .i64 0, .int .i64 0, .int .i64 0, .slice none 0 0] 96) Y2.out (signsOf k))
  have FB := Aside0.mk (hob (.cells #[.int .i64 k, .string ⟨#[]⟩, .string ⟨#[]⟩, .int .i64 0, .int .i64 0, .int .i64 0, .int .i64 0, .slice none 0 0] 96))
  have FI := Aside0.mk (hoi (.cells #[.int .i64 k, .string ⟨#[]⟩, .string ⟨#[]⟩, .int .i64 0, .int .i64 0, .int .i64 0, .int .i64 0, .slice none 0 0] 96))
  have FW := Aside0.mk (below_alloc (below_alloc (pw_below_drewN YB.out nq) (.cells #[.int .i64 k, .string ⟨#[]⟩, .string ⟨#[]⟩, .int .i64 0, .int .i64 0, .int .i64 0, .int .i64 0, .slice none 0 0] 96)) (.stringIter (signsOf k) 0))
  have hbw : w.heap.size + 1 + 1 < w4.heap.size := (Array.getElem?_eq_some_iff.1 Y2.out).1
  change Aside0 (Below w.heap.size w (((w4.drewN nq).alloc _).iter (signsOf k) 0)) at FW
  change Aside0 ((((w4.drewN nq).alloc _).iter (signsOf k) 0).heap[w.heap.size]? = _) at F0
  change Aside0 ((((w4.drewN nq).alloc _).iter (signsOf k) 0).heap[w.heap.size + 1]? = _) at F1
  change Aside0 ((((w4.drewN nq).alloc _).iter (signsOf k) 0).heap[w.heap.size + 1 + 1]? = _) at F2
  clear hlt hob hoi c1 c2 c3 Y0 Y1 Y2 Y3 YB
  generalize (((w4.drewN nq).alloc (.cells #[.int .i64 k, .string ⟨#[]⟩, .string ⟨#[]⟩, .int .i64 0, .int .i64 0, .int .i64 0, .int .i64 0, .slice none 0 0] 96)).iter (signsOf k) 0) = w5 at F0 F1 F2 FB FI FW ⊢
  generalize w4.heap.size = b at FB FI hbw ⊢
  have HSG := Aside0.mk (signsOf_all ⟨k, hk10⟩).2
  generalize hsg : signsOf k = sg at HH HLN HSG HSZ FI ⊢
  clear e2 hsg
  go_loopw [9, 10] (fun v9 v10 wr => ∃ (pos : Nat) (o1 : OpV) (v : Value), Aside0 (pos ≤ sg.size) ∧ wr.heap[b + 1]? = some (.stringIter sg pos) ∧ Aside0 (wr.heap[b]? = some (.cells (o1.cells v) 96 (0, 0)))
      ∧ Aside0 (wr.heap[w.heap.size]? = some (.cells zeroC 28 (0, 0))) ∧ Aside0 (wr.heap[w.heap.size + 1]? = some (.cells ((hd :: tl).map Value.string).toArray 9 (0, 0))) ∧ Aside0 (wr.heap[w.heap.size + 1 + 1]? = some (.cells #[.slice (some ⟨w.heap.size + 1, 0, none⟩) (tl.length + 1) (tl.length + 1)] 84 (0, 0)))
      ∧ Aside0 (Kd.R (Kd.int .u8) 5 wr w.heap.size (fun k => k ≠ b) v o1.X) ∧ Aside0 (Below w.heap.size w wr) ∧ Aside0 (readAll (opZero k) (bytesOf sg) tl = readAll o1 ((bytesOf sg).drop pos) (tl.drop pos)))
    (fun _ _ wr => sg.size - wr.iterPos (b + 1))
  case atStart => exact ⟨0, opZero k, .slice none 0 0, ⟨Nat.zero_le _⟩, FI.out, FB, F0, F1, F2, ⟨Kd.R_nil _ _ _ _ _⟩, FW, ⟨rfl⟩⟩
  case round =>
    obtain ⟨pos, o1, v, HP, hit, HK, G0, G1, G2, HR, HB, HA⟩ := hrel
    clear F0 F1 F2 FB FI FW
    by_cases hp : pos < sg.size
    · obtain ⟨c, hc, hnx⟩ := next_byte wr (b + 1) sg pos hit hp HSG.out
      obtain ⟨x, hx, hmem, hcell⟩ := word_at tl hd pos (by rw [HLN.out]; exact hp)
      have ha := HA.out
      rw [hc, hx, readAll] at ha
      have hxs : x.size ≤ 1000000 := Nat.le_trans (HW.out x hmem) hs
      have hh := HH.out
      cases hf : o1.fits c x with
      | none =>
        rw [ha, hf] at hh
        cases hh
      | some t =>
      rw [hf, Option.bind_some] at ha
      have HF := Aside0.mk hf
      have HA2 := Aside0.mk ha
      have hn0 : w.heap.size ≤ b := by omega
      have K2 := Aside0.mk ((Lib.iterAt_other wr (b + 1) b sg (pos + 1) (by omega)).trans HK.out)
      have I2 := Aside0.mk (Lib.iterAt_heap wr (b + 1) sg pos (pos + 1) hit)
      have J0 := Aside0.mk ((Lib.iterAt_other wr (b + 1) w.heap.size sg (pos + 1) (by omega)).trans G0.out)
      have J1 := Aside0.mk ((Lib.iterAt_other wr (b + 1) (w.heap.size + 1) sg (pos + 1) (by omega)).trans G1.out)
      have J2 := Aside0.mk ((Lib.iterAt_other wr (b + 1) (w.heap.size + 1 + 1) sg (pos + 1) (by omega)).trans G2.out)
      have R2 := Aside0.mk (R_iterAt (pos' := pos + 1) HR.out hit)
      have B2 := Aside0.mk (Lib.below_iterAt HB.out (show w.heap.size ≤ b + 1 by omega) sg (pos + 1))
      have hm : wr.iterPos (b + 1) = pos := by simp [World.iterPos, hit]
      have HM := Aside0.mk hm
      have c1 : (wr.iterAt (b + 1) sg (pos + 1)).cell? ⟨w.heap.size + 1 + 1, 0, none⟩ = some (.slice (some ⟨w.heap.size + 1, 0, none⟩) (tl.length + 1) (tl.length + 1)) := cell_of J2.out rfl
      have c2 : (wr.iterAt (b + 1) sg (pos + 1)).cell? ⟨w.heap.size + 1, pos + 1, none⟩ = some (.string x) := cell_of J1.out hcell
      have i1 : (pos : Int) + 1 < (tl.length : Int) + 1 := by have := HLN.out; omega
      have i2 := HSZ.out
      have RD := Aside0.mk (opRead b o1 v c x t w (wr.iterAt (b + 1) sg (pos + 1)) HL.out hxs hn0 B2.out K2.out R2.out HF.out)
      clear HK hit G0 G1 G2 HR HB HA ha hf hh hc hx hmem hcell hm
      go_wp2_with (fail)
      refine RD.out.mono ?_
      rintro _ w6 ⟨v2, rfl, hk6, hr6, hb6⟩
      have hkeep := fun j (o : Obj) (hj : j ≠ b) (h : (wr.iterAt (b + 1) sg (pos + 1)).heap[j]? = some o) => (hb6.kp j (Array.getElem?_eq_some_iff.1 h).1 hj).trans h
      have N0 := Aside0.mk (hkeep _ _ (by omega) J0.out)
      have N1 := Aside0.mk (hkeep _ _ (by omega) J1.out)
      have N2 := Aside0.mk (hkeep _ _ (by omega) J2.out)
      have NI := Aside0.mk (hkeep _ _ (by omega) I2.out)
      have NK := Aside0.mk hk6
      have NR := Aside0.mk hr6
      have NB := Aside0.mk hb6.bl
      clear hkeep hk6 hr6 hb6 J0 J1 J2 I2 K2 R2 B2 RD c1 c2
      cases t with
      | true =>
        have ha : readAll (opZero k) (bytesOf sg) tl = readAll (o1.set c x) ((bytesOf sg).drop (pos + 1)) (tl.drop (pos + 1)) := by rw [HA2.out, if_pos rfl]
        have HA3 := Aside0.mk ha
        clear ha
        go_wp2_with (fail)
        go_roundw
        case rel => exact ⟨pos + 1, o1.set c x, v2, ⟨hp⟩, NI.out, NK, N0, N1, N2, NR, NB, HA3⟩
        case measure =>
          have e2 : World.iterPos w6 (b + 1) = pos + 1 := by simp [World.iterPos, NI.out]
          rw [HM.out, e2]
          omega
      | false =>
        have hh := HH.out
        rw [HA2.out, if_neg (by decide)] at hh
        obtain ⟨rfl, rfl⟩ := Prod.mk.inj (Option.some.inj hh)
        clear hh HH
        go_wp2_with ((with_reducible refine gate_ (.store 28 (.tmp 2) (.tmp 55)) rfl ?_); go_loud (refine wpList_store_row rfl 28 (.tmp 2) (.tmp 55) rfl w.heap.size zeroC rfl rfl 28 zeroC N0.out (by kernel_rfl) rfl (by kernel_rfl) ?_))
        refine bodyPost_ret (results_ct rfl _ _ w.heap.size 28 zeroC (0, 0) _ rfl (setRow_heap _ _ _ _ _ _ N0.out) hu28 rfl (by kernel_rfl)) rfl ⟨.slice none 0 0, rfl, Kd.R_nil _ _ _ _ _, below_setRow NB.out (Nat.le_refl _) _⟩
    · have hnx : ∀ ty, (Instr.next (.pointer (some ⟨b + 1, 0, none⟩)) true ty).run Tryd.prog wr = _ := fun ty => Lib.run_next_end_at wr (b + 1) sg pos ty hit hp
      have ha := HA.out
      rw [List.drop_eq_nil_of_le (by rw [bytesOf_length]; omega), readAll] at ha
      have hh := HH.out
      rw [ha, Option.map_some, if_pos rfl] at hh
      obtain ⟨rfl, rfl⟩ := Prod.mk.inj (Option.some.inj hh)
      clear hh HH ha HA hit
      obtain ⟨A, c, rfl, hc, hC⟩ := Kd.R_reads HR.out
      clear hc hC
      go_wp2_with (first
        | ((with_reducible refine gate_ (.load 28 (.tmp 58)) rfl ?_); go_loud (refine wpList_load_row rfl 28 (.tmp 58) rfl b rfl 96 (o1.cells (.slice A o1.X.length c)) (0, 0) _ HK.out hu28 rfl (by kernel_rfl) ?_))
        | ((with_reducible refine gate_ (.store 28 (.tmp 2) (.tmp 59)) rfl ?_); go_loud (refine wpList_store_row rfl 28 (.tmp 2) (.tmp 59) rfl w.heap.size (o1.cells (.slice A o1.X.length c)) rfl rfl 28 zeroC G0.out (by kernel_rfl) rfl (by kernel_rfl) ?_)))
      refine bodyPost_ret (results_ct rfl _ _ w.heap.size 28 (o1.cells (.slice A o1.X.length c)) (0, 0) _ rfl (setRow_heap _ _ _ _ _ _ G0.out) hu28 rfl (by kernel_rfl)) rfl ⟨.slice A o1.X.length c, rfl, ?_, below_setRow HB.out (Nat.le_refl _) _⟩
      exact R_setRow HR.out G0.out (by decide) _
end Go.Proofs.YtdcknajlioalgaaDoor.QD
namespace Go.Proofs.YtdcknajlioalgaaDoor.QD
open Go.RowKit Go.Proofs.YtdcknajlioalgaaDoorW.PrintWords Go.Proofs.YtdcknajlioalgaaDoorW.PrintLast Go.Proofs.YtdcknajlioalgaaDoorW.PrintMore Go.Proofs.YtdcknajlioalgaaDoor.Hex
set_option linter.unusedVariables false
set_option linter.unusedSimpArgs false
def fieldsFrom (o : OpV) : List ByteArray → List Int → Option (List ByteArray)
  | acc, [] => some acc
  | acc, g :: gs => (o.field g).bind fun r => fieldsFrom o (acc ++ [r]) gs
def joinW (ws : List ByteArray) : ByteArray := ⟨(Lib.join (ws.map (·.data.toList)) [32]).toArray⟩
def OpV.same (a b : OpV) : Bool := (op_same.f a.K a.G a.I a.E a.S a.N a.V a.X b.K b.G b.I b.E b.S b.N b.V b.X).getD false
theorem OpV.same_eq (a b : OpV) : op_same.f a.K a.G a.I a.E a.S a.N a.V a.X b.K b.G b.I b.E b.S b.N b.V b.X = some (a.same b) := by
  unfold OpV.same op_same.f num_Same.f bytes_Equal.f
  simp only [Option.bind_some]
  repeat' split
  all_goals rfl
def wordOf (k : Nat) : ByteArray := (formL.getD k (⟨#[]⟩, ⟨#[]⟩)).1
/-- op.Print: the line, the fault. -/
def opPrint (o : OpV) : Option (ByteArray × Int) :=
  if o.K < 1 ∨ o.K ≥ 10 then some (⟨#[]⟩, 2)
  else (fieldsFrom o [wordOf o.K.toNat] (bytesOf (signsOf o.K.toNat))).bind fun ws => if (joinW ws).size ≤ 1000000 then (opParse (joinW ws)).bind fun r => if r.2 = 0 then (if o.same r.1 = true then some (joinW ws, 0) else some (⟨#[]⟩, 2)) else some (⟨#[]⟩, 2) else none
theorem rowOf {w : World} {base : Nat} {ok : Nat → Prop} {v : Value} {xs : List ByteArray} (h : Kd.R Kd.string 9 w base ok v xs) (hn : 0 < xs.length) :
    ∃ b c, v = .slice (some ⟨b, 0, none⟩) xs.length c ∧ xs.length ≤ c ∧ b < w.heap.size ∧ ∀ (j : Nat) x, xs[j]? = some x → w.cell? ⟨b, 0 + j, none⟩ = some (.string x) := by
  obtain ⟨A, c, rfl, hc, hC⟩ := Kd.R_reads h
  obtain ⟨inner, _, h2⟩ := Kd.R_own h
  rcases h2 with ⟨_, h0⟩ | ⟨g, cap, cur, hv, hg, hh, _⟩
  · omega
  · injection hv with e1 e2 e3
    subst e1
    subst e3
    obtain ⟨ad, ha, hcs⟩ := hC.2.2 hn
    obtain rfl := Option.some.inj ha
    refine ⟨g, c, rfl, hc, (Array.getElem?_eq_some_iff.1 hh).1, fun j x hj => ?_⟩
    obtain ⟨cs, _, hK, hcell⟩ := hcs j x hj
    have hK' : cs = [.string x] := hK
    subst hK'
    have := hcell 0 (.string x) rfl
    rw [add_plain] at this
    simpa [Kd.string, Kd.scalar] using this
theorem R_iterG {α : Type} {d : Kd α} {e : Nat} {w : World} {base it pos pos' : Nat} {ok : Nat → Prop} {v : Value} {X : List α} {sg : ByteArray} (h : Kd.R d e w base ok v X) (hit : w.heap[it]? = some (.stringIter sg pos)) : Kd.R d e (w.iterAt it sg pos') base ok v X := by
  refine Kd.R_mono (Kd.R_move (Kd.R_bound h) (fun k hk => Lib.iterAt_other w it k sg pos' ?_)) (fun k hk => hk.1)
  rintro rfl
  obtain ⟨_, _, _, q, _, cells, hc⟩ := hk
  rw [hit] at hc
  cases hc
theorem R_notIter {α : Type} {d : Kd α} {e : Nat} {w : World} {base it pos : Nat} {ok : Nat → Prop} {v : Value} {X : List α} {sg : ByteArray} (h : Kd.R d e w base ok v X) (hit : w.heap[it]? = some (.stringIter sg pos)) : some it ≠ v.ownBlock := by
  intro he
  obtain ⟨inner, ho⟩ := Kd.R_own h
  obtain ⟨cells, hc⟩ := own_typed ho it he.symm
  rw [hit] at hc
  cases hc
set_option maxRecDepth 100000 in
theorem opPrint_calls (o : OpV) (A : Option Addr) (c : Nat) (r : ByteArray) (f : Int) (w : World) (HLD : Laid w) (hr : Kd.C (Kd.int .u8) w A o.X.length o.X) (hc : o.X.length ≤ c) (h : opPrint o = some (r, f)) :
    Calls Tryd.prog 15 #[.agg (o.cells (.slice A o.X.length c))] w fun e w' => e = .returned (.tuple #[.string r, .int .i64 f]) ∧ Below w.heap.size w w' := by
  have hu28 := Tryd.underlying28
  have hu84 := Tryd.underlying84
  have hu82 := Tryd.underlying82
  have hu81 := Tryd.underlying81
  have HL := Aside0.mk HLD
  have HR := Aside0.mk hr
  have HC := Aside0.mk hc
  have HH := Aside0.mk h
  clear HLD hr hc h
  obtain ⟨K, G, I, E, S, N, V, X⟩ := o
  unfold opPrint at HH
  change Aside0 ((if K < 1 ∨ K ≥ 10 then some ((⟨#[]⟩ : ByteArray), (2 : Int)) else (fieldsFrom ⟨K, G, I, E, S, N, V, X⟩ [wordOf K.toNat] (bytesOf (signsOf K.toNat))).bind fun ws => if (joinW ws).size ≤ 1000000 then (opParse (joinW ws)).bind fun r => if r.2 = 0 then (if OpV.same ⟨K, G, I, E, S, N, V, X⟩ r.1 = true then some (joinW ws, 0) else some (⟨#[]⟩, 2)) else some (⟨#[]⟩, 2) else none) = some (r, f)) at HH
  change Aside0 (Kd.C (Kd.int .u8) w A X.length X) at HR
  change Aside0 (X.length ≤ c) at HC
  have X0 := Aside0.mk (heap_alloc_new w (.cells #[.int .i64 K, .string G, .string I, .int .i64 E, .int .i64 S, .int .i64 N, .int .i64 V, .slice A X.length c] 28))
  have XB := Aside0.mk (below_alloc (Below.refl w.heap.size w) (.cells #[.int .i64 K, .string G, .string I, .int .i64 E, .int .i64 S, .int .i64 N, .int .i64 V, .slice A X.length c] 28))
  go_enter Tryd.func15, Tryd.ntmps15
  go_wp2_with (fail)
  refine (forms _).mono ?_
  rintro _ w2 ⟨rfl, hb⟩
  have Y0 := Aside0.mk ((hb.block w.heap.size (alloc_lt w _)).trans X0.out)
  have YB := Aside0.mk (XB.out.trans (hb.mono XB.out.size))
  clear hb X0 XB
  have Z0 := Aside0.mk ((Below.heap_alloc w2 (.cells formC 82) w.heap.size (Array.getElem?_eq_some_iff.1 Y0.out).1).trans Y0.out)
  have Z1 := Aside0.mk (heap_alloc_new w2 (.cells formC 82))
  have ZB := Aside0.mk (below_alloc YB.out (.cells formC 82))
  have hlw : w.heap.size < w2.heap.size := (Array.getElem?_eq_some_iff.1 Y0.out).1
  clear Y0 YB
  have h := HH.out
  clear HH
  have ck : (w2.alloc (.cells formC 82)).cell? ⟨w.heap.size, 0, none⟩ = some (.int .i64 K) := cell_of Z0.out rfl
  by_cases hk : K < 1 ∨ K ≥ 10
  · rw [if_pos hk] at h
    obtain ⟨rfl, rfl⟩ := Prod.mk.inj (Option.some.inj h)
    clear h
    by_cases hk1 : K < 1
    · have e1 : decide (K < 1) = true := decide_eq_true hk1
      clear hk
      go_wp2_with ((with_reducible refine gate_ (.store 82 (.tmp 4) (.tmp 11)) rfl ?_); go_loud (refine wpList_store_row rfl 82 (.tmp 4) (.tmp 11) rfl w2.heap.size formC rfl rfl 82 _ (heap_alloc_new _ _) (by kernel_rfl) rfl (by kernel_rfl) ?_); rw [World.setRow_alloc_new])
      go_ret2
      exact ⟨rfl, ZB.out⟩
    · have e1 : decide (K < 1) = false := decide_eq_false hk1
      have e2 : decide (K ≥ 10) = true := decide_eq_true (hk.resolve_left hk1)
      have e3 : decide (10 ≤ K) = true := e2
      clear hk
      go_wp2_with ((with_reducible refine gate_ (.store 82 (.tmp 4) (.tmp 11)) rfl ?_); go_loud (refine wpList_store_row rfl 82 (.tmp 4) (.tmp 11) rfl w2.heap.size formC rfl rfl 82 _ (heap_alloc_new _ _) (by kernel_rfl) rfl (by kernel_rfl) ?_); rw [World.setRow_alloc_new])
      go_ret2
      exact ⟨rfl, ZB.out⟩
  rw [if_neg hk] at h
  obtain ⟨k, rfl⟩ : ∃ k : Nat, K = k := ⟨K.toNat, by omega⟩
  have hk10 : k < 10 := by omega
  have e1 : decide ((k : Int) < 1) = false := decide_eq_false (by omega)
  have e2 : decide ((k : Int) ≥ 10) = false := decide_eq_false (by omega)
  have e3 : decide (10 ≤ (k : Int)) = false := e2
  have i1 : (k : Int) < 10 := by omega
  rw [show ((k : Int)).toNat = k from rfl] at h
  have HH := Aside0.mk h
  clear h
  have c0 : ∀ x y : ByteArray, wordOf k = x → signsOf k = y → (w2.alloc (.cells formC 82)).cell? ⟨w2.heap.size, k * 2, none⟩ = some (.string x) ∧ (w2.alloc (.cells formC 82)).cell? ⟨w2.heap.size, k * 2 + 1, none⟩ = some (.string y) := fun x y hx hy => by
    subst hx
    subst hy
    exact ⟨cell_of Z1.out (formC_at k hk10).1, cell_of Z1.out (formC_at k hk10).2⟩
  generalize hwd : wordOf k = wd at HH c0
  generalize hsg : signsOf k = sg at HH c0
  obtain ⟨c1, c2⟩ := c0 wd sg rfl rfl
  clear c0
  go_wp2_with (first
    | ((with_reducible refine gate_ (.store 82 (.tmp 4) (.tmp 11)) rfl ?_); go_loud (refine wpList_store_row rfl 82 (.tmp 4) (.tmp 11) rfl w2.heap.size formC rfl rfl 82 _ (heap_alloc_new _ _) (by kernel_rfl) rfl (by kernel_rfl) ?_); rw [World.setRow_alloc_new])
    | ((with_reducible refine gate_dst (N := 25) rfl ?_); refine Kd.R_lit Kd.string _ 9 ?hg (N := 25) ?hd (xs := [wd]) (inner := [.string wd]) (ok := fun _ => True) (okp := fun _ => True) ?hr ?hp (fun _ hk => hk) trivial (Below.refl _ _) (Nat.le_refl _) (by simp) ?_; (case hd => rfl); (case hg => rfl); (case hr => first | (go_simp; done) | (go_simp; rfl)); (case hp => exact (Reps.one (show Kd.M Kd.string _ _ _ wd [.string wd] from rfl) (Reps.none _ _)))
       intro v25 w3 ho hb hg_ hnew_
       have c3 := (hb.cell (p := ⟨w.heap.size, 0, none⟩) (Array.getElem?_eq_some_iff.1 Z0.out).1).trans ck
       have c4 := (hb.cell (p := ⟨w2.heap.size, k * 2, none⟩) (Array.getElem?_eq_some_iff.1 Z1.out).1).trans c1
       have c5 := (hb.cell (p := ⟨w2.heap.size, k * 2 + 1, none⟩) (Array.getElem?_eq_some_iff.1 Z1.out).1).trans c2
       have U0 := Aside0.mk ((hb.block w.heap.size (Array.getElem?_eq_some_iff.1 Z0.out).1).trans Z0.out)
       have UB := Aside0.mk (ZB.out.trans (hb.mono ZB.out.size))
       have UR := Aside0.mk (Kd.R_lower ho ZB.out.size)
       clear ho hb hg_ hnew_ ck c1 c2))
  have FI := Aside0.mk (World.iter_heap w3 sg 0)
  have F0 := Aside0.mk ((Below.heap_alloc w3 (.stringIter sg 0) w.heap.size (Array.getElem?_eq_some_iff.1 U0.out).1).trans U0.out)
  have FR := Aside0.mk (Kd.R_alloc UR.out (.stringIter sg 0))
  have FB := Aside0.mk (below_alloc UB.out (.stringIter sg 0))
  have hbw : w.heap.size < w3.heap.size := (Array.getElem?_eq_some_iff.1 U0.out).1
  change Aside0 ((w3.iter sg 0).heap[w.heap.size]? = _) at F0
  change Aside0 (Kd.R Kd.string 9 (w3.iter sg 0) _ _ _ _) at FR
  change Aside0 (Below _ _ (w3.iter sg 0)) at FB
  have hsz := signsOf_size hk10
  have hal := (signsOf_all ⟨k, hk10⟩).2
  change (bytesOf (signsOf k)).all _ = true at hal
  rw [hsg] at hsz hal
  have HSZ := Aside0.mk hsz
  have HAL := Aside0.mk hal
  have HSG := Aside0.mk hsg
  have HWD := Aside0.mk hwd
  clear U0 UR UB c3 c4 c5 hsz hal hsg hwd Z0 Z1 ZB
  generalize w3.iter sg 0 = w5 at FI F0 FR FB ⊢
  generalize w3.heap.size = it at FI hbw ⊢
  go_loopw [5, 7] (fun v5 v7 wr => ∃ (pos : Nat) (xs : List ByteArray), Aside0 (pos ≤ sg.size) ∧ wr.heap[it]? = some (.stringIter sg pos) ∧ Aside0 (wr.heap[w.heap.size]? = some (.cells #[.int .i64 k, .string G, .string I, .int .i64 E, .int .i64 S, .int .i64 N, .int .i64 V, .slice A X.length c] 28 (0, 0)))
      ∧ Aside0 (Kd.R Kd.string 9 wr w.heap.size (fun _ => True) v5 xs) ∧ Aside0 (xs.length = pos + 1) ∧ Aside0 (Below w.heap.size w wr) ∧ Aside0 (fieldsFrom ⟨k, G, I, E, S, N, V, X⟩ [wd] (bytesOf sg) = fieldsFrom ⟨k, G, I, E, S, N, V, X⟩ xs ((bytesOf sg).drop pos)))
    (fun _ _ wr => sg.size - wr.iterPos it)
  case atStart => exact ⟨0, [wd], ⟨Nat.zero_le _⟩, FI.out, F0, FR, ⟨rfl⟩, FB, ⟨rfl⟩⟩
  case round =>
    obtain ⟨pos, xs, HP, hit, G0, HO, HX, HB, HA⟩ := hrel
    clear F0 FI FR FB
    by_cases hp : pos < sg.size
    · obtain ⟨g, hg, hnx⟩ := next_byte wr it sg pos hit hp HAL.out
      have ha := HA.out
      rw [hg, fieldsFrom] at ha
      have hh := HH.out
      cases hf : OpV.field ⟨k, G, I, E, S, N, V, X⟩ g with
      | none =>
        rw [ha, hf] at hh
        cases hh
      | some rr =>
      rw [hf, Option.bind_some] at ha
      have HA2 := Aside0.mk ha
      have HF := Aside0.mk (show fieldP G I E S N V X g = some rr from hf)
      have J0 := Aside0.mk ((Lib.iterAt_other wr it w.heap.size sg (pos + 1) (by omega)).trans G0.out)
      have JI := Aside0.mk (Lib.iterAt_heap wr it sg pos (pos + 1) hit)
      have JO := Aside0.mk (R_iterG (pos' := pos + 1) HO.out hit)
      have JB := Aside0.mk (Lib.below_iterAt HB.out (show w.heap.size ≤ it by omega) sg (pos + 1))
      have hm : wr.iterPos it = pos := by simp [World.iterPos, hit]
      have HM := Aside0.mk hm
      have FD := Aside0.mk (opField k G I E S N V A c X.length X g rr (wr.iterAt it sg (pos + 1)) (HL.out.below JB.out) rfl (Kd.C_below HR.out JB.out) HC.out HF.out)
      clear G0 hit HO HB HA ha hh hf hg hm
      go_wp2_with (first
        | ((with_reducible refine gate_ (.load 28 (.tmp 1)) rfl ?_); go_loud (refine wpList_load_row rfl 28 (.tmp 1) rfl w.heap.size rfl 28 #[.int .i64 k, .string G, .string I, .int .i64 E, .int .i64 S, .int .i64 N, .int .i64 V, .slice A X.length c] (0, 0) _ J0.out hu28 rfl (by kernel_rfl) ?_)))
      refine FD.out.mono ?_
      rintro _ w6 ⟨rfl, hb6⟩
      have N0 := Aside0.mk ((hb6.block _ (Array.getElem?_eq_some_iff.1 J0.out).1).trans J0.out)
      have NI := Aside0.mk ((hb6.block _ (Array.getElem?_eq_some_iff.1 JI.out).1).trans JI.out)
      have NO := Aside0.mk (Kd.R_below JO.out hb6)
      have NB := Aside0.mk (JB.out.trans (hb6.mono JB.out.size))
      clear hb6 J0 JI JO JB FD
      go_wp2_with (first
        | ((with_reducible refine gate_builtin (b := .append) (xs := #[.tmp 35, .tmp 39]) rfl ?_); at_builtin; refine Kd.R_append Kd.string (w0 := w) w.heap.size rfl (.tmp 35) (.tmp 39) 84 9 (.string ⟨#[]⟩) 16 rfl Tryd.underlying84 info9 rfl (by decide) (by omega) u5 xs rr [.string rr] (fun _ => True) (fun _ => False) rfl rfl ?aP (fun _ hk => hk.elim) ?aF ?aO ?aB ?aS ?aL ?_; (case aP => exact rfl); (case aB => exact NB.out); (case aF => exact (fun _ _ => trivial)); (case aO => exact NO.out); (case aS => exact NB.out.size); (case aL => have h1 := HX.out; have h2 := HSZ.out; omega)
           intro v40 w7 ho hb hg hat
           have M0 := Aside0.mk ((hg.block _ (Array.getElem?_eq_some_iff.1 N0.out).1 (Kd.R_ne NO.out N0.out (by decide))).trans N0.out)
           have MI := Aside0.mk ((hg.block _ (Array.getElem?_eq_some_iff.1 NI.out).1 (R_notIter NO.out NI.out)).trans NI.out)
           have MO := Aside0.mk ho
           have MB := Aside0.mk hb
           clear ho hb hg hat N0 NI NO NB))
      go_roundw
      case rel => exact ⟨pos + 1, xs ++ [rr], ⟨hp⟩, MI.out, M0, MO, ⟨by rw [List.length_append, HX.out]; rfl⟩, MB, ⟨HA2.out⟩⟩
      case measure =>
        have e2 : World.iterPos w7 it = pos + 1 := by simp [World.iterPos, MI.out]
        rw [HM.out, e2]
        omega
    · have hnx : ∀ ty, (Instr.next (.pointer (some ⟨it, 0, none⟩)) true ty).run Tryd.prog wr = _ := fun ty => Lib.run_next_end_at wr it sg pos ty hit hp
      have ha := HA.out
      rw [List.drop_eq_nil_of_le (by rw [bytesOf_length]; omega), fieldsFrom] at ha
      have hh := HH.out
      rw [ha, Option.bind_some] at hh
      clear HH ha HA hit
      by_cases hj0 : ¬ (joinW xs).size ≤ 1000000
      · rw [if_neg hj0] at hh; cases hh
      have hj : (joinW xs).size ≤ 1000000 := Decidable.not_not.mp hj0
      rw [if_pos hj] at hh
      clear hj0
      cases hpz : opParse (joinW xs) with
      | none => rw [hpz] at hh; cases hh
      | some q =>
      obtain ⟨o2, f2⟩ := q
      rw [hpz, Option.bind_some] at hh
      have HH := Aside0.mk hh
      have HPZ := Aside0.mk hpz
      obtain ⟨b5, c5, rfl, hc5, hb5, hcells⟩ := rowOf HO.out (by rw [HX.out]; omega)
      have JN := Aside0.mk (Tryd.strings_Join b5 0 c5 xs ⟨#[32]⟩ wr hcells hb5 (by rw [HX.out]; have := HSZ.out; have := HP.out; omega) hc5 (by
        have h1 : (joinW xs).size = (Lib.join (xs.map (·.data.toList)) [32]).length := by simp [joinW, ByteArray.size]
        show (Lib.join (xs.map (·.data.toList)) [32]).length ≤ _
        omega))
      clear hh hpz hc5 hb5 hcells hj HO
      go_wp2_with (fail)
      refine JN.out.mono ?_
      rintro _ w6 ⟨rfl, hb6⟩
      have N0 := Aside0.mk ((hb6.block _ (Array.getElem?_eq_some_iff.1 G0.out).1).trans G0.out)
      have NB := Aside0.mk (HB.out.trans (hb6.mono HB.out.size))
      clear hb6 G0 HB JN
      have PC := Aside0.mk (opParse_calls (joinW xs) o2 f2 w6 (HL.out.below NB.out) HPZ.out)
      go_wp2_with (fail)
      refine PC.out.mono ?_
      rintro _ w7 ⟨v2, rfl, hr7, hb7⟩
      obtain ⟨A2, c2, rfl, hc2, hC2⟩ := Kd.R_reads hr7
      have M0 := Aside0.mk ((hb7.block _ (Array.getElem?_eq_some_iff.1 N0.out).1).trans N0.out)
      have MB := Aside0.mk (NB.out.trans (hb7.mono NB.out.size))
      have MC := Aside0.mk (Kd.C_alloc hC2 (.cells (o2.cells (.slice A2 o2.X.length c2)) 28))
      have L0 := Aside0.mk ((Below.heap_alloc w7 (.cells (o2.cells (.slice A2 o2.X.length c2)) 28) w.heap.size (Array.getElem?_eq_some_iff.1 M0.out).1).trans M0.out)
      have L1 := Aside0.mk (heap_alloc_new w7 (.cells (o2.cells (.slice A2 o2.X.length c2)) 28))
      have LB := Aside0.mk (below_alloc MB.out (.cells (o2.cells (.slice A2 o2.X.length c2)) 28))
      have HC2 := Aside0.mk hc2
      clear hr7 hb7 hC2 hc2 N0 NB PC M0 MB
      have hh := HH.out
      clear HH
      by_cases hf : f2 = 0
      · rw [if_pos hf] at hh
        have e4 : (f2 != 0) = false := by rw [hf]; rfl
        have SM := Aside0.mk (op_same.calls k G I E S N V A c X o2.K o2.G o2.I o2.E o2.S o2.N o2.V A2 c2 o2.X (OpV.same ⟨k, G, I, E, S, N, V, X⟩ o2) (w7.alloc (.cells (o2.cells (.slice A2 o2.X.length c2)) 28)) (Kd.C_below HR.out LB.out) HC.out MC.out HC2.out (OpV.same_eq ⟨k, G, I, E, S, N, V, X⟩ o2))
        have p0 : (w7.alloc (.cells (o2.cells (.slice A2 o2.X.length c2)) 28)).cell? ⟨w.heap.size, 0, none⟩ = some (.int .i64 k) := cell_of L0.out rfl
        have p1 : (w7.alloc (.cells (o2.cells (.slice A2 o2.X.length c2)) 28)).cell? ⟨w.heap.size, 1, none⟩ = some (.string G) := cell_of L0.out rfl
        have p2 : (w7.alloc (.cells (o2.cells (.slice A2 o2.X.length c2)) 28)).cell? ⟨w.heap.size, 2, none⟩ = some (.string I) := cell_of L0.out rfl
        have p3 : (w7.alloc (.cells (o2.cells (.slice A2 o2.X.length c2)) 28)).cell? ⟨w.heap.size, 3, none⟩ = some (.int .i64 E) := cell_of L0.out rfl
        have p4 : (w7.alloc (.cells (o2.cells (.slice A2 o2.X.length c2)) 28)).cell? ⟨w.heap.size, 4, none⟩ = some (.int .i64 S) := cell_of L0.out rfl
        have p5 : (w7.alloc (.cells (o2.cells (.slice A2 o2.X.length c2)) 28)).cell? ⟨w.heap.size, 5, none⟩ = some (.int .i64 N) := cell_of L0.out rfl
        have p6 : (w7.alloc (.cells (o2.cells (.slice A2 o2.X.length c2)) 28)).cell? ⟨w.heap.size, 6, none⟩ = some (.int .i64 V) := cell_of L0.out rfl
        have p7 : (w7.alloc (.cells (o2.cells (.slice A2 o2.X.length c2)) 28)).cell? ⟨w.heap.size, 7, none⟩ = some (.slice A X.length c) := cell_of L0.out rfl
        have g0 : (w7.alloc (.cells (o2.cells (.slice A2 o2.X.length c2)) 28)).cell? ⟨w7.heap.size, 0, none⟩ = some (.int .i64 o2.K) := cell_of L1.out rfl
        have g1 : (w7.alloc (.cells (o2.cells (.slice A2 o2.X.length c2)) 28)).cell? ⟨w7.heap.size, 1, none⟩ = some (.string o2.G) := cell_of L1.out rfl
        have g2 : (w7.alloc (.cells (o2.cells (.slice A2 o2.X.length c2)) 28)).cell? ⟨w7.heap.size, 2, none⟩ = some (.string o2.I) := cell_of L1.out rfl
        have g3 : (w7.alloc (.cells (o2.cells (.slice A2 o2.X.length c2)) 28)).cell? ⟨w7.heap.size, 3, none⟩ = some (.int .i64 o2.E) := cell_of L1.out rfl
        have g4 : (w7.alloc (.cells (o2.cells (.slice A2 o2.X.length c2)) 28)).cell? ⟨w7.heap.size, 4, none⟩ = some (.int .i64 o2.S) := cell_of L1.out rfl
        have g5 : (w7.alloc (.cells (o2.cells (.slice A2 o2.X.length c2)) 28)).cell? ⟨w7.heap.size, 5, none⟩ = some (.int .i64 o2.N) := cell_of L1.out rfl
        have g6 : (w7.alloc (.cells (o2.cells (.slice A2 o2.X.length c2)) 28)).cell? ⟨w7.heap.size, 6, none⟩ = some (.int .i64 o2.V) := cell_of L1.out rfl
        have g7 : (w7.alloc (.cells (o2.cells (.slice A2 o2.X.length c2)) 28)).cell? ⟨w7.heap.size, 7, none⟩ = some (.slice A2 o2.X.length c2) := cell_of L1.out rfl
        clear hf
        go_wp2_with (first
          | ((with_reducible refine gate_ (.store 28 (.tmp 9) (.tmp 46)) rfl ?_); go_loud (refine wpList_store_row rfl 28 (.tmp 9) (.tmp 46) rfl w7.heap.size (o2.cells (.slice A2 o2.X.length c2)) rfl rfl 28 _ (heap_alloc_new _ _) (by kernel_rfl) rfl (by kernel_rfl) ?_); rw [World.setRow_alloc_new]))
        refine SM.out.mono ?_
        rintro _ w8 ⟨rfl, hb8⟩
        have KB := Aside0.mk (LB.out.trans (hb8.mono LB.out.size))
        clear hb8 p0 p1 p2 p3 p4 p5 p6 p7 g0 g1 g2 g3 g4 g5 g6 g7 SM
        by_cases hsm : OpV.same ⟨k, G, I, E, S, N, V, X⟩ o2 = true
        · rw [if_pos hsm] at hh
          obtain ⟨rfl, rfl⟩ := Prod.mk.inj (Option.some.inj hh)
          clear hh
          rw [hsm]
          clear hsm
          go_wp2_with (fail)
          go_ret2
          exact ⟨rfl, KB.out⟩
        · rw [if_neg hsm] at hh
          obtain ⟨rfl, rfl⟩ := Prod.mk.inj (Option.some.inj hh)
          clear hh
          have hsm0 : OpV.same ⟨k, G, I, E, S, N, V, X⟩ o2 = false := by simpa using hsm
          rw [hsm0]
          clear hsm hsm0
          go_wp2_with (fail)
          go_ret2
          exact ⟨rfl, KB.out⟩
      · rw [if_neg hf] at hh
        have e4 : (f2 != 0) = true := by rw [bne_iff_ne]; exact hf
        obtain ⟨rfl, rfl⟩ := Prod.mk.inj (Option.some.inj hh)
        clear hf hh
        go_wp2_with (first
          | ((with_reducible refine gate_ (.store 28 (.tmp 9) (.tmp 46)) rfl ?_); go_loud (refine wpList_store_row rfl 28 (.tmp 9) (.tmp 46) rfl w7.heap.size (o2.cells (.slice A2 o2.X.length c2)) rfl rfl 28 _ (heap_alloc_new _ _) (by kernel_rfl) rfl (by kernel_rfl) ?_); rw [World.setRow_alloc_new]))
        go_ret2
        exact ⟨rfl, LB.out⟩
end Go.Proofs.YtdcknajlioalgaaDoor.QD
