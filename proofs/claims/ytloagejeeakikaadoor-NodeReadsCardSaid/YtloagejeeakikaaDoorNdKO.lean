/- The document's Take of a field of bytes; OfLeaf; Of. The document's Of: the rows of bytes. The document's OfLeaf: the leaf of bytes. -/
import Derived.Test.YtloagejeeakikaaDoorNdBP
namespace Go.Proofs.YtloagejeeakikaaDoor.QB
open Go.RowKit Go.Proofs.YtloagejeeakikaaDoorW.PrintWords Go.Proofs.YtloagejeeakikaaDoorW.PrintLast Go.Proofs.YtloagejeeakikaaDoorW.PrintMore
open Go.Proofs.YtloagejeeakikaaDoor.Mem
set_option linter.unusedVariables false
set_option linter.unusedSimpArgs false
/-- Take(b, 2, lim): the bytes, how many bytes the field has, is it one? -/
def takeB (lim : Int) : List Int → List Int × Nat × Bool
  | a :: b :: rest => if a * 256 + b ≤ lim ∧ a * 256 + b ≤ rest.length then (rest.take (a * 256 + b).toNat, (a * 256 + b).toNat + 2, true) else ([], 0, false)
  | _ => ([], 0, false)
/-- What Take hands back: a field whose bytes are read in memory. -/
def TakeR (A0 : Option Addr) (m0 : Nat) (l0 : List Int) (got : List Int) (n : Nat) (t : Bool) (w : World) (e : Ending) (w' : World) : Prop :=
  ∃ (kd : Int) (A : Option Addr) (c : Nat), e = .returned (.tuple #[.agg #[.int .i64 kd, .int .i64 0, .int .u64 0, .slice A got.length c], .int .i64 n, .bool t]) ∧ (∀ W : World, ReadsInt W .u8 A0 m0 l0 → ReadsInt W .u8 A got.length got) ∧ got.length ≤ c ∧ Below w.heap.size w w'
theorem results_take {t u v : Tmp} {fn : Func} (h : fn.results = #[.cell t 74, .tmp u, .tmp v]) (tmps : Array Value) (w : World) (b : Nat) (hp : tmps.getD t undef = .pointer (some ⟨b, 0, none⟩)) {x0 x1 x2 x3 : Value}
    (hc : w.heap[b]? = some (.cells #[x0, x1, x2, x3] 74 (0, 0))) : (results fn tmps).run Tryd.prog w = .ok (.tuple #[.agg #[x0, x1, x2, x3], tmps.getD u undef, tmps.getD v undef]) w := by
  have hu := Tryd.underlying74
  have c0 : w.cell? ⟨b, 0, none⟩ = some x0 := by simp [World.cell?, hc]
  have c1 : w.cell? ⟨b, 1, none⟩ = some x1 := by simp [World.cell?, hc]
  have c2 : w.cell? ⟨b, 2, none⟩ = some x2 := by simp [World.cell?, hc]
  have c3 : w.cell? ⟨b, 3, none⟩ = some x3 := by simp [World.cell?, hc]
  simp [results, h]
  rw [show tmps[t]?.getD undef = .pointer (some ⟨b, 0, none⟩) by simpa using hp]
  go_simp
set_option maxRecDepth 100000 in
theorem Take_short (A : Option Addr) (c : Nat) (lim : Int) (l : List Int) (w : World) (hs : l.length < 2) :
    Calls Tryd.prog 48 #[.slice A l.length c, .int .i64 2, .int .i64 lim] w (TakeR A l.length l [] 0 false w) := by
  have b0 : decide (l.length < 2) = true := decide_eq_true hs
  have hu := Tryd.underlying74
  go_enter Tryd.func48, Tryd.ntmps48
  go_wp2_with (fail)
  refine bodyPost_ret (results_take rfl _ _ w.heap.size rfl (heap_alloc_new _ _)) rfl ⟨0, none, 0, rfl, fun _ _ => ⟨rfl, by simp, fun h => absurd h (by simp)⟩, Nat.le_refl _, below_alloc (Below.refl _ _) _⟩
theorem take_heap (w : World) (nq : Nat) (x0 x1 x2 x3 y0 y1 y2 y3 : Value) :
    (((((((w.alloc (.cells #[y0, y1, y2, y3] 74)).drewN nq).setCell ⟨w.heap.size, 0, none⟩ x0).setCell ⟨w.heap.size, 1, none⟩ x1).setCell ⟨w.heap.size, 2, none⟩ x2).setCell ⟨w.heap.size, 3, none⟩ x3)).heap[w.heap.size]? = some (.cells #[x0, x1, x2, x3] 74 (0, 0)) := by
  simp only [World.setCell, Array.getElem?_modify, if_true]
  rw [show ((w.alloc (.cells #[y0, y1, y2, y3] 74)).drewN nq).heap = (w.alloc (.cells #[y0, y1, y2, y3] 74)).heap from rfl, heap_alloc_new]
  rfl
theorem take_below (w : World) (nq : Nat) (x0 x1 x2 x3 : Value) (o : Obj) :
    Below w.heap.size w ((((((w.alloc o).drewN nq).setCell ⟨w.heap.size, 0, none⟩ x0).setCell ⟨w.heap.size, 1, none⟩ x1).setCell ⟨w.heap.size, 2, none⟩ x2).setCell ⟨w.heap.size, 3, none⟩ x3) :=
  ((((pw_below_drewN (below_alloc (Below.refl _ _) _) _).setCell (Nat.le_refl _) _).setCell (Nat.le_refl _) _).setCell (Nat.le_refl _) _).setCell (Nat.le_refl _) _
theorem take_reads {w : World} {A : Option Addr} {c m : Nat} {a b : Int} {rest : List Int} (hm : m = rest.length + 2) (hr : ReadsInt w .u8 A m (a :: b :: rest)) (hc : m ≤ c) (n : Nat) (hn : n ≤ rest.length) :
    ReadsInt w .u8 (if c = 2 then A else A.map (·.add 2)) n (rest.take n) ∧ n ≤ c - 2 := by
  subst hm
  have h1 := hr.drop_ 2 (by omega) hc
  rw [List.drop_succ_cons, List.drop_succ_cons, List.drop_zero, Nat.add_sub_cancel] at h1
  exact ⟨Go.Proofs.YtloagejeeakikaaDoor.Mem.reads_take h1 n hn, by omega⟩
theorem take_fin {w w' : World} {A A' : Option Addr} {c c' m n1 : Nat} {a b z : Int} {rest : List Int} (hm : m = rest.length + 2) (hr : ReadsInt w .u8 A m (a :: b :: rest)) (hc : m ≤ c) (hb : Below w.heap.size w w') (n : Nat) (hn : n ≤ rest.length)
    (hA : A' = if c = 2 then A else A.map (·.add 2)) (hc' : c' = c - 2) (hn1 : n1 = n) (hz : z = ((n + 2 : Nat) : Int)) :
    TakeR A m (a :: b :: rest) (rest.take n) (n + 2) true w (.returned (.tuple #[.agg #[.int .i64 2, .int .i64 0, .int .u64 0, .slice A' n1 c'], .int .i64 z, .bool true])) w' := by
  subst hn1 hz hA hc'
  have h2 := (take_reads hm hr hc n1 hn).2
  have hl : (rest.take n1).length = n1 := by simp; omega
  exact ⟨2, _, c - 2, by rw [hl], fun W hW => by rw [hl]; exact (take_reads hm hW hc n1 hn).1, by rw [hl]; exact h2, hb⟩
set_option maxRecDepth 100000 in
theorem Take_no (A : Option Addr) (c m : Nat) (lim : Int) (a b : Int) (rest : List Int) (w : World) (hm : m = rest.length + 2) (hr : ReadsInt w .u8 A m (a :: b :: rest)) (hc : m ≤ c) (ha : 0 ≤ a) (ha2 : a < 256) (hb : 0 ≤ b) (hb2 : b < 256) (hno : ¬ (a * 256 + b ≤ lim ∧ a * 256 + b ≤ rest.length)) :
    Calls Tryd.prog 48 #[.slice A m c, .int .i64 2, .int .i64 lim] w (TakeR A m (a :: b :: rest) [] 0 false w) := by
  have hu := Tryd.underlying74
  obtain ⟨⟨q, o, sp⟩, rfl, hcell⟩ := hr.2.2 (by omega)
  have h0 := hcell 0 (by omega)
  have hsp : sp = none := by
    cases sp with
    | none => rfl
    | some p => simp [Addr.add, World.cell?] at h0; split at h0 <;> simp at h0
  subst hsp
  have h1 : w.cell? ⟨q, o + 1, none⟩ = some (.int .u8 b) := by have := hcell 1 (by omega); simpa [Addr.add] using this
  replace h0 : w.cell? ⟨q, o, none⟩ = some (.int .u8 a) := by simpa [Addr.add] using h0
  have hlt : q < w.heap.size := World.block_lt_of_cell? w _ h0
  have hmx := hr.2.1
  have HM := Aside0.mk hm
  have HR := Aside0.mk hr
  have b0 : decide (m < 2) = false := decide_eq_false (by omega)
  have i0 : 0 < m := by omega
  have i1 : 1 < m := by omega
  have i2 : (0 : Int) < (m : Int) := by omega
  have i3 : (1 : Int) < (m : Int) := by omega
  by_cases h2 : a * 256 + b ≤ (m : Int) - 2
  · have h3 : ¬ a * 256 + b ≤ lim := fun h => hno ⟨h, by omega⟩
    clear hno
    clear hm hr hcell
    go_enter Tryd.func48, Tryd.ntmps48
    go_wp2_with (fail)
    go_quiet (fail)
    go_wp2_with (fail)
    refine bodyPost_ret (results_take rfl _ _ w.heap.size rfl (take_heap _ _ _ _ _ _ _ _ _ _)) rfl ⟨0, none, 0, rfl, fun _ _ => ⟨rfl, by simp, fun h => absurd h (by simp)⟩, Nat.le_refl _, take_below _ _ _ _ _ _ _⟩
  · clear hno
    clear hm hr hcell
    go_enter Tryd.func48, Tryd.ntmps48
    go_wp2_with (fail)
    go_quiet (fail)
    go_wp2_with (fail)
    refine bodyPost_ret (results_take rfl _ _ w.heap.size rfl (take_heap _ _ _ _ _ _ _ _ _ _)) rfl ⟨0, none, 0, rfl, fun _ _ => ⟨rfl, by simp, fun h => absurd h (by simp)⟩, Nat.le_refl _, take_below _ _ _ _ _ _ _⟩
set_option maxRecDepth 100000 in
theorem Take_yes (A : Option Addr) (c m : Nat) (lim : Int) (a b : Int) (rest : List Int) (w : World) (hm : m = rest.length + 2) (hr : ReadsInt w .u8 A m (a :: b :: rest)) (hc : m ≤ c) (ha : 0 ≤ a) (ha2 : a < 256) (hb : 0 ≤ b) (hb2 : b < 256) (n : Nat) (hn : a * 256 + b = (n : Int)) (hl : a * 256 + b ≤ lim) (hnr : n ≤ rest.length) :
    Calls Tryd.prog 48 #[.slice A m c, .int .i64 2, .int .i64 lim] w (TakeR A m (a :: b :: rest) (rest.take n) (n + 2) true w) := by
  have hu := Tryd.underlying74
  obtain ⟨⟨q, o, sp⟩, rfl, hcell⟩ := hr.2.2 (by omega)
  have h0 := hcell 0 (by omega)
  have hsp : sp = none := by
    cases sp with
    | none => rfl
    | some p => simp [Addr.add, World.cell?] at h0; split at h0 <;> simp at h0
  subst hsp
  have h1 : w.cell? ⟨q, o + 1, none⟩ = some (.int .u8 b) := by have := hcell 1 (by omega); simpa [Addr.add] using this
  replace h0 : w.cell? ⟨q, o, none⟩ = some (.int .u8 a) := by simpa [Addr.add] using h0
  have hlt : q < w.heap.size := World.block_lt_of_cell? w _ h0
  have hmx := hr.2.1
  have HM := Aside0.mk hm
  have HR := Aside0.mk hr
  have b0 : decide (m < 2) = false := decide_eq_false (by omega)
  have i0 : 0 < m := by omega
  have i1 : 1 < m := by omega
  have i2 : (0 : Int) < (m : Int) := by omega
  have i3 : (1 : Int) < (m : Int) := by omega
  have h2 : a * 256 + b ≤ (m : Int) - 2 := by omega
  have HN := Aside0.mk hn
  have HNR := Aside0.mk hnr
  clear hn hnr
  clear hm hr hcell
  go_enter Tryd.func48, Tryd.ntmps48
  go_wp2_with (fail)
  go_quiet (fail)
  go_wp2_with (fail)
  all_goals
    refine bodyPost_ret (results_take rfl _ _ w.heap.size rfl (take_heap _ _ _ _ _ _ _ _ _ _)) rfl ?_
    have hN := HN.out
    exact take_fin HM.out HR.out hc (take_below _ _ _ _ _ _ _) n HNR.out (by first | rw [if_pos ‹_›] | (rw [if_neg ‹_›]; rfl)) (by omega) (by omega) (by omega)
/-- Take, whatever the bytes. -/
theorem Take_all (A : Option Addr) (c : Nat) (lim : Int) (l : List Int) (w : World) (hr : ReadsInt w .u8 A l.length l) (hc : l.length ≤ c) (hby : byteL l) :
    Calls Tryd.prog 48 #[.slice A l.length c, .int .i64 2, .int .i64 lim] w (TakeR A l.length l (takeB lim l).1 (takeB lim l).2.1 (takeB lim l).2.2 w) := by
  match l, hr, hc, hby with
  | [], hr, hc, hby => exact Take_short A c lim [] w (by simp)
  | [a], hr, hc, hby => exact Take_short A c lim [a] w (by simp)
  | a :: b :: rest, hr, hc, hby =>
    obtain ⟨ha, ha2⟩ := hby a (by simp)
    obtain ⟨hb, hb2⟩ := hby b (by simp)
    obtain ⟨n, hn⟩ := Int.eq_ofNat_of_zero_le (show 0 ≤ a * 256 + b by omega)
    by_cases h : a * 256 + b ≤ lim ∧ a * 256 + b ≤ rest.length
    · have e : (a * 256 + b).toNat = n := by omega
      have e0 : takeB lim (a :: b :: rest) = (rest.take n, n + 2, true) := by
        simp only [takeB]
        rw [if_pos h, e]
      rw [e0]
      exact Take_yes A c (a :: b :: rest).length lim a b rest w rfl hr hc ha ha2 hb hb2 n hn h.1 (by omega)
    · have e0 : takeB lim (a :: b :: rest) = ([], 0, false) := by
        simp only [takeB]
        rw [if_neg h]
      rw [e0]
      exact Take_no A c (a :: b :: rest).length lim a b rest w rfl hr hc ha ha2 hb hb2 h
end Go.Proofs.YtloagejeeakikaaDoor.QB
namespace Go.Proofs.YtloagejeeakikaaDoor.QB
open Go.RowKit Go.Proofs.YtloagejeeakikaaDoorW.PrintWords Go.Proofs.YtloagejeeakikaaDoorW.PrintLast Go.Proofs.YtloagejeeakikaaDoorW.PrintMore
open Go.Proofs.YtloagejeeakikaaDoor.Mem
set_option linter.unusedVariables false
set_option linter.unusedSimpArgs false
/-- Values that are slices of bytes, and the bytes that they are read as. -/
def Views (w : World) (vs : List Value) (ls : List (List Int)) : Prop :=
  vs.length = ls.length ∧ ∀ (i : Nat) (x : List Int), ls[i]? = some x → ∃ A c, vs[i]? = some (Value.slice A x.length c) ∧ x.length ≤ c ∧ ReadsInt w .u8 A x.length x
theorem Views.nil (w : World) : Views w [] [] := ⟨rfl, fun i x h => by simp at h⟩
theorem Views.below {w w' : World} {vs : List Value} {ls : List (List Int)} (h : Views w vs ls) (hb : Below w.heap.size w w') : Views w' vs ls :=
  ⟨h.1, fun i x hx => by
    obtain ⟨A, c, h1, h2, h3⟩ := h.2 i x hx
    exact ⟨A, c, h1, h2, h3.below hb⟩⟩
theorem Views.snoc {w : World} {vs : List Value} {ls : List (List Int)} (h : Views w vs ls) (A : Option Addr) (c : Nat) (x : List Int) (hc : x.length ≤ c) (hr : ReadsInt w .u8 A x.length x) : Views w (vs ++ [.slice A x.length c]) (ls ++ [x]) := by
  refine ⟨by simp [h.1], fun i y hy => ?_⟩
  rcases Nat.lt_or_ge i ls.length with hi | hi
  · rw [List.getElem?_append_left hi] at hy
    obtain ⟨A', c', h1, h2, h3⟩ := h.2 i y hy
    exact ⟨A', c', by rw [List.getElem?_append_left (by rw [h.1]; exact hi)]; exact h1, h2, h3⟩
  · rw [List.getElem?_append_right hi] at hy
    cases hk : i - ls.length with
    | zero =>
      rw [hk] at hy
      cases hy
      exact ⟨A, c, by rw [List.getElem?_append_right (by rw [h.1]; exact hi), h.1, hk]; rfl, hc, hr⟩
    | succ j => rw [hk] at hy; simp at hy
theorem Views.C {w : World} {base : Nat} {v : Value} {vs : List Value} {ls : List (List Int)} (h : Views w vs ls) (ho : w.ownsRow base 25 1 v vs.length vs) : ∃ A c, v = .slice A ls.length c ∧ ls.length ≤ c ∧ Kd.C (Kd.slice 5 (Kd.int .u8)) w A ls.length ls := by
  have hl := h.1
  rcases ho.2 with ⟨rfl, h0⟩ | ⟨g, cap, cur, rfl, hg, hh, hn, hm, hcs, hcur⟩
  · have : ls = [] := List.eq_nil_of_length_eq_zero (by omega)
    subst this
    exact ⟨none, 0, rfl, Nat.le_refl _, rfl, by simp, fun h => absurd h (by simp)⟩
  · rw [hl] at hn ⊢
    refine ⟨_, cap, rfl, hn, rfl, by unfold maxLen at hm; omega, fun hp => ⟨_, rfl, fun j p hj => ?_⟩⟩
    obtain ⟨A, c, h1, h2, h3⟩ := h.2 j p hj
    refine ⟨[.slice A p.length c], rfl, ⟨A, c, rfl, h2, C_of h3⟩, fun i u hu => ?_⟩
    cases i with
    | succ i => simp at hu
    | zero =>
      cases hu
      have hjl : j < ls.length := (List.getElem?_eq_some_iff.1 hj).1
      have hcj : cur[j]? = some (Value.slice A p.length c) := by
        rw [← hcur, List.getElem?_take] at h1
        split at h1
        · simpa using h1
        · cases h1
      rw [add_plain]
      unfold World.cell?
      rw [hh]
      simpa [Kd.slice] using hcj
/-- What Of takes, row by row: the rows, what is left. -/
def takes (l : List Int) : Nat → List (List Int) × List Int
  | 0 => ([], l)
  | k + 1 => ((takes l k).1 ++ [(takeB 80 (takes l k).2).1], (takes l k).2.drop (takeB 80 (takes l k).2).2.1)
theorem takes_len (l : List Int) (k : Nat) : (takes l k).1.length = k := by
  induction k with
  | zero => rfl
  | succ k ih => simp [takes, ih]
theorem takes_rest (l : List Int) (k : Nat) : ∃ n, (takes l k).2 = l.drop n := by
  induction k with
  | zero => exact ⟨0, rfl⟩
  | succ k ih =>
    obtain ⟨n, hn⟩ := ih
    exact ⟨n + (takeB 80 (takes l k).2).2.1, by
      show (takes l k).2.drop (takeB 80 (takes l k).2).2.1 = _
      conv => lhs; arg 2; rw [hn]
      rw [List.drop_drop]⟩
theorem takeB_le (lim : Int) (l : List Int) : (takeB lim l).2.1 ≤ l.length ∧ (takeB lim l).1.length ≤ lim.toNat := by
  unfold takeB
  split
  · split
    · simp
      omega
    · simp
  · simp
def OfPost (w : World) (outs : List (List Int)) (ok : Bool) (e : Ending) (w' : World) : Prop :=
  ∃ A c, e = .returned (.tuple #[.slice A outs.length c, .bool ok]) ∧ outs.length ≤ c ∧ Kd.C (Kd.slice 5 (Kd.int .u8)) w' A outs.length outs ∧ Below w.heap.size w w'
set_option maxHeartbeats 1600000 in
set_option maxRecDepth 100000 in
theorem Of_calls (k0 : Nat) (x y z : Int) (A : Option Addr) (c : Nat) (l : List Int) (w : World) (n : Nat) (hn : x = n) (hn4 : n ≤ 4) (hr : Kd.C (Kd.int .u8) w A l.length l) (hc : l.length ≤ c) (hL : l.length ≤ 1000000) (hby : byteL l)
    (t sm : Bool) (rb : List Int) (ht : oublietteref28_Right.f k0 x y z (takes l n).1 = some t) (hB : t = true → oublietteref28_Bytes.f k0 (takes l n).1 = some rb) (hS : t = true → oublietteref01_Same.f k0 rb l = some sm) :
    Calls Tryd.prog 21 #[.agg #[.int .i64 x, .int .i64 y, .int .i64 z], .slice A l.length c] w (if (t && sm) = true then OfPost w (takes l n).1 true else OfPost w [] false) := by
  obtain ⟨PP, hPP⟩ : ∃ P, P = (if (t && sm) = true then OfPost w (takes l n).1 true else OfPost w [] false) := ⟨_, rfl⟩
  rw [← hPP]
  subst hn
  have hu := Tryd.underlying74
  obtain ⟨w1, hw1⟩ : ∃ W, W = w.alloc (.cells #[.int .i64 (n : Int), .int .i64 y, .int .i64 z] 23) := ⟨_, rfl⟩
  have HP := Aside0.mk hPP
  have HT := Aside0.mk ht
  have HBY := Aside0.mk hB
  have HSM := Aside0.mk hS
  have HR := Aside0.mk (bytes_C hr)
  have HBL := Aside0.mk hby
  have HH := Aside0.mk (hw1 ▸ Geo.new w n y z 23 : Geo w.heap.size n y z w1)
  have HB1 := Aside0.mk (hw1 ▸ below_alloc (Below.refl w.heap.size w) _ : Below w.heap.size w w1)
  have hz1 : w1.heap.size = w.heap.size + 1 := by rw [hw1]; simp
  have HZ1 := Aside0.mk hz1
  clear hPP ht hB hS hr hby hz1
  go_enter Tryd.func21, Tryd.ntmps21
  go_wp2_with (fail)
  rw [← hw1]
  clear hw1
  obtain ⟨i5, hi5, hz5⟩ := Option.map_eq_some_iff.1 info5
  have hs5 : i5.size = 1 := by simp only [Prod.mk.injEq] at hz5; exact hz5.2.1
  have HI5 := Aside0.mk hi5
  have HS5 := Aside0.mk hs5
  clear hi5 hz5 hs5
  go_loopw [6, 7, 8] (fun v6 v7 v8 wr => ∃ (k : Nat) (vs : List Value) (Ar : Option Addr) (cr : Nat), v8 = .int .i64 k ∧ k ≤ n ∧ v7 = .slice Ar (takes l k).2.length cr ∧ (takes l k).2.length ≤ cr ∧ Aside0 (ReadsInt w .u8 Ar (takes l k).2.length (takes l k).2) ∧ Aside0 (Views w vs (takes l k).1) ∧ Aside0 (wr.ownsRow w1.heap.size 25 1 v6 vs.length vs) ∧ Aside0 (Below w1.heap.size w1 wr))
    (fun _ _ v8 _ => n - (intOf v8).toNat)
  case atStart => exact ⟨0, [], A, c, rfl, Nat.zero_le _, rfl, hc, HR, ⟨Views.nil w⟩, ⟨⟨rfl, .inl ⟨rfl, rfl⟩⟩⟩, ⟨Below.refl _ _⟩⟩
  case round =>
    obtain ⟨k, vs, Ar, cr, rfl, hk, rfl, hcr, HRR, HV, HO, HB⟩ := hrel
    obtain ⟨c0_, c1_, c2_⟩ := HH.out.step HB.out (by have := HZ1.out; omega)
    by_cases hlt : k < n
    · obtain ⟨r, hr⟩ : ∃ r, r = (takes l k).2 := ⟨_, rfl⟩
      rw [← hr] at hcr HRR
      have hrl : (takes l k).2.length = r.length := by rw [hr]
      simp only [hrl]
      obtain ⟨got, hgot⟩ : ∃ g, g = (takeB 80 r).1 := ⟨_, rfl⟩
      obtain ⟨m, hm⟩ : ∃ g, g = (takeB 80 r).2.1 := ⟨_, rfl⟩
      obtain ⟨tk, htk⟩ : ∃ g, g = (takeB 80 r).2.2 := ⟨_, rfl⟩
      have hle := takeB_le 80 r
      rw [← hgot, ← hm] at hle
      obtain ⟨hmr, hg80⟩ := hle
      have hbr : byteL r := by
        obtain ⟨j, hj⟩ := takes_rest l k
        rw [hr, hj]
        exact byteL_drop HBL.out j
      obtain ⟨A1, hcut, hA1⟩ := print_cut 25 5 .i64 Tryd.underlying25 HI5.out HS5.out Ar r.length cr m hmr
      have hbw : Below w.heap.size w wr := HB1.out.trans (HB.out.mono HB1.out.size)
      have htake := Take_all Ar cr 80 r wr (HRR.out.below hbw) hcr hbr
      rw [← hgot, ← hm, ← htk] at htake
      have HTK := Aside0.mk htake
      have HE := Aside0.mk (And.intro hr (And.intro hgot hm))
      have HA1 := Aside0.mk (hA1 w .u8 r hcr HRR.out)
      have HBW := Aside0.mk hbw
      have hlt0 : decide ((k : Int) < n) = true := decide_eq_true (by omega)
      clear hr hgot hm htk hbr htake hA1 hbw hrl
      go_wp2_with (fail)
      refine HTK.out.mono ?_
      rintro e w3 ⟨kd, A3, c3, rfl, hr3, hc3, hb3⟩
      have HR3 := Aside0.mk (hr3 w HRR.out)
      have HO3 := Aside0.mk (pw_own_below HO.out hb3)
      have HB3 := Aside0.mk (HB.out.trans (hb3.mono HB.out.size))
      have HBW3 := Aside0.mk (HBW.out.trans (hb3.mono HBW.out.size))
      clear hr3 hb3 c0_ c1_ c2_
      have hvl : vs.length = k := by have := HV.out.1; rw [takes_len] at this; exact this
      have HVL := Aside0.mk hvl
      have HZ3 := Aside0.mk HB3.out.size
      have HZA := Aside0.mk (show ∀ o : Obj, (w3.alloc o).heap.size = w3.heap.size + 1 from fun o => by simp)
      clear hvl
      go_wp2_with (at_builtin; go_loud (refine print_append (w0 := w1) w1.heap.size rfl (.tmp 25) (.tmp 28) 24 25 (.slice none 0 0) 24 rfl Tryd.underlying24 info25 (by decide) (by decide) _ vs (.slice A3 got.length c3) rfl (by rw [HZA.out]; rfl) rfl (HO3.out.alloc _) (below_alloc HB3.out _) (by have := HZ3.out; simp; omega) (by have := HVL.out; omega) ?_); intro v1 w5 hown5 hB5 hg5 hat5; have HO5 := Aside0.mk hown5; have HB5 := Aside0.mk hB5; have HG5 := Aside0.mk hg5.size; clear hown5 hB5 hg5 hat5)
      go_roundw
      case rel =>
        obtain ⟨hr, hgot, hm⟩ := HE.out
        have e1 : (takes l (k + 1)).1 = (takes l k).1 ++ [got] := by rw [hgot, hr]; rfl
        have e2 : (takes l (k + 1)).2 = r.drop m := by rw [hm, hr]; rfl
        have e3 : (takes l (k + 1)).2.length = r.length - m := by rw [e2, List.length_drop]
        refine ⟨k + 1, vs ++ [.slice A3 got.length c3], A1, cr - m, by go_num, by omega, by rw [e3], by rw [e3]; omega, ⟨?_⟩, ⟨?_⟩, HO5, HB5⟩
        · rw [e3, e2]
          exact HA1.out
        · rw [e1]
          exact HV.out.snoc A3 c3 got hc3 HR3.out
      case measure => simp [intOf]; omega
    · obtain rfl : k = n := by omega
      have hlt0 : decide ((k : Int) < k) = false := decide_eq_false (by omega)
      have hbw : Below w.heap.size w wr := HB1.out.trans (HB.out.mono HB1.out.size)
      obtain ⟨Ao, co, hve, hco, hCo⟩ := (HV.out.below hbw).C HO.out
      have HCO := Aside0.mk hCo
      have HBW := Aside0.mk hbw
      subst hve
      clear hCo hbw
      go_wp2_with (fail)
      refine (oublietteref28_Right.calls k0 k y z Ao co (takes l k).1 t wr HCO.out hco HT.out).mono ?_
      rintro e w3 ⟨rfl, hb⟩
      have HC3 := Aside0.mk (Kd.C_below HCO.out hb)
      have HB3 := Aside0.mk (HBW.out.trans (hb.mono HBW.out.size))
      clear hb c0_ c1_ c2_
      cases t with
      | false =>
        have hno : PP = OfPost w [] false := HP.out
        subst hno
        go_wp2_with (fail)
        go_ret2
        exact ⟨none, 0, rfl, Nat.le_refl _, ⟨rfl, by simp, fun h => absurd h (by simp)⟩, HB3.out⟩
      | true =>
        have HBB := Aside0.mk (HBY.out rfl)
        have HSS := Aside0.mk (HSM.out rfl)
        go_wp2_with (fail)
        refine (oublietteref28_Bytes.calls k0 Ao co (takes l k).1 rb w3 HC3.out hco HBB.out).mono ?_
        rintro e w4 ⟨v4, rfl, hr4, hb4⟩
        obtain ⟨A4, c4, rfl, hc4, hC4⟩ := Kd.R_reads hr4
        have HC4 := Aside0.mk (Kd.C_below HC3.out hb4)
        have HB4 := Aside0.mk (HB3.out.trans (hb4.mono HB3.out.size))
        have HD4 := Aside0.mk hC4
        clear hr4 hb4 hC4
        go_wp2_with (fail)
        refine (oublietteref01_Same.calls k0 A4 c4 rb A c l sm w4 HD4.out hc4 (C_of (HR.out.below HB4.out)) hc HSS.out).mono ?_
        rintro e w5 ⟨rfl, hd⟩
        have HB5 := Aside0.mk (HB4.out.trans (hd.below.mono HB4.out.size))
        have HC5 := Aside0.mk (Kd.C_below HC4.out hd.below)
        clear hd
        cases sm with
        | false =>
          have hno : PP = OfPost w [] false := HP.out
          subst hno
          go_wp2_with (fail)
          go_ret2
          exact ⟨none, 0, rfl, Nat.le_refl _, ⟨rfl, by simp, fun h => absurd h (by simp)⟩, HB5.out⟩
        | true =>
          have hyes : PP = OfPost w (takes l k).1 true := HP.out
          subst hyes
          go_wp2_with (fail)
          go_ret2
          exact ⟨Ao, co, rfl, hco, HC5.out, HB5.out⟩
end Go.Proofs.YtloagejeeakikaaDoor.QB
namespace Go.Proofs.YtloagejeeakikaaDoor.QB
open Go.RowKit Go.Proofs.YtloagejeeakikaaDoorW.PrintWords Go.Proofs.YtloagejeeakikaaDoorW.PrintLast Go.Proofs.YtloagejeeakikaaDoorW.PrintMore
open Go.Proofs.YtloagejeeakikaaDoor.Mem
set_option linter.unusedVariables false
set_option linter.unusedSimpArgs false
/-- The two fields that OfLeaf takes. -/
def ol1 (l : List Int) : List Int := (takeB 65535 l).1
def olS (l : List Int) : ByteArray := strOfNums (ol1 l)
def ol2 (l : List Int) : List Int := (takeB 65535 (l.drop (takeB 65535 l).2.1)).1
def OLPost (w : World) (s : ByteArray) (bs : List Int) (ok : Bool) (e : Ending) (w' : World) : Prop :=
  ∃ A c, e = .returned (.tuple #[.string s, .slice A bs.length c, .bool ok]) ∧ bs.length ≤ c ∧ ReadsInt w' .u8 A bs.length bs ∧ Below w.heap.size w w'
theorem takeB_le' (lim : Int) (l : List Int) : (takeB lim l).2.1 ≤ l.length := by
  unfold takeB
  split
  · split
    · simp
      omega
    · simp
  · simp
theorem Take_n (A : Option Addr) (c n : Nat) (lim : Int) (l : List Int) (w : World) (hn : l.length = n) (hr : ReadsInt w .u8 A n l) (hc : n ≤ c) (hby : byteL l) :
    Calls Tryd.prog 48 #[.slice A n c, .int .i64 2, .int .i64 lim] w (TakeR A n l (takeB lim l).1 (takeB lim l).2.1 (takeB lim l).2.2 w) := by
  subst hn
  exact Take_all A c lim l w hr hc hby
set_option maxHeartbeats 1600000 in
set_option maxRecDepth 100000 in
theorem OfLeaf_calls (k0 : Nat) (A : Option Addr) (c : Nat) (l : List Int) (w : World) (hr : Kd.C (Kd.int .u8) w A l.length l) (hc : l.length ≤ c) (hL : l.length ≤ 1000000) (hby : byteL l)
    (t sm : Bool) (rb : List Int) (ht : oublietteref28_RightLeaf.f k0 (olS l) (ol2 l) = some t) (hB : t = true → ref28_LeafBytes.f (olS l) (ol2 l) = some rb) (hS : t = true → oublietteref01_Same.f k0 rb l = some sm) :
    Calls Tryd.prog 18 #[.slice A l.length c] w (if (t && sm) = true then OLPost w (olS l) (ol2 l) true else OLPost w ⟨#[]⟩ [] false) := by
  obtain ⟨PP, hPP⟩ : ∃ P, P = (if (t && sm) = true then OLPost w (olS l) (ol2 l) true else OLPost w ⟨#[]⟩ [] false) := ⟨_, rfl⟩
  rw [← hPP]
  have hu := Tryd.underlying74
  have HP := Aside0.mk hPP
  have HT := Aside0.mk ht
  have HBY := Aside0.mk hB
  have HSM := Aside0.mk hS
  have HR := Aside0.mk (bytes_C hr)
  have HBL := Aside0.mk hby
  obtain ⟨m, hm⟩ : ∃ m, m = (takeB 65535 l).2.1 := ⟨_, rfl⟩
  obtain ⟨tk, htk⟩ : ∃ m, m = (takeB 65535 l).2.2 := ⟨_, rfl⟩
  have hmr := takeB_le' 65535 l
  have htake := Take_all A c 65535 l w (bytes_C hr) hc hby
  rw [← hm, ← htk] at htake
  rw [← hm] at hmr
  have HTK := Aside0.mk htake
  obtain ⟨i5, hi5, hz5⟩ := Option.map_eq_some_iff.1 info5
  have hs5 : i5.size = 1 := by simp only [Prod.mk.injEq] at hz5; exact hz5.2.1
  obtain ⟨A1, hcut, hA1⟩ := print_cut 25 5 .i64 Tryd.underlying25 hi5 hs5 A l.length c m hmr
  have HA1 := Aside0.mk (hA1 w .u8 l hc (bytes_C hr))
  have hdl : (l.drop m).length = l.length - m := List.length_drop
  have HE := Aside0.mk (And.intro hm hdl)
  clear hPP ht hB hS hr hby hm htk htake hi5 hz5 hs5 hA1 hdl
  go_enter Tryd.func18, Tryd.ntmps18
  go_wp2_with (fail)
  refine HTK.out.mono ?_
  rintro e w2 ⟨kd, A2, c2, rfl, hr2, hc2, hb2⟩
  have HR2 := Aside0.mk (show ReadsInt w .u8 A2 (ol1 l).length (ol1 l) from hr2 w HR.out)
  have hc2' : (ol1 l).length ≤ c2 := hc2
  have hol1 : (takeB 65535 l).1.length = (ol1 l).length := rfl
  have HB2 := Aside0.mk hb2
  simp only [hol1]
  clear hr2 hc2 hol1 hb2
  go_wp2_with (fail)
  obtain ⟨W2, hW2⟩ : ∃ W, W = w2.alloc (.cells #[.int .i64 kd, .int .i64 0, .int .u64 0, .slice A2 (ol1 l).length c2] 74) := ⟨_, rfl⟩
  rw [← hW2]
  have hcell : W2.cell? ⟨w2.heap.size, 3, none⟩ = some (.slice A2 (ol1 l).length c2) := by
    rw [hW2]
    unfold World.cell?
    rw [heap_alloc_new]
    rfl
  have HC3 := Aside0.mk hcell
  have hz2 : w2.heap.size < W2.heap.size := by rw [hW2]; simp
  have HB2' := Aside0.mk (show Below w.heap.size w W2 from hW2 ▸ below_alloc HB2.out _)
  clear hW2 hcell
  refine (Take_n A1 (c - m) (l.length - m) 65535 (l.drop m) W2 HE.out.2 (HA1.out.below HB2'.out) (by omega) (byteL_drop HBL.out m)).mono ?_
  rintro e w3 ⟨kd3, A3, c3, rfl, hr3, hc3, hb3⟩
  have hol2 : (takeB 65535 (l.drop m)).1 = ol2 l := by rw [HE.out.1]; rfl
  rw [hol2] at hr3 hc3
  have HR3 := Aside0.mk (hr3 w HA1.out)
  have HOL2 := Aside0.mk hol2
  have hcell3 := (hb3.cell (p := ⟨w2.heap.size, 3, none⟩) hz2).trans HC3.out
  have hz3 : w2.heap.size < w3.heap.size := by have := hb3.size; omega
  have HB3 := Aside0.mk (HB2'.out.trans (hb3.mono HB2'.out.size))
  rw [hol2]
  clear hr3 hol2 hb3 HC3
  obtain ⟨W3, hW3⟩ : ∃ W, W = w3.alloc (.cells #[.int .i64 kd3, .int .i64 0, .int .u64 0, .slice A3 (ol2 l).length c3] 74) := ⟨_, rfl⟩
  have HB3' := Aside0.mk (show Below w.heap.size w W3 from hW3 ▸ below_alloc HB3.out _)
  have HFC := Aside0.mk (show W3.cell? ⟨w2.heap.size, 3, none⟩ = some (.slice A2 (ol1 l).length c2) by
    rw [hW3]
    exact ((below_alloc (Below.refl w3.heap.size w3) _).cell (p := ⟨w2.heap.size, 3, none⟩) hz3).trans hcell3)
  have HGC := Aside0.mk (show W3.cell? ⟨w3.heap.size, 3, none⟩ = some (.slice A3 (ol2 l).length c3) by
    rw [hW3]
    unfold World.cell?
    rw [heap_alloc_new]
    rfl)
  have HZW := Aside0.mk (show W3.heap.size = w3.heap.size + 1 by rw [hW3]; simp)
  have hcv := string_of_reads (P := Tryd.prog) (src := 25) (dst := 9) (c := c2) Tryd.underlying25 Tryd.underlying5 Tryd.underlying9 (HR2.out.below HB3'.out)
  rw [hW3] at hcv
  have hcv : Sem.run Tryd.prog (convert 25 9 (.slice A2 (ol1 l).length c2)) (w3.alloc (.cells #[.int .i64 kd3, .int .i64 0, .int .u64 0, .slice A3 (ol2 l).length c3] 74)) = .ok (.string (olS l)) (w3.alloc (.cells #[.int .i64 kd3, .int .i64 0, .int .u64 0, .slice A3 (ol2 l).length c3] 74)) := hcv
  go_wp2_with (fail)
  rw [← hW3]
  clear hcv hcell3 hW3
  refine (oublietteref28_RightLeaf.calls k0 (olS l) A3 c3 (ol2 l) t W3 (C_of (HR3.out.below HB3'.out)) hc3 HT.out).mono ?_
  rintro e w4 ⟨rfl, hb⟩
  have HB4 := Aside0.mk (HB3'.out.trans (hb.mono HB3'.out.size))
  have hf4 := (hb.cell (p := ⟨w2.heap.size, 3, none⟩) (show w2.heap.size < W3.heap.size by have := HZW.out; omega)).trans HFC.out
  have hg4 := (hb.cell (p := ⟨w3.heap.size, 3, none⟩) (show w3.heap.size < W3.heap.size by have := HZW.out; omega)).trans HGC.out
  have HF4 := Aside0.mk hf4
  have HG4 := Aside0.mk hg4
  have HZ4 := Aside0.mk (show w2.heap.size < w4.heap.size ∧ w3.heap.size < w4.heap.size by have := HZW.out; have := hb.size; omega)
  clear hb
  cases t with
  | false =>
    have hno : PP = OLPost w ⟨#[]⟩ [] false := HP.out
    subst hno
    go_wp2_with (fail)
    go_ret3
    exact ⟨none, 0, rfl, Nat.le_refl _, ⟨rfl, by simp, fun h => absurd h (by simp)⟩, HB4.out⟩
  | true =>
    have HBB := Aside0.mk (HBY.out rfl)
    have HSS := Aside0.mk (HSM.out rfl)
    have hcv : Sem.run Tryd.prog (convert 25 9 (.slice A2 (ol1 l).length c2)) w4 = .ok (.string (olS l)) w4 := string_of_reads (P := Tryd.prog) (src := 25) (dst := 9) (c := c2) Tryd.underlying25 Tryd.underlying5 Tryd.underlying9 (HR2.out.below HB4.out)
    go_wp2_with (fail)
    clear hcv hf4 hg4
    refine (ref28_LeafBytes.calls (olS l) A3 c3 (ol2 l) rb w4 (C_of (HR3.out.below HB4.out)) hc3 HBB.out).mono ?_
    rintro e w5 ⟨v5, rfl, hr5, hb5⟩
    obtain ⟨A5, c5, rfl, hc5, hC5⟩ := Kd.R_reads hr5
    have HB5 := Aside0.mk (HB4.out.trans (hb5.mono HB4.out.size))
    have HC5 := Aside0.mk hC5
    have HF5 := Aside0.mk ((hb5.cell (p := ⟨w2.heap.size, 3, none⟩) HZ4.out.1).trans HF4.out)
    have HG5 := Aside0.mk ((hb5.cell (p := ⟨w3.heap.size, 3, none⟩) HZ4.out.2).trans HG4.out)
    have HZ5 := Aside0.mk (show w2.heap.size < w5.heap.size ∧ w3.heap.size < w5.heap.size by have := HZ4.out; have := hb5.size; omega)
    clear hr5 hb5 hC5
    go_wp2_with (fail)
    refine (oublietteref01_Same.calls k0 A5 c5 rb A c l sm w5 HC5.out hc5 (C_of (HR.out.below HB5.out)) hc HSS.out).mono ?_
    rintro e w6 ⟨rfl, hd⟩
    have HB6 := Aside0.mk (HB5.out.trans (hd.below.mono HB5.out.size))
    have hf6 := (hd.below.cell (p := ⟨w2.heap.size, 3, none⟩) HZ5.out.1).trans HF5.out
    have hg6 := (hd.below.cell (p := ⟨w3.heap.size, 3, none⟩) HZ5.out.2).trans HG5.out
    clear hd
    cases sm with
    | false =>
      have hno : PP = OLPost w ⟨#[]⟩ [] false := HP.out
      subst hno
      clear hf6 hg6
      go_wp2_with (fail)
      go_ret3
      exact ⟨none, 0, rfl, Nat.le_refl _, ⟨rfl, by simp, fun h => absurd h (by simp)⟩, HB6.out⟩
    | true =>
      have hyes : PP = OLPost w (olS l) (ol2 l) true := HP.out
      subst hyes
      have hcv : ∀ q, Sem.run Tryd.prog (convert 25 9 (.slice A2 (ol1 l).length c2)) (w6.drewN q) = .ok (.string (olS l)) (w6.drewN q) := fun q => string_of_reads (P := Tryd.prog) (src := 25) (dst := 9) (c := c2) Tryd.underlying25 Tryd.underlying5 Tryd.underlying9 (HR2.out.below (pw_below_drewN HB6.out q))
      go_wp2_with (fail)
      go_quiet (fail)
      go_wp2_with (fail)
      go_ret3
      exact ⟨A3, c3, rfl, hc3, HR3.out.below (pw_below_drewN HB6.out _), pw_below_drewN HB6.out _⟩
end Go.Proofs.YtloagejeeakikaaDoor.QB
