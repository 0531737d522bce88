-- Written by a program of this session (px.py) out of the translation's print. Not trusted: Lean checks it.
import Derived.Test.YtloagejeeakikaaDoorQB0
import Derived.Test.YtloagejeeakikaaDoorQB6
import Derived.Test.YtloagejeeakikaaDoorQB7
import Derived.RangeFuncNested
import Derived.RangeFuncBound
import Derived.RangeFuncCalls
import Derived.RangeFuncLeaves
import Derived.RangeFuncBox
import Derived.Shelf.Abstract
import Derived.Shelf.RegionOpen
import Derived.WalkKit
import Derived.OwnWalkIn
import Derived.TacticsInMore
import Derived.LoopNIn
import Derived.LoopIn
import Derived.Maps.AppendAt
import Derived.Lib.IndexLaws
import Derived.Lib.OthersKept
namespace Go.Proofs.YtloagejeeakikaaDoor.QB
open Go.RowKit Go.Proofs.YtloagejeeakikaaDoorW.PrintWords Go.Proofs.YtloagejeeakikaaDoorW.PrintLast Go.Proofs.YtloagejeeakikaaDoorW.PrintMore
attribute [local go_sem] max2_int min2_int max_two min_two max_three min_three max_four min_four   -- for this text's walks alone
set_option linter.unusedVariables false
set_option linter.unusedSimpArgs false

/-! ### name_Right: function 63 -/
open Go.Shelf
attribute [local go_sem] Oper.semAt_some
/-- A text's pieces between the signs c: what a range over SplitSeq hands over. -/
def splitG (c : UInt8) : Nat → ByteArray → List ByteArray
  | 0, s => [s]
  | n + 1, s => if 0 ≤ Lib.indexByte s.data.toList c then s.extract 0 (Lib.indexByte s.data.toList c).toNat :: splitG c n (s.extract ((Lib.indexByte s.data.toList c).toNat + 1) s.size) else [s]
def splitOf (c : UInt8) (s : ByteArray) : List ByteArray := splitG c s.size s
theorem splitG_none (c : UInt8) (n : Nat) (s : ByteArray) (h : ¬ 0 ≤ Lib.indexByte s.data.toList c) : splitG c n s = [s] := by
  cases n with
  | zero => rfl
  | succ n => simp [splitG, h]
theorem indexByte_lt (s : ByteArray) (c : UInt8) (h : 0 ≤ Lib.indexByte s.data.toList c) : (Lib.indexByte s.data.toList c).toNat < s.size := by
  obtain ⟨o, ho⟩ : ∃ o : Nat, Lib.indexByte s.data.toList c = o := ⟨_, (Int.toNat_of_nonneg h).symm⟩
  have := (Lib.indexByte_some ho).1
  have := (List.getElem?_eq_some_iff.1 this).1
  rw [ho]
  simpa using this
/-- The iterator's own three blocks. -/
def Kept3 (b : Nat) (A B : World) : Prop := B.heap[b]? = A.heap[b]? ∧ B.heap[b + 1]? = A.heap[b + 1]? ∧ B.heap[b + 2]? = A.heap[b + 2]?
def strSize : Option Value → Nat
  | some (Value.string c) => c.size
  | _ => 0
def leftAt (W : World) (b : Nat) : Nat := strSize (W.cell? ⟨b, 0, none⟩)
theorem leftAt_eq {W : World} {b : Nat} {c : ByteArray} (h : Boxed W b 9 (.string c)) : leftAt W b = c.size := by simp [leftAt, h.cell, strSize]
set_option maxRecDepth 100000 in
set_option maxHeartbeats 2000000 in
theorem splitSeq1_in (n : Nat) (hn : 1 ≤ n) (l B N : Nat) (c : UInt8) (s : ByteArray) (J Jx : List ByteArray → World → Prop) (W : World) (hJ : AbidesFrom W.heap.size J) (hs : s.size ≤ 140737488351232)
    (hY : ∀ pre x W, x.size ≤ s.size → J pre W → pre.length < N → YieldAt .wide (n - 1) Tryd.prog l #[.string x] W fun e W' =>
      (e = .returned (.bool true) ∧ J (pre ++ [x]) W' ∧ Kept3 B W W') ∨ (e = .returned (.bool false) ∧ Jx (pre ++ [x]) W'))
    (hSt : ∀ pre W u, J pre W → J pre (W.setCell ⟨B, 0, none⟩ (.string u)))
    (h1 : Boxed W B 9 (.string s)) (h2 : Boxed W (B + 1) 9 (.string ⟨#[c]⟩)) (h3 : Boxed W (B + 2) 3 (.int .i64 0)) (hN : s.size + 1 ≤ N) (h0 : J [] W) :
    CallsIn .wide n Tryd.prog 97 #[.func (.yield l) #[] #[], .pointer (some ⟨B + 1, 0, none⟩), .pointer (some ⟨B, 0, none⟩), .pointer (some ⟨B + 2, 0, none⟩)] W fun e' W' => (∃ v, e' = .returned v) ∧
      ((∃ ys, ys = splitOf c s ∧ J ys W') ∨ (∃ pre, (∃ r, pre ++ r = splitOf c s) ∧ Jx pre W')) := by
  refine callsIn_of_wp Tryd.func97 rfl trivial ?_ rfl
  simp only [Tryd.ntmps97, List.size_toArray, List.length_cons, List.length_nil, Nat.reduceAdd, Nat.reduceSub, Array.replicate_succ, Array.replicate_zero, List.push_toArray, List.append_toArray, List.nil_append, List.cons_append]
  have c1 := h1.cell
  have c2 := h2.cell
  have c3 := h3.cell
  have hsz : (⟨#[c]⟩ : ByteArray).size = 1 := rfl
  gi_wp2
  gi_loopw [7] (fun _ wr => ∃ (pre : List ByteArray) (cur : ByteArray) (b : Nat), Boxed wr B 9 (.string cur) ∧ Boxed wr (B + 1) 9 (.string ⟨#[c]⟩) ∧ Boxed wr (B + 2) 3 (.int .i64 0) ∧ J pre wr ∧ Aside0 (splitOf c s = pre ++ splitG c b cur) ∧ cur.size ≤ b ∧ pre.length + b ≤ s.size ∧ Aside0 (cur.size ≤ s.size))
    (fun _ wr => leftAt wr B)
  case atStart => exact ⟨[], s, s.size, h1, h2, h3, h0, ⟨rfl⟩, by omega, by simp, ⟨Nat.le_refl _⟩⟩
  case round =>
    obtain ⟨pre, cur, b, g1, g2, g3, hJs, HA, hcb, hpb, HCS⟩ := hrel
    have d1 := g1.cell
    have d2 := g2.cell
    have d3 := g3.cell
    by_cases hi : 0 ≤ Lib.indexByte cur.data.toList c
    · have hlt := indexByte_lt cur c hi
      obtain ⟨i, hie⟩ : ∃ i : Nat, Lib.indexByte cur.data.toList c = i := ⟨_, (Int.toNat_of_nonneg hi).symm⟩
      rw [hie] at hlt
      simp only [Int.toNat_natCast] at hlt
      cases b with
      | zero => omega
      | succ b =>
      have HA2 := HA.out
      rw [splitG, if_pos hi, hie, Int.toNat_natCast] at HA2
      replace HA := Aside0.mk HA2
      clear HA2 hi
      have hsz2 : (cur.extract (i + 1) cur.size).size = cur.size - (i + 1) := by simp
      obtain ⟨fn, tmps, assign, body, hy, hR⟩ := hY pre (cur.extract 0 i) wr (by have := HCS.out; simp; omega) hJs (by omega)
      gi_wp2_with (refine ⟨trivial, ?_⟩; gi_at_call 99; refine (callsIn_wide.2 (Tryd.strings_Index_one cur c wr)).mono ?_; rw [hie]; rintro e' w2 ⟨rfl, rfl⟩)
      refine hR.mono ?_
      rintro e' W3 (⟨rfl, hJ3, hk3⟩ | ⟨rfl, hJx3⟩)
      · have k1 : Boxed W3 B 9 (.string cur) := Eq.trans hk3.1 g1
        have k2 : Boxed W3 (B + 1) 9 (.string ⟨#[c]⟩) := Eq.trans hk3.2.1 g2
        have k3 : Boxed W3 (B + 2) 3 (.int .i64 0) := Eq.trans hk3.2.2 g3
        have e1 := k1.cell
        have e2 := k2.cell
        have e3 := k3.cell
        have f1 := k1.frozen
        have hle : (i : Int) + 1 ≤ cur.size := by omega
        clear hsz2
        gi_wp2
        have m1 := k1.set (.string (cur.extract (i + 1) cur.size))
        refine ⟨⟨pre ++ [cur.extract 0 i], cur.extract (i + 1) cur.size, b, m1, k2.other (by omega) _, k3.other (by omega) _, hSt _ _ _ hJ3, ⟨by rw [HA.out]; simp⟩, by simp; omega, by simp; omega, ⟨by have := HCS.out; simp; omega⟩⟩, ?_⟩
        rw [leftAt_eq m1, leftAt_eq g1]
        simp
        omega
      · gi_wp2
        refine bodyPost_ret (results_none rfl _ _ _) rfl ?_
        exact ⟨⟨_, rfl⟩, .inr ⟨_, ⟨_, by rw [HA.out, List.append_assoc]; rfl⟩, hJx3⟩⟩
    · have HB2 := HA.out
      rw [splitG_none c b cur hi] at HB2
      have HD := Aside0.mk HB2
      clear HB2 HA
      have hi' : Lib.indexByte cur.data.toList c < 0 := by omega
      have hib : decide (Lib.indexByte cur.data.toList c < 0) = true := decide_eq_true hi'
      obtain ⟨fn, tmps, assign, body, hy, hR⟩ := hY pre cur wr HCS.out hJs (by omega)
      gi_wp2_with (refine ⟨trivial, ?_⟩; gi_at_call 99; refine (callsIn_wide.2 (Tryd.strings_Index_one cur c wr)).mono ?_; rintro e' w2 ⟨rfl, rfl⟩)
      refine hR.mono ?_
      rintro e' W3 (⟨rfl, hJ3, hk3⟩ | ⟨rfl, hJx3⟩)
      · gi_wp2
        go_end0
        exact ⟨⟨_, rfl⟩, .inl ⟨_, by rw [HD.out], hJ3⟩⟩
      · gi_wp2
        go_end0
        exact ⟨⟨_, rfl⟩, .inr ⟨_, ⟨[], by rw [HD.out]; simp⟩, hJx3⟩⟩
theorem splitSeq0_in (n : Nat) (s sep : ByteArray) (w : World) :
    CallsIn .wide n Tryd.prog 89 #[.string s, .string sep, .int .i64 0] w fun e' w' => e' = .returned (.func (.func 97) #[] #[.pointer (some ⟨w.heap.size + 1, 0, none⟩), .pointer (some ⟨w.heap.size, 0, none⟩), .pointer (some ⟨w.heap.size + 2, 0, none⟩)]) ∧
      w' = ((w.alloc (.cells #[.string s] 9)).alloc (.cells #[.string sep] 9)).alloc (.cells #[.int .i64 0] 3) := by
  refine callsIn_of_wp Tryd.func89 rfl trivial ?_ rfl
  simp only [Tryd.ntmps89, List.size_toArray, List.length_cons, List.length_nil, Nat.reduceAdd, Nat.reduceSub, Array.replicate_succ, Array.replicate_zero, List.push_toArray, List.append_toArray, List.nil_append, List.cons_append]
  gi_wp2
  go_ret
  exact ⟨rfl, rfl⟩
theorem splitSeqT_in (n : Nat) (hn : 1 ≤ n) (s sep : ByteArray) (w : World) :
    CallsIn .wide n Tryd.prog 77 #[.string s, .string sep] w fun e' w' => e' = .returned (.func (.func 97) #[] #[.pointer (some ⟨w.heap.size + 1, 0, none⟩), .pointer (some ⟨w.heap.size, 0, none⟩), .pointer (some ⟨w.heap.size + 2, 0, none⟩)]) ∧
      w' = ((w.alloc (.cells #[.string s] 9)).alloc (.cells #[.string sep] 9)).alloc (.cells #[.int .i64 0] 3) := by
  refine callsIn_of_wp Tryd.func77 rfl trivial ?_ rfl
  simp only [Tryd.ntmps77, List.size_toArray, List.length_cons, List.length_nil, Nat.reduceAdd, Nat.reduceSub, Array.replicate_succ, Array.replicate_zero, List.push_toArray, List.append_toArray, List.nil_append, List.cons_append]
  gi_wp2
  refine ⟨trivial, ?_⟩
  refine (splitSeq0_in _ s sep w).mono ?_
  rintro e' w' ⟨rfl, rfl⟩
  gi_wp2
  go_ret
  exact ⟨rfl, rfl⟩
/-- The contract of an iterator that also keeps what is left in a block of its own (b): the caller's words stand over its stores there. -/
def SeqOwn {α : Type} (n : Nat) (P : Program) (b g : Nat) (lb : Array Value) (encs : α → Array Value) (Gd : α → Prop) (Kp : World → World → Prop) (S Sp : List α → Prop) (N : Nat) (W : World) : Prop :=
  ∀ (l : Nat) (J Jx : List α → World → Prop), AbidesFrom W.heap.size J → (∀ pre A u, J pre A → J pre (A.setCell ⟨b, 0, none⟩ u)) →
    (∀ pre x W1, Gd x → J pre W1 → pre.length < N → YieldAt .wide (n - 1) P l (encs x) W1 fun e W' => (e = .returned (.bool true) ∧ J (pre ++ [x]) W' ∧ Kp W1 W') ∨ (e = .returned (.bool false) ∧ Jx (pre ++ [x]) W')) →
    J [] W → CallsIn .wide n P g (#[.func (.yield l) #[] #[]] ++ lb) W fun e W' => (∃ v, e = .returned v) ∧ ((∃ xs, S xs ∧ J xs W') ∨ (∃ pre, Sp pre ∧ Jx pre W'))
/-- A range over such an iterator: what the body keeps between two rounds (I) must stand over the iterator's own stores. -/
theorem range_own {α : Type} {n : Nat} {P : Program} {g : Operand} {ps : Array Tmp} {assign body : Code} {Q : Exit → Act → World → Prop} {a : Act} {w : World}
    {gf : Nat} {lb : Array Value} (hg : a.eval g = .func (.func gf) #[] lb) (eg : ∀ args w, (callFunc gf args).run P w = .ok (.enter gf args) w)
    {b : Nat} (hb : b < w.heap.size) {encs : α → Array Value} {Gd : α → Prop} {Kp : World → World → Prop} {S Sp : List α → Prop} {N : Nat}
    (hseq : ∀ W1, Below w.heap.size w W1 → SeqOwn (n - 1) P b gf lb encs Gd Kp S Sp N W1)
    (hKt : ∀ {A B C : World}, Kp A B → Kp B C → Kp A C) (hKb : ∀ (W : World) (l : Nat) (o' : Obj), w.heap.size ≤ l → Kp W (W.putObj l o')) (hps : ∀ x, (encs x).size = ps.size)
    (I : List α → World → Prop) (Ix : Code → List α → World → Prop) (hI : OwnFrom w.heap.size I) (hIx : ∀ c, OwnFrom w.heap.size (Ix c)) (hIs : ∀ pre A u, I pre A → I pre (A.setCell ⟨b, 0, none⟩ u)) (h0 : I [] w) (a₁ : α → Act)
    (hassign : ∀ (l : Nat) (x : α) (W : World) (K : Act → World → Prop), K (a₁ x) W →
      assign.wpIn (Fence.wide.inRound l) (n - 1 - 1) P (Exit.then K (fun _ _ _ => False)) { tmps := (ps.zip (encs x)).foldl (fun t (p, v) => t.setIfInBounds p v) a.tmps, defers := [] } W)
    (hbody : ∀ (l : Nat) (pre : List α) (x : α) (W : World), Gd x → I pre W → pre.length < N → body.wpIn (Fence.wide.inRound l) (n - 1 - 1) P (ownPostG w.heap.size Kp I Ix (pre ++ [x]) W) (a₁ x) W)
    (hdone : ∀ (D : Nat) (xs : List α) (W : World), w.heap.size ≤ D → S xs → I xs W → W.heap[D]? = some (.deferred (some [])) → Q .normal { a with defers := { target := .collected D, args := #[] } :: a.defers } W)
    (hstop : ∀ (D : Nat) (c : Code) (pre : List α) (W : World), w.heap.size ≤ D → Sp pre → Ix c pre W → W.heap[D]? = some (.deferred (some [])) → c.wpIn .wide n P Q { a with defers := { target := .collected D, args := #[] } :: a.defers } W) :
    (Code.rangeFunc g ps assign body).wpIn .wide n P Q a w := by
  refine wpIn_rangeFunc fun fn _ => ?_
  -- the loop's record lies at D + 1, the block for the rounds' deferred calls at D
  obtain ⟨D, hD⟩ : ∃ D, w.heap.size = D := ⟨_, rfl⟩
  let mk : LoopState → Option Code → Obj := fun st pe => .loop { state := st, pending := pe, fn, tmps := a.tmps, params := ps, assign, body, defers := D }
  have hmk : mk = fun st pe => .loop { state := st, pending := pe, fn, tmps := a.tmps, params := ps, assign, body, defers := D } := rfl
  clear_value mk
  obtain ⟨W1, hW1⟩ : ∃ W1, (w.alloc (.deferred (some []))).alloc (mk .ready none) = W1 := ⟨_, rfl⟩
  have hbel : Below w.heap.size w W1 := by rw [← hW1]; exact ((Below.refl _ w).alloc (Nat.le_refl _) _).alloc (by simp) _
  have hL1 : W1.heap[D + 1]? = some (mk .ready none) := by
    have e := World.alloc_heap_new (w.alloc (.deferred (some []))) (mk .ready none)
    rw [World.size_alloc, hD, hW1] at e
    exact e
  have hD1 : W1.heap[D]? = some (.deferred (some [])) := by
    rw [← hW1, ← hD]
    exact (Below.heap_alloc _ _ _ (by simp)).trans (World.alloc_heap_new w _)
  have hI1 : I [] W1 := by rw [← hW1]; exact hI.alloc _ (hI.alloc _ h0)
  rw [hD] at hI hIx hb hKb hbody hdone hstop
  have hsz1 : D + 2 ≤ W1.heap.size := by have := (Array.getElem?_eq_some_iff.1 hL1).1; omega
  refine ⟨D + 1, [{ target := .collected D, args := #[] }], W1, { target := .fn (.func gf) lb, args := #[.func (.yield (D + 1)) #[] #[]] }, W1, gf, #[.func (.yield (D + 1)) #[] #[]] ++ lb, W1, ?_, ?_, fun _ _ => trivial, ?_, (fun h => by cases h), ?_⟩
  · rw [← hW1, hmk, ← hD]
    exact run_enterLoop_outer _ _ _ _ _
  · simp only [resolve, hg]
    simp [go_sem]
  · simp [invoke, go_sem, eg]
  · have walkish : ∀ {A : World} {row : Option Nat}, (∀ r, row = some r → W1.heap.size ≤ r ∧ ∃ o : Obj, A.heap[r]? = some o ∧ o.isWalk = true) → (∀ r, row = some r → D ≤ r ∧ ∃ o : Obj, A.heap[r]? = some o ∧ o.isCells = false) :=
      fun hr r e => by obtain ⟨h1, o, ho, hw⟩ := hr r e; exact ⟨by omega, o, ho, Obj.not_cells_of_walk hw⟩
    have stays : ∀ {A B : World} {row : Option Nat} {k : Nat} {o : Obj}, A.grownBy B row → (∀ r, row = some r → W1.heap.size ≤ r ∧ ∃ o : Obj, A.heap[r]? = some o ∧ o.isWalk = true) → k < D + 2 → A.heap[k]? = some o → B.heap[k]? = some o :=
      fun hg hr hk ho => (hg.block _ (Array.getElem?_eq_some_iff.1 ho).1 (fun e => by have := (hr _ e.symm).1; omega)).trans ho
    refine (hseq W1 hbel (D + 1) (fun pre W => I pre W ∧ W.heap[D + 1]? = some (mk .ready none) ∧ W.heap[D]? = some (.deferred (some [])))
      (fun pre W => ∃ c, Ix c pre W ∧ W.heap[D + 1]? = some (mk .done (some c)) ∧ W.heap[D]? = some (.deferred (some [])))
      (fun s A B row hs hgr hr => ⟨hI s A B row hs.1 hgr (walkish hr), stays hgr hr (by omega) hs.2.1, stays hgr hr (by omega) hs.2.2⟩)
      (fun pre A u hs => ⟨hIs pre A u hs.1, (Below.heap_setCell _ _ _ _ (by simp; omega)).trans hs.2.1, (Below.heap_setCell _ _ _ _ (by simp; omega)).trans hs.2.2⟩)
      ?_ ⟨hI1, hL1, hD1⟩).mono ?_
    · rintro pre x W hgd ⟨hi, hl, hk⟩ hlen
      have hlt : D + 1 < W.heap.size := (Array.getElem?_eq_some_iff.1 hl).1
      rw [hmk] at hl
      refine ⟨fn, _, assign, body, run_yield (P := P) (args := encs x) hl (hps x), roundIn_of_wpIn trivial (hassign _ x W _ ⟨_, run_beginRound hl rfl, ?_⟩)⟩
      obtain ⟨Wb, hWb⟩ : ∃ Wb, W.putObj (D + 1) (mk .busy none) = Wb := ⟨_, rfl⟩
      have hlb : Wb.heap[D + 1]? = some (mk .busy none) := by rw [← hWb]; exact World.putObj_heap_same hlt
      have hkb : Wb.heap[D]? = some (.deferred (some [])) := by rw [← hWb]; exact (World.putObj_heap_other (by omega)).trans hk
      have hKw : Kp W Wb := by rw [← hWb]; exact hKb _ _ _ (by omega)
      have hib : I pre Wb := by rw [← hWb]; exact hI.putObj _ hi (by omega) hl rfl
      have hWb2 := hWb
      rw [hmk] at hWb2
      rw [hWb2]
      have close : ∀ (jump : Option Code) (W3 : World), KeepsFrom D Wb W3 → ∃ W4, W4 = W3.putObj (D + 1) (mk (if jump.isNone then .ready else .done) jump) ∧ (Instr.endRound (D + 1) jump).run P W3 = .ok (.bool jump.isNone) W4 ∧ W3.heap[D + 1]? = some (mk .busy none) ∧
          W4.heap[D + 1]? = some (mk (if jump.isNone then .ready else .done) jump) ∧ W4.heap[D]? = some (.deferred (some [])) := fun jump W3 hk3 => by
        have hl3 := hk3.same _ _ (by omega) hlb (by rw [hmk]; rfl)
        refine ⟨_, rfl, ?_, hl3, World.putObj_heap_same (Array.getElem?_eq_some_iff.1 hl3).1, (World.putObj_heap_other (by omega)).trans (hk3.same _ _ (Nat.le_refl _) hkb rfl)⟩
        rw [hmk] at hl3 ⊢
        exact run_endRound (P := P) jump hl3
      have notCells : (mk .busy none).isCells = false := by rw [hmk]; rfl
      refine wpIn_mono (hbody _ pre x _ hgd hib hlen) ?_
      rintro e a3 W3 hp
      have leaves : ∀ c : Code, KeepsFrom D Wb W3 → Ix c (pre ++ [x]) W3 → ∃ v W4, (Instr.endRound (D + 1) (some c)).run P W3 = .ok v W4 ∧ v = .bool false ∧ ∃ c, Ix c (pre ++ [x]) W4 ∧ W4.heap[D + 1]? = some (mk .done (some c)) ∧ W4.heap[D]? = some (.deferred (some [])) := fun c hk3 hi3 => by
        obtain ⟨W4, rfl, hr, hl3, hl4, hk4⟩ := close (some c) W3 hk3
        exact ⟨_, _, hr, rfl, c, (hIx c).putObj _ hi3 (by omega) hl3 notCells, hl4, hk4⟩
      cases e with
      | normal =>
        obtain ⟨W4, rfl, hr, hl3, hl4, hk4⟩ := close none W3 hp.1
        exact ⟨_, _, hr, .inl ⟨rfl, ⟨hI.putObj _ hp.2.2 (by omega) hl3 notCells, hl4, hk4⟩, hKt (hKt hKw hp.2.1) (hKb _ _ _ (by omega))⟩⟩
      | ret => obtain ⟨v, W4, hr, rfl, h⟩ := leaves .ret hp.1 hp.2; exact ⟨_, _, hr, .inr ⟨rfl, h⟩⟩
      | exit id => obtain ⟨v, W4, hr, rfl, h⟩ := leaves (.exit id) hp.1 hp.2; exact ⟨_, _, hr, .inr ⟨rfl, h⟩⟩
      | goto t => obtain ⟨v, W4, hr, rfl, h⟩ := leaves (.goto t) hp.1 hp.2; exact ⟨_, _, hr, .inr ⟨rfl, h⟩⟩
      | panic ch => exact hp.elim
      | outgrown => exact hp.elim
    · rintro e W2 ⟨⟨v, rfl⟩, (⟨xs, hS, hi, hl, hk⟩ | ⟨pre, hSp, c, hi, hl, hk⟩)⟩
      · have hl' := hl
        rw [hmk] at hl'
        exact ⟨none, _, run_endLoop (P := P) hl' (by simp), hdone D xs _ (Nat.le_refl _) hS (hI.putObj _ hi (by omega) hl' rfl) ((World.putObj_heap_other (by omega)).trans hk)⟩
      · have hl' := hl
        rw [hmk] at hl'
        exact ⟨some c, _, run_endLoop (P := P) hl' (by simp), hstop D c pre _ (Nat.le_refl _) hSp ((hIx c).putObj _ hi (by omega) hl' rfl) ((World.putObj_heap_other (by omega)).trans hk)⟩
/-- SplitSeq's value, as such an iterator. -/
theorem split_own (n : Nat) (hn : 1 ≤ n) (B : Nat) (c : UInt8) (s : ByteArray) (hs : s.size ≤ 140737488351232) (w : World)
    (h1 : Boxed w B 9 (.string s)) (h2 : Boxed w (B + 1) 9 (.string ⟨#[c]⟩)) (h3 : Boxed w (B + 2) 3 (.int .i64 0)) (W1 : World) (hb : Below w.heap.size w W1) :
    SeqOwn n Tryd.prog B 97 #[.pointer (some ⟨B + 1, 0, none⟩), .pointer (some ⟨B, 0, none⟩), .pointer (some ⟨B + 2, 0, none⟩)] (fun x : ByteArray => #[Value.string x]) (fun x => x.size ≤ s.size) (Kept3 B) (fun ys => ys = splitOf c s) (fun pre => ∃ r, pre ++ r = splitOf c s) (s.size + 1) W1 :=
  fun l J Jx hJ hSt hY h0 => splitSeq1_in n hn l B (s.size + 1) c s J Jx W1 hJ hs hY (fun pre A u => hSt pre A _) (blk_below h1 hb) (blk_below h2 hb) (blk_below h3 hb) (Nat.le_refl _) h0
def partB (s : ByteArray) : Bool := (runesOf s).all smallB && (decide (1 ≤ (runesOf s).length) && decide ((runesOf s).length ≤ 8))
def cntI (s : ByteArray) : Int := if Lib.validD s.data.toList = true then ((runesOf s).length : Int) else -1
def totI (l : List ByteArray) : Int := (l.map fun p => cntI p + 1).sum
theorem totI_snoc (l : List ByteArray) (p : ByteArray) : totI (l ++ [p]) = totI l + (cntI p + 1) := by simp [totI]
theorem cntI_range (p : ByteArray) (h : partB p = true) : -1 ≤ cntI p ∧ cntI p ≤ 8 := by
  unfold partB at h
  simp only [Bool.and_eq_true, decide_eq_true_eq] at h
  unfold cntI
  split <;> omega
theorem totI_range (l : List ByteArray) (h : ∀ p ∈ l, partB p = true) : 0 ≤ totI l ∧ totI l ≤ 9 * l.length := by
  induction l with
  | nil => simp [totI]
  | cons p l ih =>
    have h1 := cntI_range p (h p (by simp))
    have h2 := ih (fun q hq => h q (by simp [hq]))
    simp only [totI, List.map_cons, List.sum_cons, List.length_cons] at *
    omega
def rightL (l : List ByteArray) : Bool := l.all partB && (decide (l.length ≤ 4) && decide (totI l - 1 ≤ 24))
def name_Right.f (s : ByteArray) : Option Bool := if s.size ≤ 1000000 then some (rightL (splitOf 46 s)) else none
theorem part_f (p : ByteArray) (h : p.size ≤ 140737488351232) : name_Part.f p = some (partB p) := by unfold name_Part.f; rw [if_pos h]; rfl
theorem count_f (p : ByteArray) (h : p.size ≤ 140737488351232) : utf_Count.f p = some (cntI p) := by unfold utf_Count.f; rw [if_pos h]; rfl
theorem results_cellB {fn : Func} {t : Tmp} (h : fn.results = #[.cell t 4]) (tmps : Array Value) (w : World) (p : Addr) (hp : tmps.getD t undef = .pointer (some p)) {v : Value} (hc : w.cell? p = some v) :
    (results fn tmps).run Tryd.prog w = .ok v w := by
  have hu := Tryd.underlying4
  simp [results, h]
  rw [show tmps[t]?.getD undef = .pointer (some p) by simpa using hp]
  go_simp
theorem keepsFrom_below {B : Nat} {W W' : World} (h : Below W.heap.size W W') : KeepsFrom B W W' := ⟨h.size, fun k o _ hk _ => (h.block k (Array.getElem?_eq_some_iff.1 hk).1).trans hk⟩
theorem kept3_below {b : Nat} {W W' : World} (h : Below W.heap.size W W') (hb : b + 2 < W.heap.size) : Kept3 b W W' := ⟨h.block _ (by omega), h.block _ (by omega), h.block _ (by omega)⟩
theorem kept3_set {b k : Nat} (W : World) (v : Value) (h : k < b) : Kept3 b W (W.setCell ⟨k, 0, none⟩ v) := ⟨Below.heap_setCell _ _ _ _ (by simp; omega), Below.heap_setCell _ _ _ _ (by simp; omega), Below.heap_setCell _ _ _ _ (by simp; omega)⟩
theorem Kept3.trans {b : Nat} {A B C : World} (h : Kept3 b A B) (k : Kept3 b B C) : Kept3 b A C := ⟨Eq.trans k.1 h.1, Eq.trans k.2.1 h.2.1, Eq.trans k.2.2 h.2.2⟩
set_option maxRecDepth 100000 in
set_option maxHeartbeats 400000 in
theorem right_in (n : Nat) (hn : 4 ≤ n) (s : ByteArray) (w : World) (HLD : Laid w) (hs : s.size ≤ 1000000) :
    CallsIn .wide n Tryd.prog 63 #[.string s] w fun e' W' => e' = .returned (.bool (rightL (splitOf 46 s))) ∧ Below w.heap.size w W' := by
  have h1 : 1 ≤ n := by omega
  refine callsIn_of_wp_marks Tryd.func63 rfl trivial ?_ rfl
  simp only [Tryd.ntmps63, List.size_toArray, List.length_cons, List.length_nil, Nat.reduceAdd, Nat.reduceSub, Array.replicate_succ, Array.replicate_zero, List.push_toArray, List.append_toArray, List.nil_append, List.cons_append]
  gi_wp2
  refine ⟨trivial, ?_⟩
  have bR := ((Boxed.new w 4 (.bool false)).alloc (.cells #[.int .i64 0] 3)).alloc (.cells #[.int .i64 0] 3)
  have bP := (Boxed.new (w.alloc (.cells #[.bool false] 4)) 3 (.int .i64 0)).alloc (.cells #[.int .i64 0] 3)
  have bN := Boxed.new ((w.alloc (.cells #[.bool false] 4)).alloc (.cells #[.int .i64 0] 3)) 3 (.int .i64 0)
  have hB1 : Below w.heap.size w (((w.alloc (.cells #[.bool false] 4)).alloc (.cells #[.int .i64 0] 3)).alloc (.cells #[.int .i64 0] 3)) := (((Below.refl _ w).alloc (Nat.le_refl _) _).alloc (by simp) _).alloc (by simp; omega) _
  obtain ⟨w1, hw1⟩ : ∃ w1, ((w.alloc (.cells #[.bool false] 4)).alloc (.cells #[.int .i64 0] 3)).alloc (.cells #[.int .i64 0] 3) = w1 := ⟨_, rfl⟩
  have hs1 : w1.heap.size = w.heap.size + 3 := by rw [← hw1]; simp
  simp only [World.size_alloc] at bP bN
  rw [hw1] at bR bP bN hB1 ⊢
  clear hw1
  refine (splitSeqT_in _ (by omega) s ⟨#[46]⟩ w1).mono ?_
  rintro e' w2 ⟨rfl, hw2⟩
  have q1 := ((Boxed.new w1 9 (.string s)).alloc (.cells #[.string ⟨#[46]⟩] 9)).alloc (.cells #[.int .i64 0] 3)
  have q2 := (Boxed.new (w1.alloc (.cells #[.string s] 9)) 9 (.string ⟨#[46]⟩)).alloc (.cells #[.int .i64 0] 3)
  have q3 := Boxed.new ((w1.alloc (.cells #[.string s] 9)).alloc (.cells #[.string ⟨#[46]⟩] 9)) 3 (.int .i64 0)
  have hB2 : Below w1.heap.size w1 w2 := by rw [hw2]; exact (((Below.refl _ w1).alloc (Nat.le_refl _) _).alloc (by simp) _).alloc (by simp; omega) _
  have hs2 : w2.heap.size = w1.heap.size + 3 := by rw [hw2]; simp
  simp only [World.size_alloc] at q2 q3
  rw [← hw2] at q1 q2 q3
  clear hw2
  rw [hs1] at q1 q2 q3
  replace bR : Boxed w2 w.heap.size 4 (.bool false) := blk_below bR hB2
  replace bP : Boxed w2 (w.heap.size + 1) 3 (.int .i64 0) := blk_below bP hB2
  replace bN : Boxed w2 (w.heap.size + 1 + 1) 3 (.int .i64 0) := blk_below bN hB2
  have hBw : Below w.heap.size w w2 := hB1.trans (hB2.mono hB1.size)
  gi_wp2
  refine range_own (n := n) (gf := 97) rfl (enters_of Tryd.func97 (by kernel_rfl) rfl) (b := (w.heap.size + 3)) (by omega) (encs := fun x : ByteArray => #[Value.string x]) (Gd := fun x => x.size ≤ s.size) (Kp := Kept3 (w.heap.size + 3)) (S := fun ys => ys = splitOf 46 s) (Sp := fun pre => ∃ r, pre ++ r = splitOf 46 s) (N := s.size + 1) (lb := #[.pointer (some ⟨w.heap.size + 3 + 1, 0, none⟩), .pointer (some ⟨(w.heap.size + 3), 0, none⟩), .pointer (some ⟨w.heap.size + 3 + 2, 0, none⟩)])
    (fun W1 hb => split_own (n - 1) (by omega) (w.heap.size + 3) 46 s (by omega) w2 q1 q2 q3 W1 hb)
    (fun h k => ⟨Eq.trans k.1 h.1, Eq.trans k.2.1 h.2.1, Eq.trans k.2.2 h.2.2⟩) (fun W l o' hl => ⟨World.putObj_heap_other (by omega), World.putObj_heap_other (by omega), World.putObj_heap_other (by omega)⟩) (fun _ => rfl)
    (fun pre W => Boxed W w.heap.size 4 (.bool false) ∧ Boxed W (w.heap.size + 1) 3 (.int .i64 (pre.length : Int)) ∧ Boxed W (w.heap.size + 1 + 1) 3 (.int .i64 (totI pre)) ∧ (∀ x ∈ pre, partB x = true) ∧ Below w.heap.size w2 W)
    (fun c pre W => (c = .ret ∧ ∃ x ∈ pre, partB x = false) ∧ Boxed W w.heap.size 4 (.bool false) ∧ Below w.heap.size w2 W)
    (OwnFrom.and (Own.from (boxed_own _ _ (fun _ => .bool false)) _) (OwnFrom.and (Own.from (boxed_own _ _ (fun pre : List ByteArray => .int .i64 (pre.length : Int))) _) (OwnFrom.and (Own.from (boxed_own _ _ (fun pre => .int .i64 (totI pre))) _) (OwnFrom.and (ownFrom_pure _ (fun pre => ∀ x ∈ pre, partB x = true)) (ownFrom_below (by omega) (by omega))))))
    (fun c => OwnFrom.and (ownFrom_pure _ (fun pre => c = .ret ∧ ∃ x ∈ pre, partB x = false)) (OwnFrom.and (Own.from (boxed_own _ _ (fun _ => .bool false)) _) (ownFrom_below (by omega) (by omega))))
    (fun pre A u h => ⟨h.1.other (by omega) _, h.2.1.other (by omega) _, h.2.2.1.other (by omega) _, h.2.2.2.1, h.2.2.2.2.setCell (p := ⟨(w.heap.size + 3), 0, none⟩) (by simp) _⟩)
    ⟨bR, bP, by simpa [totI] using bN, by simp, Below.refl _ _⟩
    (fun x => { tmps := #[.string s, undef, .pointer (some ⟨w.heap.size, 0, none⟩), .pointer (some ⟨w.heap.size + 1, 0, none⟩), .pointer (some ⟨w.heap.size + 1 + 1, 0, none⟩), .string x, .string s, .func (.func 97) #[] #[.pointer (some ⟨w.heap.size + 3 + 1, 0, none⟩), .pointer (some ⟨(w.heap.size + 3), 0, none⟩), .pointer (some ⟨w.heap.size + 3 + 2, 0, none⟩)], .string x, undef, undef, undef, undef, undef, undef, undef, undef, undef, undef, undef, undef, undef, undef, undef, undef, undef], defers := [] }) ?assign ?body ?done ?stop
  case assign =>
    intro l x W K hK
    gi_wp2
    exact hK
  case body =>
    rintro l pre x W hgd ⟨hR, hP, hQ, hall, hB⟩ hlt
    have hn1 : 1 ≤ n - 1 - 1 := by omega
    have hp := part_f x (by omega)
    have hL : Laid W := HLD.below (hBw.trans hB)
    cases hx : partB x with
    | false =>
      rw [hx] at hp
      gi_wp2_with (refine ⟨trivial, ?_⟩; gi_at_call 78; refine (CallsIn.inRound l (callsIn_wide.2 (name_Part.calls x false W hp))).mono ?_; rintro e' w3 ⟨rfl, hb3⟩; have hR3 : Boxed w3 w.heap.size 4 (.bool false) := blk_below hR hb3; have hc3 := hR3.cell; have hf3 := hR3.frozen)
      exact ⟨(keepsFrom_below hb3).trans ((KeepsOthers.setCell _ _ _).from _), ⟨rfl, x, by simp, hx⟩, hR3.set _, hB.trans (Below.setCell (p := ⟨w.heap.size, 0, none⟩) (show Below w.heap.size W w3 from hb3.mono (by have := hB.size; have := hBw.size; omega)) (Nat.le_refl _) _)⟩
    | true =>
      rw [hx] at hp
      have hc := count_f x (by omega)
      have hsW : w.heap.size + 6 ≤ W.heap.size := by have := hB.size; omega
      have hrg := cntI_range x hx
      have htr := totI_range pre hall
      obtain ⟨T, hT⟩ : ∃ T, totI pre = T := ⟨_, rfl⟩
      obtain ⟨C, hC⟩ : ∃ C, cntI x = C := ⟨_, rfl⟩
      rw [hT] at hQ htr
      rw [hC] at hc hrg
      have hTC := Aside0.mk (show totI (pre ++ [x]) = T + (C + 1) by rw [totI_snoc, hT, hC])
      have hw1 : IntKind.i64.wrap (C + 1) = C + 1 := by rw [i64_w]; unfold wrap64; omega
      have hw2 : IntKind.i64.wrap (T + (C + 1)) = T + (C + 1) := by rw [i64_w]; unfold wrap64; omega
      have hAllA := Aside0.mk (show ∀ y ∈ pre ++ [x], partB y = true by intro y hy; simp at hy; rcases hy with hy | rfl; exact hall y hy; exact hx)
      clear hT hC
      gi_wp2_with (first | (refine ⟨trivial, ?_⟩; gi_at_call 78; refine (CallsIn.inRound l (callsIn_wide.2 (name_Part.calls x true W hp))).mono ?_; rintro e' w3 ⟨rfl, hb3⟩; have hP3 : Boxed w3 (w.heap.size + 1) 3 (.int .i64 (pre.length : Int)) := blk_below hP hb3; have hQ3 : Boxed w3 (w.heap.size + 1 + 1) 3 (.int .i64 T) := blk_below hQ hb3; have hR3 : Boxed w3 w.heap.size 4 (.bool false) := blk_below hR hb3; have hc3 := hP3.cell; have hf3 := hP3.frozen; have hc4 := hQ3.cell; have hf4 := hQ3.frozen))
      have hB4 : Below w.heap.size w (w3.setCell ⟨w.heap.size + 1, 0, none⟩ (.int .i64 ((pre.length : Int) + 1))) := ((hBw.trans hB).trans (hb3.mono (by omega))).setCell (p := ⟨w.heap.size + 1, 0, none⟩) (by simp) _
      have m1 : Boxed (w3.setCell ⟨w.heap.size + 1, 0, none⟩ (.int .i64 ((pre.length : Int) + 1))) (w.heap.size + 1) 3 (.int .i64 ((pre.length : Int) + 1)) := hP3.set _
      have m2 : Boxed (w3.setCell ⟨w.heap.size + 1, 0, none⟩ (.int .i64 ((pre.length : Int) + 1))) (w.heap.size + 1 + 1) 3 (.int .i64 T) := hQ3.other (by omega) _
      have m3 : Boxed (w3.setCell ⟨w.heap.size + 1, 0, none⟩ (.int .i64 ((pre.length : Int) + 1))) w.heap.size 4 (.bool false) := hR3.other (by omega) _
      have hKF : KeepsFrom w2.heap.size W (w3.setCell ⟨w.heap.size + 1, 0, none⟩ (.int .i64 ((pre.length : Int) + 1))) := (keepsFrom_below hb3).trans ((KeepsOthers.setCell _ _ _).from _)
      have hK3 : Kept3 (w.heap.size + 3) W (w3.setCell ⟨w.heap.size + 1, 0, none⟩ (.int .i64 ((pre.length : Int) + 1))) := (kept3_below hb3 (by omega)).trans (kept3_set _ _ (by omega))
      have hB5 : Below w.heap.size w2 (w3.setCell ⟨w.heap.size + 1, 0, none⟩ (.int .i64 ((pre.length : Int) + 1))) := (hB.trans (hb3.mono (by omega))).setCell (p := ⟨w.heap.size + 1, 0, none⟩) (by simp) _
      have hs4 : w.heap.size + 6 ≤ (w3.setCell ⟨w.heap.size + 1, 0, none⟩ (.int .i64 ((pre.length : Int) + 1))).heap.size := by have := hb3.size; simp; omega
      generalize w3.setCell ⟨w.heap.size + 1, 0, none⟩ (.int .i64 ((pre.length : Int) + 1)) = w4 at *
      clear hc3 hf3 hc4 hf4 hP3 hQ3 hR3 hb3
      have hc4 := m2.cell
      have hf4 := m2.frozen
      have hLd : Laid w4.drew := HLD.below (below_drew1 hB4)
      have hf79 : Fence.wide.fn 79 := trivial
      have hmx : Tryd.prog.follows .mixedOrders = true := by kernel_rfl
      gi_region_with_o (gi_at_call 79; refine (CallsIn.inRound l (callsIn_wide.2 (utf_Count.calls x C _ hLd hc))).mono ?_; rintro e' w5 ⟨rfl, hb5⟩; have hQ5 : Boxed w5 (w.heap.size + 1 + 1) 3 (.int .i64 T) := blk_below (show Boxed w4.drew (w.heap.size + 1 + 1) 3 (.int .i64 T) from m2) hb5; have hc5 := hQ5.cell; have hf5 := hQ5.frozen)
      all_goals gi_wp2
      all_goals exact ⟨(hKF.trans ((KeepsOthers.drew _).from _)).trans ((keepsFrom_below hb5).trans ((KeepsOthers.setCell _ _ _).from _)), hK3.trans ((show Kept3 (w.heap.size + 3) w4 w5 from kept3_below (W := w4.drew) hb5 (by simp; omega)).trans (kept3_set _ _ (by omega))),
        (show Boxed w5 w.heap.size 4 (.bool false) from blk_below (show Boxed w4.drew w.heap.size 4 (.bool false) from m3) hb5).other (by omega) _, (show Boxed w5 (w.heap.size + 1) 3 (.int .i64 (((pre ++ [x]).length : Nat) : Int)) from by rw [List.length_append]; exact blk_below (show Boxed w4.drew (w.heap.size + 1) 3 (.int .i64 ((pre.length : Int) + 1)) from m1) hb5).other (by omega) _,
        by rw [hTC.out]; exact hQ5.set _, hAllA.out, Below.setCell (p := ⟨w.heap.size + 1 + 1, 0, none⟩) ((below_drew1 hB5).trans (hb5.mono (by simp; omega))) (by simp; omega) _⟩
  case done =>
    rintro D ys W hD rfl ⟨hR, hP, hQ, hall, hB⟩ hK
    have hr : rightL (splitOf 46 s) = (decide ((splitOf 46 s).length ≤ 4) && decide (totI (splitOf 46 s) - 1 ≤ 24)) := by
      unfold rightL
      rw [show (splitOf 46 s).all partB = true from List.all_eq_true.2 hall, Bool.true_and]
    have htr := totI_range _ hall
    have hlen : (splitOf 46 s).length ≤ 1000001 := by
      have : ∀ n (t : ByteArray), (splitG 46 n t).length ≤ n + 1 := by
        intro n
        induction n with
        | zero => intro t; simp [splitG]
        | succ n ih =>
          intro t
          unfold splitG
          split
          · have := ih (t.extract ((Lib.indexByte t.data.toList 46).toNat + 1) t.size); simp; omega
          · simp
      have := this s.size s
      unfold splitOf
      omega
    have hrA := Aside0.mk hr
    obtain ⟨L, hL⟩ : ∃ L, (splitOf 46 s).length = L := ⟨_, rfl⟩
    obtain ⟨T, hT⟩ : ∃ T, totI (splitOf 46 s) = T := ⟨_, rfl⟩
    rw [hT] at hQ htr hrA
    rw [hL] at hP hlen hrA htr
    clear hr hall hL hT
    have hc1 := hP.cell
    have hc2 := hQ.cell
    have hc3 := hR.cell
    have hf3 := hR.frozen
    have hBW : Below w.heap.size w W := hBw.trans hB
    have hw : IntKind.i64.wrap (T - 1) = T - 1 := by rw [i64_w]; unfold wrap64; omega
    gi_wp2
    · have h4 : (L : Int) ≤ 4 := by assumption
      have hK2 := (KeepsOthers.setCell W ⟨w.heap.size, 0, none⟩ (.bool (decide (T - 1 ≤ 24)))).same D _ hK rfl
      refine ⟨by simp, .inl ⟨_, _, rfl, run_takeDeferred hK2, ?_⟩⟩
      refine ⟨_, results_cellB rfl _ _ ⟨w.heap.size, 0, none⟩ rfl (cell_kept (hR.set _).cell (grownBy_putObj' _ D (.deferred none)) (fun r e => by cases e; exact ⟨_, hK2, rfl⟩)), by rw [hrA.out, decide_eq_true (by omega : L ≤ 4), Bool.true_and], ?_⟩
      exact (hBW.setCell (p := ⟨w.heap.size, 0, none⟩) (Nat.le_refl _) _).trans (belowK_b (w := w) (Nat.le_refl _) _ D _ _ (by omega) hK2 rfl rfl)
    · have h4 : 4 < (L : Int) := by assumption
      have hK2 := (KeepsOthers.setCell W ⟨w.heap.size, 0, none⟩ (.bool false)).same D _ hK rfl
      refine ⟨by simp, .inl ⟨_, _, rfl, run_takeDeferred hK2, ?_⟩⟩
      refine ⟨_, results_cellB rfl _ _ ⟨w.heap.size, 0, none⟩ rfl (cell_kept (hR.set _).cell (grownBy_putObj' _ D (.deferred none)) (fun r e => by cases e; exact ⟨_, hK2, rfl⟩)), by rw [hrA.out, decide_eq_false (by omega : ¬ L ≤ 4), Bool.false_and], ?_⟩
      exact (hBW.setCell (p := ⟨w.heap.size, 0, none⟩) (Nat.le_refl _) _).trans (belowK_b (w := w) (Nat.le_refl _) _ D _ _ (by omega) hK2 rfl rfl)
  case stop =>
    rintro D c pre W hD ⟨r, hr⟩ ⟨⟨rfl, x, hx, hxp⟩, hR, hB⟩ hK
    have hr : rightL (splitOf 46 s) = false := by
      unfold rightL
      rw [show (splitOf 46 s).all partB = false from List.all_eq_false.2 ⟨x, by rw [← hr]; simp [hx], by simp [hxp]⟩]
      rfl
    have hBW : Below w.heap.size w W := hBw.trans hB
    have hrA := Aside0.mk hr
    clear hr hx hxp
    gi_wp2
    refine ⟨by simp, .inl ⟨_, _, rfl, run_takeDeferred hK, ?_⟩⟩
    refine ⟨_, results_cellB rfl _ _ ⟨w.heap.size, 0, none⟩ rfl (cell_kept hR.cell (grownBy_putObj' _ D (.deferred none)) (fun r e => by cases e; exact ⟨_, hK, rfl⟩)), by rw [hrA.out], ?_⟩
    exact hBW.trans (belowK_b (w := w) (Nat.le_refl _) _ D _ _ (by omega) hK rfl rfl)
theorem name_Right.calls (a0 : ByteArray) (r : Bool) (w : World) (HLD : Laid w) (h : name_Right.f a0 = some r) :
    Calls Tryd.prog 63 #[.string a0] w fun e w' => e = .returned (.bool r) ∧ Below w.heap.size w w' := by
  unfold name_Right.f at h
  split at h
  · obtain rfl := Option.some.inj h
    refine (callsIn_wide (n := 6)).1 ?_
    exact right_in 6 (by omega) a0 w HLD (by assumption)
  · cases h

end Go.Proofs.YtloagejeeakikaaDoor.QB
