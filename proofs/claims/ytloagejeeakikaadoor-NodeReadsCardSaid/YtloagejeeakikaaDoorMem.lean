/- What a call does to memory, said by the set of blocks that it may write: the frame, and rows of bytes that lie in such blocks. No program in sight. -/
import Derived.Test.YtloagejeeakikaaDoorWWords
import Derived.Lib.OthersKept
namespace Go.Proofs.YtloagejeeakikaaDoor.Mem
open Go.RowKit Go.Proofs.YtloagejeeakikaaDoorW.PrintWords
set_option linter.unusedVariables false

/-- Of w only blocks of S, and new ones, have turned. -/
structure FrameS (S : Nat → Prop) (w w' : World) : Prop where
  os : w'.os = w.os
  tape : w'.tape = w.tape
  output : w'.output = w.output
  size : w.heap.size ≤ w'.heap.size
  block : ∀ k, k < w.heap.size → ¬ S k → w'.heap[k]? = w.heap[k]?
theorem FrameS.refl (S : Nat → Prop) (w : World) : FrameS S w w := ⟨rfl, rfl, rfl, Nat.le_refl _, fun _ _ _ => rfl⟩
/-- Two steps, the second one's blocks old ones of the first or new. -/
theorem FrameS.trans {S S' : Nat → Prop} {a b c : World} (h : FrameS S a b) (k : FrameS S' b c) (hS : ∀ i, S' i → S i ∨ a.heap.size ≤ i) : FrameS S a c :=
  ⟨k.os.trans h.os, k.tape.trans h.tape, k.output.trans h.output, Nat.le_trans h.size k.size, fun i hi hn =>
    (k.block i (Nat.lt_of_lt_of_le hi h.size) (fun hs => (hS i hs).elim hn (fun h => absurd hi (by omega)))).trans (h.block i hi hn)⟩
theorem FrameS.trans' {S : Nat → Prop} {a b c : World} (h : FrameS S a b) (k : FrameS S b c) : FrameS S a c := h.trans k (fun _ h => .inl h)
theorem FrameS.mono {S S' : Nat → Prop} {w w' : World} (h : FrameS S w w') (hS : ∀ k, k < w.heap.size → S k → S' k) : FrameS S' w w' :=
  ⟨h.os, h.tape, h.output, h.size, fun k hk hn => h.block k hk (fun hs => hn (hS k hk hs))⟩
theorem FrameS.of_below {w w' : World} (h : Below w.heap.size w w') (S : Nat → Prop) : FrameS S w w' := ⟨h.os, h.tape, h.output, h.size, fun k hk _ => h.block k hk⟩
theorem FrameS.below {S : Nat → Prop} {B : Nat} {w w' : World} (h : FrameS S w w') (hB : B ≤ w.heap.size) (hS : ∀ k, S k → B ≤ k) : Below B w w' :=
  ⟨h.os, h.tape, h.output, h.size, fun k hk => h.block k (by omega) (fun hs => by have := hS k hs; omega)⟩
theorem FrameS.alloc {S : Nat → Prop} {a w : World} (h : FrameS S a w) (o : Obj) : FrameS S a (w.alloc o) :=
  h.trans ⟨rfl, rfl, rfl, by simp, fun k hk _ => Below.heap_alloc _ _ _ hk⟩ (S' := fun _ => False) (fun _ h => h.elim)
theorem FrameS.drew {S : Nat → Prop} {a w : World} (h : FrameS S a w) : FrameS S a w.drew := ⟨h.os, h.tape, h.output, h.size, h.block⟩
theorem FrameS.drewN {S : Nat → Prop} {a w : World} (h : FrameS S a w) (n : Nat) : FrameS S a (w.drewN n) := ⟨h.os, h.tape, h.output, h.size, h.block⟩
theorem FrameS.setCell {S : Nat → Prop} {a w : World} (h : FrameS S a w) {p : Addr} (hp : S p.block ∨ a.heap.size ≤ p.block) (u : Value) : FrameS S a (w.setCell p u) :=
  ⟨h.os, h.tape, h.output, by simp [World.setCell]; exact h.size, fun k hk hn => (Below.heap_setCell _ _ _ _ (by
    intro e
    subst e
    rcases hp with hp | hp
    · exact hn hp
    · omega)).trans (h.block k hk hn)⟩
theorem FrameS.grown {S : Nat → Prop} {a w w' : World} {row : Option Nat} (h : FrameS S a w) (hg : w.grownBy w' row) (hr : ∀ k, row = some k → S k ∨ a.heap.size ≤ k) : FrameS S a w' :=
  h.trans (S' := fun k => row = some k) ⟨hg.os, hg.tape, hg.output, hg.size, fun k hk hn => hg.block k hk (fun e => hn e.symm)⟩ (fun i hi => hr i hi)
theorem FrameS.cell {S : Nat → Prop} {w w' : World} (h : FrameS S w w') {p : Addr} {v : Value} (hc : w.cell? p = some v) (hp : ¬ S p.block) : w'.cell? p = some v :=
  (World.cell?_of_block (w := w) (h.block p.block (World.block_lt_of_cell? w p hc) hp)).trans hc
theorem FrameS.frozen {S : Nat → Prop} {w w' : World} (h : FrameS S w w') {p : Addr} (hl : p.block < w.heap.size) (hp : ¬ S p.block) : w'.frozen? p = w.frozen? p :=
  World.frozen?_of_block (w := w) (h.block p.block hl hp)
/-- Bytes that are read: apart from S. -/
def Apart (S : Nat → Prop) (A : Option Addr) (n : Nat) : Prop := 0 < n → ∀ ad, A = some ad → ¬ S ad.block
theorem Addr.add_block (a : Addr) (n : Nat) : (a.add n).block = a.block := by unfold Addr.add; split <;> rfl
theorem reads_kept {S : Nat → Prop} {w w' : World} {k : IntKind} {A : Option Addr} {n : Nat} {xs : List Int} (h : ReadsInt w k A n xs) (hf : FrameS S w w') (ha : Apart S A n) : ReadsInt w' k A n xs :=
  ⟨h.1, h.2.1, fun hn => by
    obtain ⟨ad, e, hc⟩ := h.2.2 hn
    exact ⟨ad, e, fun j hj => hf.cell (hc j hj) (by rw [Addr.add_block]; exact ha hn ad e)⟩⟩
theorem apart_kept {S S' : Nat → Prop} {w : World} {k : IntKind} {A : Option Addr} {n : Nat} {xs : List Int} (h : ReadsInt w k A n xs) (ha : Apart S A n) (hS : ∀ i, S' i → S i ∨ w.heap.size ≤ i) : Apart S' A n :=
  fun hn ad e hs => by
    obtain ⟨ad', e', hc⟩ := h.2.2 hn
    rw [e] at e'
    cases e'
    have hb := World.block_lt_of_cell? w _ (hc 0 hn)
    rw [Addr.add_block] at hb
    rcases hS _ hs with h1 | h1
    · exact ha hn ad e h1
    · omega
/-- The empty slice, and a slice that begins another. -/
theorem reads_nil (w : World) (k : IntKind) (A : Option Addr) : ReadsInt w k A 0 [] := ⟨rfl, by omega, fun h => absurd h (by omega)⟩
theorem reads_take {w : World} {k : IntKind} {A : Option Addr} {n : Nat} {xs : List Int} (h : ReadsInt w k A n xs) (m : Nat) (hm : m ≤ n) : ReadsInt w k A m (xs.take m) := by
  refine ⟨by rw [List.length_take, h.1]; omega, by have := h.2.1; omega, fun hp => ?_⟩
  obtain ⟨ad, e, hc⟩ := h.2.2 (by omega)
  refine ⟨ad, e, fun j hj => ?_⟩
  rw [hc j (by omega)]
  simp [List.getD_eq_getElem?_getD, hj]
end Go.Proofs.YtloagejeeakikaaDoor.Mem
