-- Written by a program of this session (px.py) out of the translation's print. Not trusted: Lean checks it.
import Derived.Test.YtloagejeeakikaaDoorQB0
import Derived.Test.YtloagejeeakikaaDoorQB2
import Derived.Test.YtloagejeeakikaaDoorQB3
import Derived.Test.YtloagejeeakikaaDoorMem
namespace Go.Proofs.YtloagejeeakikaaDoor.QB
open Go.RowKit Go.Proofs.YtloagejeeakikaaDoorW.PrintWords Go.Proofs.YtloagejeeakikaaDoorW.PrintLast Go.Proofs.YtloagejeeakikaaDoorW.PrintMore
attribute [local go_sem] max2_int min2_int max_two min_two max_three min_three max_four min_four   -- for this text's walks alone
set_option linter.unusedVariables false
set_option linter.unusedSimpArgs false

/-! ### wire_Writer_put: function 61 -/
open Go.Proofs.YtloagejeeakikaaDoor.Mem
def IsW (S : Nat → Prop) (g : Nat) (bs : List Int) (w : World) : Prop :=
  ∃ v, w.heap[g]? = some (.cells #[v] 60 (0, 0)) ∧ w.ownsRow 0 5 1 v bs.length (nums .u8 bs) ∧ (∀ k, v.ownBlock = some k → S k) ∧ S g ∧ ∀ k, S k → k < w.heap.size
def WPost (S : Nat → Prop) (g : Nat) (bs : List Int) (w : World) (e : Ending) (w' : World) : Prop :=
  e = .returned (.tuple #[]) ∧ ∃ S' : Nat → Prop, IsW S' g bs w' ∧ (∀ k, S' k → S k ∨ w.heap.size ≤ k) ∧ FrameS S w w'
theorem own_ne {w : World} {base n g : Nat} {e T : TypeId} {v : Value} {xs cs : List Value} (h : w.ownsRow base e 1 v n xs) (hg : w.heap[g]? = some (.cells cs.toArray T (0, 0))) (hT : T ≠ e) : some g ≠ v.ownBlock := by
  intro hh
  rcases h.2 with ⟨rfl, _⟩ | ⟨g', cap, cur, rfl, _, hh', _⟩
  · simp [Value.ownBlock] at hh
  · simp [Value.ownBlock] at hh
    subst hh
    rw [hg] at hh'
    simp at hh'
    exact hT hh'.2
theorem heap_setCell_same {w : World} {g : Nat} {v u : Value} {T : TypeId} (hg : w.heap[g]? = some (.cells #[v] T (0, 0))) : (w.setCell ⟨g, 0, none⟩ u).heap[g]? = some (.cells #[u] T (0, 0)) := by
  simp only [World.setCell, Array.getElem?_modify, if_true, hg, Option.map_some]
  rfl
theorem grownBy_setCell (w : World) (g : Nat) (u : Value) : w.grownBy (w.setCell ⟨g, 0, none⟩ u) (some g) :=
  ⟨rfl, rfl, rfl, by simp [World.setCell], fun k hk hn => Below.heap_setCell _ _ _ _ (fun e => hn (by rw [e]))⟩
theorem put_close {S : Nat → Prop} {g : Nat} {bs ys : List Int} {w w1 : World} {v : Value} {A1 : Option Addr} {c1 : Nat} (hg : w.heap[g]? = some (.cells #[v] 60 (0, 0))) (hne : some g ≠ v.ownBlock)
    (hS : ∀ k, v.ownBlock = some k → S k) (hSg : S g) (hSl : ∀ k, S k → k < w.heap.size) (hO : w1.ownsRow 0 5 1 (.slice A1 (bs ++ ys).length c1) (bs ++ ys).length (nums .u8 (bs ++ ys)))
    (hG : w.grownBy w1 v.ownBlock) (hA : (Value.slice A1 (bs ++ ys).length c1).ownBlock = v.ownBlock ∨ ∃ b, (Value.slice A1 (bs ++ ys).length c1).ownBlock = some b ∧ w.heap.size ≤ b) :
    WPost S g (bs ++ ys) w (.returned (.tuple #[])) (w1.setCell ⟨g, 0, none⟩ (.slice A1 (bs ++ ys).length c1)) := by
  have hglt := hSl g hSg
  have hg1 : w1.heap[g]? = some (.cells #[v] 60 (0, 0)) := (hG.block g hglt hne).trans hg
  have hne1 : (Value.slice A1 (bs ++ ys).length c1).ownBlock ≠ some g := by
    intro e
    rcases hA with h | ⟨b, h, hb⟩
    · exact hne (e.symm.trans h)
    · rw [e] at h
      cases h
      omega
  refine ⟨rfl, fun k => S k ∨ (Value.slice A1 (bs ++ ys).length c1).ownBlock = some k, ⟨_, heap_setCell_same hg1, own_other hO (grownBy_setCell w1 g _) (.inr hne1), fun k hk => .inr hk, .inl hSg, ?_⟩, ?_, ?_⟩
  · intro k hk
    have hsz : (w1.setCell ⟨g, 0, none⟩ (.slice A1 (bs ++ ys).length c1)).heap.size = w1.heap.size := by simp [World.setCell]
    rw [hsz]
    rcases hk with hk | hk
    · exact Nat.lt_of_lt_of_le (hSl k hk) hG.size
    · exact own_lt hO k hk
  · rintro k (hk | hk)
    · exact .inl hk
    · rcases hA with h | ⟨b, h, hb⟩
      · exact .inl (hS k (h.symm.trans hk))
      · rw [hk] at h
        cases h
        exact .inr hb
  · exact ((FrameS.refl S w).grown hG (fun k hk => .inl (hS k hk))).setCell (.inl hSg) _
theorem Writer_put (S : Nat → Prop) (g : Nat) (bs ys : List Int) (A : Option Addr) (m c : Nat) (w : World) (hW : IsW S g bs w) (hR : ReadsInt w .u8 A m ys) (hl : bs.length + m ≤ 140737488355328) :
    Calls Tryd.prog 61 #[.pointer (some ⟨g, 0, none⟩), .slice A m c] w (WPost S g (bs ++ ys) w) := by
  obtain ⟨v, hg, hown, hS, hSg, hSl⟩ := hW
  have hc : w.cell? ⟨g, 0, none⟩ = some v := by simp [World.cell?, hg]
  have hglt : g < w.heap.size := (Array.getElem?_eq_some_iff.1 hg).1
  have hnn : ∀ W, Sem.run Tryd.prog (binOp .neq 58 (.pointer (some ⟨g, 0, none⟩)) (.pointer none)) W = .ok (.bool true) W := fun W => by kernel_rfl
  have hne : some g ≠ v.ownBlock := own_ne (cs := [v]) hown hg (by decide)
  have HNE := Aside0.mk hne
  have Hg := Aside0.mk hg
  clear hne
  have HO := Aside0.mk hown
  have HS := Aside0.mk hS
  have HR := Aside0.mk hR
  have HL := Aside0.mk hl
  clear hg hown hS hR hl
  go_enter Tryd.func61, Tryd.ntmps61
  go_wp2_with (at_builtin; go_loud (refine print_append_row (w0 := w) 0 rfl _ _ 25 5 .u8 1 rfl Tryd.underlying25 info5 (by decide) v bs ys A m c rfl rfl HO.out HR.out (Below.refl 0 _) (Nat.zero_le _) (by have := HL.out; omega) ?_); intro v1 w1 hown1 hB1 hg1 hat1; obtain ⟨A1, c1, rfl⟩ := own_slice hown1; have hc1 : w1.cell? ⟨g, 0, none⟩ = some v := (World.cell?_of_block (w := w) (a := ⟨g, 0, none⟩) (hg1.block g hglt HNE.out)).trans hc; have hf1 : w1.frozen? ⟨g, 0, none⟩ = false := (World.frozen?_of_block (w := w) (a := ⟨g, 0, none⟩) (hg1.block g hglt HNE.out)).trans (by simp [World.frozen?, Hg.out]); have HO1 := Aside0.mk hown1; have HG1 := Aside0.mk hg1; have HA1 := Aside0.mk hat1; clear hown1 hB1 hg1 hat1)
  go_end0
  have hfin := put_close Hg.out HNE.out HS.out hSg hSl HO1.out HG1.out HA1.out
  rwa [List.length_append] at hfin
theorem FrameS.alloc_pre (S : Nat → Prop) (w : World) (o : Obj) : FrameS S w (w.alloc o) := (FrameS.refl S w).alloc o
theorem IsW.step {S : Nat → Prop} {g : Nat} {bs : List Int} {w w1 : World} (h : IsW S g bs w) (hB : Below w.heap.size w w1) : IsW S g bs w1 := by
  obtain ⟨v, hg, hown, hS, hSg, hSl⟩ := h
  exact ⟨v, (hB.block g (hSl g hSg)).trans hg, pw_own_below hown hB, hS, hSg, fun k hk => Nat.lt_of_lt_of_le (hSl k hk) hB.size⟩
theorem WPost.pre {S : Nat → Prop} {g : Nat} {bs : List Int} {w w1 w' : World} {e : Ending} (h : WPost S g bs w1 e w') (hB : Below w.heap.size w w1) : WPost S g bs w e w' := by
  obtain ⟨he, S', hW, hS, hF⟩ := h
  have hsz := hB.size
  exact ⟨he, S', hW, fun k hk => (hS k hk).imp id (fun h => by omega), (FrameS.of_below hB S).trans' hF⟩
theorem WPost.then {S S1 : Nat → Prop} {g : Nat} {bs : List Int} {w w1 w' : World} {e : Ending} (h : WPost S1 g bs w1 e w') (hS : ∀ k, S1 k → S k ∨ w.heap.size ≤ k) (hF : FrameS S w w1) : WPost S g bs w e w' := by
  obtain ⟨he, S', hW, hS', hF'⟩ := h
  have hsz := hF.size
  exact ⟨he, S', hW, fun k hk => (hS' k hk).elim (hS k) (fun h => .inr (by omega)), hF.trans hF' hS⟩
theorem reads_lit (w : World) (e : TypeId) (xs : List Int) (hm : xs.length ≤ 9223372036854775807) : ReadsInt (w.alloc (.cells (nums .u8 xs).toArray e)) .u8 (some ⟨w.heap.size, 0, none⟩) xs.length xs := by
  obtain ⟨A, c, he, hr⟩ := own_reads (own_lit w 0 e .u8 xs (Nat.zero_le _) hm)
  simp only [Value.slice.injEq] at he
  rw [he.1]
  exact hr
theorem bytesWorld_below (w : World) (e : TypeId) (s : ByteArray) : Below w.heap.size w (Lib.bytesWorld w e s) :=
  ⟨rfl, rfl, rfl, by rw [Lib.bytesWorld_size]; omega, fun k hk => Lib.bytesWorld_at_old w e s k hk⟩
theorem bytesWorld_reads (w : World) (e : TypeId) (s : ByteArray) (hs : s.size ≤ 9223372036854775807) : ReadsInt (Lib.bytesWorld w e s) .u8 (some ⟨w.heap.size, 0, none⟩) s.size (bytesOf s) := by
  refine ⟨bytesOf_length s, hs, fun _ => ⟨_, rfl, fun j hj => ?_⟩⟩
  rw [add_plain, Lib.bytesWorld_cell w e s j hj]
  have : j < s.data.toList.length := by simpa using hj
  simp [bytesOf, List.getD_eq_getElem?_getD, List.getElem?_eq_getElem this]
theorem Writer_Out (S : Nat → Prop) (g : Nat) (bs : List Int) (w : World) (hW : IsW S g bs w) (hl : bs.length ≤ 140737488355328) :
    Calls Tryd.prog 38 #[.pointer (some ⟨g, 0, none⟩)] w (PutRow w bs) := by
  obtain ⟨v, hg, hown, hS, hSg, hSl⟩ := hW
  obtain ⟨A, c, rfl, hR⟩ := own_reads hown
  have hc : w.cell? ⟨g, 0, none⟩ = some (.slice A bs.length c) := by simp [World.cell?, hg]
  have hnn : ∀ W, Sem.run Tryd.prog (binOp .eql 58 (.pointer (some ⟨g, 0, none⟩)) (.pointer none)) W = .ok (.bool false) W := fun W => by kernel_rfl
  have HR := Aside0.mk hR
  have HL := Aside0.mk hl
  clear hg hown hS hR hl
  go_enter Tryd.func38, Tryd.ntmps38
  go_wp2_with (fail)
  refine (Clone_bytes A c bs w HR.out HL.out).mono ?_
  rintro e w' ⟨v1, rfl, hr, hb⟩
  have HP := Aside0.mk (And.intro hr hb)
  clear hr hb
  go_wp2_with (fail)
  go_ret
  exact ⟨_, rfl, HP.out.1, HP.out.2⟩
theorem Writer_Number (S : Nat → Prop) (g : Nat) (bs ys : List Int) (n size : Int) (w : World) (hW : IsW S g bs w) (hf : num_Put.f n size = some ys) (hl : bs.length + ys.length ≤ 140737488355328) :
    Calls Tryd.prog 60 #[.pointer (some ⟨g, 0, none⟩), .int .u64 n, .int .i64 size] w (WPost S g (bs ++ ys) w) := by
  have HW := Aside0.mk hW
  have HL := Aside0.mk hl
  have HF := Aside0.mk hf
  clear hW hl hf
  go_enter Tryd.func60, Tryd.ntmps60
  go_wp2_with (fail)
  refine (num_Put.calls n size ys w HF.out).mono ?_
  rintro e w1 ⟨v1, rfl, hr, hb⟩
  obtain ⟨A, c, rfl, hR⟩ := own_reads (Kd.own_of_R hr)
  have HR := Aside0.mk hR
  have HB := Aside0.mk hb
  clear hr hb hR
  go_wp2_with (fail)
  refine (Writer_put S g bs ys A _ c w1 (HW.out.step HB.out) HR.out HL.out).mono ?_
  intro e w' hp
  have HP := Aside0.mk (hp.pre HB.out)
  obtain ⟨rfl, -⟩ := hp
  go_wp2_with (fail)
  go_end0
  exact HP.out
theorem len_two (m : Nat) (hm : m ≤ 65535) : num_Put.f (m : Int) 2 = some (putB (m : Int) 2) := by
  unfold num_Put.f
  rw [if_pos ⟨by omega, by omega⟩, if_pos (by decide)]
  rfl
theorem Writer_Bytes (S : Nat → Prop) (g : Nat) (bs ys : List Int) (A : Option Addr) (m c : Nat) (w : World) (hW : IsW S g bs w) (hR : ReadsInt w .u8 A m ys) (hA : Apart S A m) (hm : m ≤ 65535) (hmc : m ≤ c) (hl : bs.length + 2 + m ≤ 140737488355328) :
    Calls Tryd.prog 37 #[.pointer (some ⟨g, 0, none⟩), .slice A m c] w (WPost S g (bs ++ putB m 2 ++ ys) w) := by
  have HW := Aside0.mk hW
  have HL := Aside0.mk hl
  have HR := Aside0.mk hR
  have HA := Aside0.mk hA
  clear hW hl hR hA
  have hmm : ¬ (65535 < m) := by omega
  go_enter Tryd.func37, Tryd.ntmps37
  go_wp2_with (fail)
  refine (Writer_Number S g bs _ (m : Int) 2 w HW.out (len_two m hm) (by have := HL.out; simp [putB, putFrom_len]; omega)).mono ?_
  rintro e w1 ⟨rfl, S1, hW1, hS1, hF1⟩
  have HW1 := Aside0.mk hW1
  have HS1 := Aside0.mk hS1
  have HF1 := Aside0.mk hF1
  clear hW1 hS1 hF1
  go_wp2_with (fail)
  refine (Writer_put S1 g _ ys A m c w1 HW1.out (reads_kept HR.out HF1.out HA.out) (by have := HL.out; simp [putB, putFrom_len]; omega)).mono ?_
  intro e w' hp
  have HP := Aside0.mk (hp.then HS1.out HF1.out)
  obtain ⟨rfl, -⟩ := hp
  go_wp2_with (fail)
  go_end0
  exact HP.out
theorem Writer_Text (S : Nat → Prop) (g : Nat) (bs : List Int) (s : ByteArray) (w : World) (hW : IsW S g bs w) (hm : s.size ≤ 65535) (hl : bs.length + 2 + s.size ≤ 140737488355328) :
    Calls Tryd.prog 40 #[.pointer (some ⟨g, 0, none⟩), .string s] w (WPost S g (bs ++ putB s.size 2 ++ bytesOf s) w) := by
  have HW := Aside0.mk hW
  have HL := Aside0.mk hl
  clear hW hl
  have hcv := fun W => Lib.run_convert_string_bytes (P := Tryd.prog) W 9 25 5 s Tryd.underlying9 Tryd.underlying25 Tryd.underlying5
  go_enter Tryd.func40, Tryd.ntmps40
  go_wp2_with (fail)
  refine (Writer_Bytes S g bs (bytesOf s) _ s.size _ _ (HW.out.step (bytesWorld_below w 5 s)) (bytesWorld_reads w 5 s (by omega)) ?_ hm (grownCap_ge w s.size 0 5) HL.out).mono ?_
  · intro _ ad e hs
    cases e
    obtain ⟨_, _, _, _, _, hSl⟩ := HW.out
    have := hSl _ hs
    simp at this
  intro e w' hp
  have HP := Aside0.mk (hp.pre (bytesWorld_below w 5 s))
  obtain ⟨rfl, -⟩ := hp
  go_wp2_with (fail)
  go_end0
  exact HP.out

end Go.Proofs.YtloagejeeakikaaDoor.QB
