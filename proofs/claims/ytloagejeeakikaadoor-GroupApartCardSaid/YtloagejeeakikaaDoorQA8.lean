-- Written by a program of this session (px.py) out of the translation's print. Not trusted: Lean checks it.
import Derived.Test.YtloagejeeakikaaDoorQA0
import Derived.Test.YtloagejeeakikaaDoorQA6
import Derived.Test.YtloagejeeakikaaDoorQA7
namespace Go.Proofs.YtloagejeeakikaaDoor.QA
open Go.RowKit Go.Proofs.YtloagejeeakikaaDoorW.PrintWords Go.Proofs.YtloagejeeakikaaDoorW.PrintLast Go.Proofs.YtloagejeeakikaaDoorW.PrintMore
attribute [local go_sem] max2_int min2_int max_two min_two max_three min_three max_four min_four   -- for this text's walks alone
set_option linter.unusedVariables false
set_option linter.unusedSimpArgs false

/-! ### name_Join: function 74 -/
/-- Where a slice of texts lies, in plain words. -/
theorem strs_at {w : World} {A : Option Addr} {l : List ByteArray} (h : Kd.C Kd.string w A l.length l) (hne : 0 < l.length) : ∃ b o, A = some ⟨b, o, none⟩ ∧ b < w.heap.size ∧ ∀ j x, l[j]? = some x → w.cell? ⟨b, o + j, none⟩ = some (.string x) := by
  obtain ⟨h1, h2, h3⟩ := Kd.reads_of_C (enc := Value.string) (d := ByteArray.empty) (h1 := fun _ => rfl) h
  obtain ⟨⟨b, o, sp⟩, rfl, hc⟩ := h3 hne
  have h0 := hc 0 hne
  simp only [Addr.add, if_true] at h0
  have hsp : sp = none := by
    cases sp with
    | none => rfl
    | some q => simp [World.cell?] at h0; split at h0 <;> simp at h0
  subst hsp
  have hb : b < w.heap.size := by
    by_cases hlt : b < w.heap.size
    · exact hlt
    · simp [World.cell?, Array.getElem?_eq_none (Nat.le_of_not_lt hlt)] at h0
  refine ⟨b, o, rfl, hb, fun j x hj => ?_⟩
  have hlt := (List.getElem?_eq_some_iff.1 hj).1
  have := hc j hlt
  rw [List.getD_eq_getElem?_getD, hj] at this
  unfold Addr.add at this
  by_cases hj0 : j = 0
  · subst hj0; simpa using this
  · simpa [hj0] using this
set_option maxHeartbeats 1000000 in
theorem joinIndex (A0 : Option Addr) (c0 : Nat) (l0 : List ByteArray) (w : World) (hr0 : Kd.C Kd.string w A0 l0.length l0) (hc0 : l0.length ≤ c0) (hz : ∀ p ∈ l0, p.size ≤ 140737488351232) (hL : l0.length ≤ 9223372036854775806) :
    Calls Tryd.prog 92 #[.slice A0 l0.length c0, .func (.func 86) #[] #[]] w fun e w' => (∃ i : Int, e = .returned (.int .i64 i) ∧ (0 ≤ i ↔ l0.all partB = false)) ∧ Below w.heap.size w w' := by
  have hj1 : ∀ p ∈ l0, name_Join_1.f p = some (!partB p) := fun p hp => by unfold name_Join_1.f; rw [part_f p (hz p hp)]; rfl
  have huS := Tryd.underlying54
  by_cases hne : 0 < l0.length
  · obtain ⟨b, o, rfl, hb, hc⟩ := strs_at hr0 hne
    have HC := Aside0.mk hc
    have HJ := Aside0.mk hj1
    clear hr0 hc hj1 hz
    go_enter Tryd.func92, Tryd.ntmps92
    go_wp2
    go_loopw [8] (fun n wr => ∃ k : Nat, n = .int .i64 k ∧ k ≤ l0.length ∧ Aside0 (Below w.heap.size w wr) ∧ Aside0 (∀ p ∈ l0.take k, partB p = true))
      (fun n _ => l0.length - (intOf n).toNat)
    case atStart => exact ⟨0, rfl, Nat.zero_le _, ⟨Below.refl _ _⟩, ⟨by simp⟩⟩
    case round =>
      obtain ⟨k, rfl, hk, HB, HA⟩ := hrel
      by_cases hlt : k < l0.length
      · obtain ⟨x, hx⟩ : ∃ x, l0[k]? = some x := ⟨_, List.getElem?_eq_getElem hlt⟩
        have hmem : x ∈ l0 := List.mem_of_getElem? hx
        have hcx : wr.cell? ⟨b, o + k, none⟩ = some (.string x) := (HB.out.cell (p := ⟨b, o + k, none⟩) hb).trans (HC.out k x hx)
        have HX := Aside0.mk hx
        have HM := Aside0.mk hmem
        clear hx hmem
        have hleb : decide ((k : Int) < l0.length) = true := decide_eq_true (by omega)
        cases hp : partB x with
        | false =>
          have HJX := Aside0.mk (by have := HJ.out x HM.out; rw [hp] at this; exact this : name_Join_1.f x = some true)
          have HP := Aside0.mk hp
          clear hp
          go_wp2_with (fail)
          refine (name_Join_1.calls x true _ HJX.out).mono ?_
          rintro e w3 ⟨rfl, hb3⟩
          have HB3 := Aside0.mk hb3
          clear hb3
          go_wp2
          go_ret
          refine ⟨⟨_, rfl, ?_⟩, HB.out.trans (HB3.out.mono HB.out.size)⟩
          refine ⟨fun _ => List.all_eq_false.2 ⟨x, HM.out, by simp [HP.out]⟩, fun _ => by omega⟩
        | true =>
          have HJX := Aside0.mk (by have := HJ.out x HM.out; rw [hp] at this; exact this : name_Join_1.f x = some false)
          have HP := Aside0.mk hp
          clear hp
          go_wp2_with (fail)
          refine (name_Join_1.calls x false _ HJX.out).mono ?_
          rintro e w3 ⟨rfl, hb3⟩
          have HB3 := Aside0.mk hb3
          clear hb3
          go_wp2
          go_roundw
          case rel =>
            refine ⟨k + 1, by go_num, by omega, ⟨HB.out.trans (HB3.out.mono HB.out.size)⟩, ⟨fun p hp => ?_⟩⟩
            rw [List.take_add_one, HX.out] at hp
            simp at hp
            rcases hp with hp | rfl
            · exact HA.out p hp
            · exact HP.out
          case measure => simp [intOf]; omega
      · have hk2 : k = l0.length := by omega
        have hleb : decide ((k : Int) < l0.length) = false := decide_eq_false (by omega)
        go_wp2
        go_ret
        refine ⟨⟨_, rfl, ?_⟩, HB.out⟩
        refine ⟨fun h => absurd h (by decide), fun h => ?_⟩
        obtain ⟨x, hx, hp⟩ := List.all_eq_false.1 h
        exact absurd (HA.out x (by rw [hk2, List.take_length]; exact hx)) hp
  · obtain rfl : l0 = [] := by cases l0 <;> simp_all
    go_enter Tryd.func92, Tryd.ntmps92
    go_wp2
    go_loopw [8] (fun n wr => n = .int .i64 0 ∧ wr = w) (fun _ _ => 0)
    case atStart => exact ⟨rfl, rfl⟩
    case round =>
      obtain ⟨rfl, rfl⟩ := hrel
      go_wp2
      go_ret
      exact ⟨⟨_, rfl, by simp⟩, Below.refl _ _⟩
theorem joinContains (A0 : Option Addr) (c0 : Nat) (l0 : List ByteArray) (w : World) (hr0 : Kd.C Kd.string w A0 l0.length l0) (hc0 : l0.length ≤ c0) (hz : ∀ p ∈ l0, p.size ≤ 140737488351232) (hL : l0.length ≤ 9223372036854775806) :
    Calls Tryd.prog 85 #[.slice A0 l0.length c0, .func (.func 86) #[] #[]] w fun e w' => e = .returned (.bool (!l0.all partB)) ∧ Below w.heap.size w w' := by
  have HI := Aside0.mk (joinIndex A0 c0 l0 w hr0 hc0 hz hL)
  clear hr0
  go_enter Tryd.func85, Tryd.ntmps85
  go_wp2_with (fail)
  refine HI.out.mono ?_
  rintro e w2 ⟨⟨i, rfl, hi⟩, hb⟩
  have HB := Aside0.mk hb
  have HX := Aside0.mk hi
  clear hb hi HI
  go_wp2
  go_ret
  refine ⟨?_, HB.out⟩
  have := HX.out
  cases h : l0.all partB with
  | true => rw [h] at this; rw [decide_eq_false (by intro h2; exact absurd (this.1 h2) (by simp))]; rfl
  | false => rw [h] at this; rw [decide_eq_true (this.2 rfl)]; rfl
def joinB (l : List ByteArray) : ByteArray := ⟨(Lib.join (l.map (·.data.toList)) [46]).toArray⟩
def name_Join.f (l : List ByteArray) : Option (ByteArray × Int) :=
  if (∀ p ∈ l, p.size ≤ 1000000) ∧ (joinB l).size ≤ 1000000 ∧ l.length ≤ 1000000 then
    some (if l.length = 0 ∨ 4 < l.length ∨ l.all partB = false then ((⟨#[]⟩ : ByteArray), 3) else if rightL (splitOf 46 (joinB l)) = true then (joinB l, 0) else ((⟨#[]⟩ : ByteArray), 6))
  else none
set_option maxHeartbeats 1000000 in
theorem name_Join.calls (A0 : Option Addr) (c0 : Nat) (l0 : List ByteArray) (r1 : ByteArray) (r2 : Int) (w : World) (HLD : Laid w) (hr0 : Kd.C Kd.string w A0 l0.length l0) (hc0 : l0.length ≤ c0) (h : name_Join.f l0 = some (r1, r2)) :
    Calls Tryd.prog 74 #[.slice A0 l0.length c0] w fun e w' => e = .returned (.tuple #[.string r1, .int .i64 r2]) ∧ Below w.heap.size w w' := by
  unfold name_Join.f at h
  by_cases hg : ¬ ((∀ p ∈ l0, p.size ≤ 1000000) ∧ (joinB l0).size ≤ 1000000 ∧ l0.length ≤ 1000000)
  · rw [if_neg hg] at h; cases h
  have hg := Decidable.of_not_not hg
  rw [if_pos hg] at h
  replace h := Option.some.inj h
  by_cases h0 : l0.length = 0
  · rw [if_pos (Or.inl h0)] at h
    obtain rfl : l0 = [] := List.eq_nil_of_length_eq_zero h0
    have e1 := congrArg Prod.fst h
    have e2 := congrArg Prod.snd h
    dsimp only at e1 e2
    subst e1 e2
    clear h
    go_enter Tryd.func74, Tryd.ntmps74
    go_wp2
    go_ret2
    exact ⟨rfl, Below.refl _ _⟩
  have hne : 0 < l0.length := Nat.pos_of_ne_zero h0
  have n0 : ((l0.length : Int) == 0) = false := beq_eq_false_iff_ne.2 (show (l0.length : Int) ≠ 0 by omega)
  by_cases h4 : 4 < l0.length
  · rw [if_pos (Or.inr (Or.inl h4))] at h
    have e1 := congrArg Prod.fst h
    have e2 := congrArg Prod.snd h
    dsimp only at e1 e2
    subst e1 e2
    clear h
    have n4' : (l0.length : Int) > 4 := by omega
    have n4 : decide ((l0.length : Int) > 4) = true := decide_eq_true n4'
    go_enter Tryd.func74, Tryd.ntmps74
    go_wp2
    go_ret2
    exact ⟨rfl, Below.refl _ _⟩
  have n4' : ¬ (l0.length : Int) > 4 := by omega
  have n4 : decide ((l0.length : Int) > 4) = false := decide_eq_false n4'
  obtain ⟨b, o, rfl, hb, hcl⟩ := strs_at hr0 hne
  have HC := Aside0.mk (joinContains (some ⟨b, o, none⟩) c0 l0 w hr0 hc0 (fun p hp => Nat.le_trans (hg.1 p hp) (by decide)) (by omega))
  have HCL := Aside0.mk hcl
  clear hcl hr0
  cases hall : l0.all partB with
  | false =>
    rw [if_pos (Or.inr (Or.inr hall))] at h
    have e1 := congrArg Prod.fst h
    have e2 := congrArg Prod.snd h
    dsimp only at e1 e2
    subst e1 e2
    clear h
    rw [hall] at HC
    clear hg hall
    go_enter Tryd.func74, Tryd.ntmps74
    go_wp2_with (fail)
    refine HC.out.mono ?_
    rintro e w2 ⟨rfl, hb2⟩
    have HB := Aside0.mk hb2
    clear hb2
    go_wp2
    go_ret2
    exact ⟨rfl, HB.out⟩
  | true =>
    rw [hall] at HC
    have hsplit : ¬ (l0.length = 0 ∨ 4 < l0.length ∨ l0.all partB = false) := by rintro (h | h | h); exact h0 h; exact h4 h; rw [hall] at h; cases h
    rw [if_neg hsplit] at h
    have HR : name_Right.f (joinB l0) = some (rightL (splitOf 46 (joinB l0))) := by unfold name_Right.f; rw [if_pos hg.2.1]
    have hlen : (Lib.join (l0.map (·.data.toList)) (⟨#[46]⟩ : ByteArray).data.toList).length ≤ 140737488355328 := by
      have : (Lib.join (l0.map (·.data.toList)) [46]).length ≤ 1000000 := by have := hg.2.1; simpa [joinB, ByteArray.size] using this
      exact Nat.le_trans this (by decide)
    clear hsplit hall
    have hJ2 : ∀ w2, Below w.heap.size w w2 → Calls Tryd.prog 87 #[.slice (some ⟨b, o, none⟩) l0.length c0, .string ⟨#[46]⟩] w2 fun e w' => e = .returned (.string (joinB l0)) ∧ Below w2.heap.size w2 w' := fun w2 hb2 =>
      Tryd.strings_Join b o c0 l0 ⟨#[46]⟩ w2 (fun j x hj => (hb2.cell (p := ⟨b, o + j, none⟩) hb).trans (HCL.out j x hj)) (Nat.lt_of_lt_of_le hb hb2.size) (Nat.le_trans (Nat.le_of_not_lt h4) (by decide)) hc0 hlen
    have HJ := Aside0.mk hJ2
    clear hJ2 hg
    cases hR : rightL (splitOf 46 (joinB l0)) with
    | true =>
      rw [hR] at HR
      rw [hR, if_pos rfl] at h
      have HRA := Aside0.mk HR
      clear HR hR
      have e1 := congrArg Prod.fst h
      have e2 := congrArg Prod.snd h
      dsimp only at e1 e2
      subst e2
      clear h
      generalize joinB l0 = t at *
      subst e1
      go_enter Tryd.func74, Tryd.ntmps74
      go_wp2_with (fail)
      refine HC.out.mono ?_
      rintro e w2 ⟨rfl, hb2⟩
      have HB := Aside0.mk hb2
      clear hb2
      go_wp2_with (fail)
      refine (HJ.out w2 HB.out).mono ?_
      rintro e w3 ⟨rfl, hb3⟩
      have HB3 := Aside0.mk (HB.out.trans (hb3.mono HB.out.size))
      clear hb3
      go_wp2_with (fail)
      refine (name_Right.calls _ true _ (HLD.below HB3.out) HRA.out).mono ?_
      rintro e w4 ⟨rfl, hb4⟩
      have HB4 := Aside0.mk (HB3.out.trans (hb4.mono HB3.out.size))
      clear hb4
      go_wp2
      go_ret2
      exact ⟨rfl, HB4.out⟩
    | false =>
      rw [hR] at HR
      rw [hR, if_neg (by simp)] at h
      have HRA := Aside0.mk HR
      clear HR hR
      have e1 := congrArg Prod.fst h
      have e2 := congrArg Prod.snd h
      dsimp only at e1 e2
      subst e1 e2
      clear h
      generalize joinB l0 = t at *
      go_enter Tryd.func74, Tryd.ntmps74
      go_wp2_with (fail)
      refine HC.out.mono ?_
      rintro e w2 ⟨rfl, hb2⟩
      have HB := Aside0.mk hb2
      clear hb2
      go_wp2_with (fail)
      refine (HJ.out w2 HB.out).mono ?_
      rintro e w3 ⟨rfl, hb3⟩
      have HB3 := Aside0.mk (HB.out.trans (hb3.mono HB.out.size))
      clear hb3
      go_wp2_with (fail)
      refine (name_Right.calls _ false _ (HLD.below HB3.out) HRA.out).mono ?_
      rintro e w4 ⟨rfl, hb4⟩
      have HB4 := Aside0.mk (HB3.out.trans (hb4.mono HB3.out.size))
      clear hb4
      go_wp2
      go_ret2
      exact ⟨rfl, HB4.out⟩

end Go.Proofs.YtloagejeeakikaaDoor.QA
