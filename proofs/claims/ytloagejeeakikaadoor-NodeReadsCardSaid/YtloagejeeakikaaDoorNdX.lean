/- slices.ContainsFunc over rows of bytes, at the two predicates of node.Encode. node.Encode: what it computes. wire.Reader: take, number, the closure of Bytes, field with its deferred recover. wire.Reader: Bytes, Text, Read, End. node.EncodeLeaf and the reference LeafBytes: what they compute. node.Decode: what it computes. The statements own alive: it returns true. -/
import Derived.Test.YtloagejeeakikaaDoorQB
import Derived.WalkLawsBesides
import Derived.WalkSpells
import Derived.Defers
import Derived.Recover
import Derived.RegionTactic
import Derived.ChangeAlike
namespace Go.Proofs.YtloagejeeakikaaDoor.QB
open Go.RowKit Go.Proofs.YtloagejeeakikaaDoorW.PrintWords Go.Proofs.YtloagejeeakikaaDoorW.PrintLast Go.Proofs.YtloagejeeakikaaDoorW.PrintMore
open Go.Proofs.YtloagejeeakikaaDoor.Mem
set_option linter.unusedVariables false
set_option linter.unusedSimpArgs false
theorem bytes_C {w : World} {A : Option Addr} {n : Nat} {xs : List Int} (h : Kd.C (Kd.int .u8) w A n xs) : ReadsInt w .u8 A n xs := Kd.reads_of_C (enc := Value.int .u8) (d := (0 : Int)) (h1 := fun _ => rfl) h
def rowBad (l : List Int) : Bool := !(decide (l.length = 0) || decide (l.length = 80))
theorem Encode_1_f (l : List Int) : node_Encode_1.f l = some (rowBad l) := by
  unfold node_Encode_1.f node_row.f rowBad
  by_cases h : (l.length : Int) = 0
  · rw [if_pos h, Option.bind_some, decide_eq_true (by omega : l.length = 0)]; rfl
  · have hb : box_Size.f 32 = some 80 := by decide +kernel
    rw [if_neg h, hb, Option.bind_some, Option.bind_some, decide_eq_false (by omega : ¬ l.length = 0), Bool.false_or]
    congr 1
    by_cases h2 : l.length = 80
    · rw [decide_eq_true h2]; simp; omega
    · rw [decide_eq_false h2]; simp; omega
set_option maxHeartbeats 1000000 in
theorem encodeIndex_1 (A0 : Option Addr) (c0 : Nat) (l0 : List (List Int)) (w : World) (hr0 : Kd.C (Kd.slice 5 (Kd.int .u8)) w A0 l0.length l0) (hc0 : l0.length ≤ c0) (hL : l0.length ≤ 1000000) :
    Calls Tryd.prog 59 #[.slice A0 l0.length c0, .func (.func 32) #[] #[]] w fun e w' => (∃ i : Int, e = .returned (.int .i64 i) ∧ (0 ≤ i ↔ l0.any rowBad = true)) ∧ Below w.heap.size w w' := by
  have HR := Aside0.mk hr0
  clear hr0
  by_cases hne : 0 < l0.length
  · go_enter Tryd.func59, Tryd.ntmps59
    go_wp2
    go_loopw [8] (fun n wr => ∃ k : Nat, n = .int .i64 k ∧ k ≤ l0.length ∧ Aside0 (Below w.heap.size w wr) ∧ Aside0 (∀ p ∈ l0.take k, rowBad p = false))
      (fun n _ => l0.length - (intOf n).toNat)
    case atStart => exact ⟨0, rfl, Nat.zero_le _, ⟨Below.refl _ _⟩, ⟨by simp⟩⟩
    case round =>
      obtain ⟨k, rfl, hk, HB, HA⟩ := hrel
      by_cases hlt : k < l0.length
      · obtain ⟨x, hx⟩ : ∃ x, l0[k]? = some x := ⟨_, List.getElem?_eq_getElem hlt⟩
        have hmem : x ∈ l0 := List.mem_of_getElem? hx
        have hrd : rd_L1 l0 (k : Int) = x := by simp [rd_L1, List.getD_eq_getElem?_getD, hx]
        obtain ⟨ad, Ai, ci, rfl, hcx, hci, hin⟩ := at_L1 (Kd.C_below HR.out HB.out) (k : Int) (by omega) (by omega)
        rw [hrd] at hcx hci hin
        rw [Int.toNat_natCast] at hcx
        have HX := Aside0.mk hx
        have HM := Aside0.mk hmem
        have HIN := Aside0.mk hin
        clear hx hmem hin hrd
        have hleb : decide ((k : Int) < l0.length) = true := decide_eq_true (by omega)
        cases hp : rowBad x with
        | true =>
          have HJX := Aside0.mk (by rw [Encode_1_f, hp] : node_Encode_1.f x = some true)
          have HP := Aside0.mk hp
          clear hp
          go_wp2_with (fail)
          refine (node_Encode_1.calls Ai ci x true _ HIN.out hci HJX.out).mono ?_
          rintro e w3 ⟨rfl, hb3⟩
          have HB3 := Aside0.mk hb3
          clear hb3
          go_wp2
          go_ret
          refine ⟨⟨_, rfl, ?_⟩, HB.out.trans (HB3.out.mono HB.out.size)⟩
          refine ⟨fun _ => List.any_eq_true.2 ⟨x, HM.out, HP.out⟩, fun _ => by omega⟩
        | false =>
          have HJX := Aside0.mk (by rw [Encode_1_f, hp] : node_Encode_1.f x = some false)
          have HP := Aside0.mk hp
          clear hp
          go_wp2_with (fail)
          refine (node_Encode_1.calls Ai ci x false _ HIN.out hci HJX.out).mono ?_
          rintro e w3 ⟨rfl, hb3⟩
          have HB3 := Aside0.mk hb3
          clear hb3
          go_wp2
          go_roundw
          case rel =>
            refine ⟨k + 1, by go_num, by omega, ⟨HB.out.trans (HB3.out.mono HB.out.size)⟩, ⟨fun p hp => ?_⟩⟩
            rw [List.take_add_one, HX.out] at hp
            simp at hp
            rcases hp with hp | rfl
            · exact HA.out p hp
            · exact HP.out
          case measure => simp [intOf]; omega
      · have hk2 : k = l0.length := by omega
        have hleb : decide ((k : Int) < l0.length) = false := decide_eq_false (by omega)
        go_wp2
        go_ret
        refine ⟨⟨_, rfl, ?_⟩, HB.out⟩
        refine ⟨fun h => absurd h (by decide), fun h => ?_⟩
        obtain ⟨x, hx, hp⟩ := List.any_eq_true.1 h
        have := HA.out x (by rw [hk2, List.take_length]; exact hx)
        rw [hp] at this
        cases this
  · obtain rfl : l0 = [] := by cases l0 <;> simp_all
    go_enter Tryd.func59, Tryd.ntmps59
    go_wp2
    go_loopw [8] (fun n wr => n = .int .i64 0 ∧ wr = w) (fun _ _ => 0)
    case atStart => exact ⟨rfl, rfl⟩
    case round =>
      obtain ⟨rfl, rfl⟩ := hrel
      go_wp2
      go_ret
      exact ⟨⟨_, rfl, by simp⟩, Below.refl _ _⟩
def rowSome (l : List Int) : Bool := decide (0 < l.length)
theorem Encode_2_f (l : List Int) : node_Encode_2.f l = some (rowSome l) := by
  unfold node_Encode_2.f rowSome
  congr 1
  rw [decide_eq_decide]
  omega
theorem node_Encode_2.calls' (A0 : Option Addr) (c0 : Nat) (l0 : List Int) (r : Bool) (w : World) (hr0 : Kd.C (Kd.int .u8) w A0 l0.length l0) (hc0 : l0.length ≤ c0) (h : node_Encode_2.f l0 = some r) :
    Calls Tryd.prog 36 #[.slice A0 l0.length c0] w fun e w' => e = .returned (.bool r) ∧ Below w.heap.size w w' :=
  (node_Encode_2.calls A0 c0 l0 r w hr0 hc0 h).mono fun e w' ⟨h1, nd, h2⟩ => ⟨h1, by rw [h2]; exact pw_below_drewN (Below.refl _ _) nd⟩
set_option maxHeartbeats 1000000 in
theorem encodeIndex_2 (A0 : Option Addr) (c0 : Nat) (l0 : List (List Int)) (w : World) (hr0 : Kd.C (Kd.slice 5 (Kd.int .u8)) w A0 l0.length l0) (hc0 : l0.length ≤ c0) (hL : l0.length ≤ 1000000) :
    Calls Tryd.prog 59 #[.slice A0 l0.length c0, .func (.func 36) #[] #[]] w fun e w' => (∃ i : Int, e = .returned (.int .i64 i) ∧ (0 ≤ i ↔ l0.any rowSome = true)) ∧ Below w.heap.size w w' := by
  have HR := Aside0.mk hr0
  clear hr0
  by_cases hne : 0 < l0.length
  · go_enter Tryd.func59, Tryd.ntmps59
    go_wp2
    go_loopw [8] (fun n wr => ∃ k : Nat, n = .int .i64 k ∧ k ≤ l0.length ∧ Aside0 (Below w.heap.size w wr) ∧ Aside0 (∀ p ∈ l0.take k, rowSome p = false))
      (fun n _ => l0.length - (intOf n).toNat)
    case atStart => exact ⟨0, rfl, Nat.zero_le _, ⟨Below.refl _ _⟩, ⟨by simp⟩⟩
    case round =>
      obtain ⟨k, rfl, hk, HB, HA⟩ := hrel
      by_cases hlt : k < l0.length
      · obtain ⟨x, hx⟩ : ∃ x, l0[k]? = some x := ⟨_, List.getElem?_eq_getElem hlt⟩
        have hmem : x ∈ l0 := List.mem_of_getElem? hx
        have hrd : rd_L1 l0 (k : Int) = x := by simp [rd_L1, List.getD_eq_getElem?_getD, hx]
        obtain ⟨ad, Ai, ci, rfl, hcx, hci, hin⟩ := at_L1 (Kd.C_below HR.out HB.out) (k : Int) (by omega) (by omega)
        rw [hrd] at hcx hci hin
        rw [Int.toNat_natCast] at hcx
        have HX := Aside0.mk hx
        have HM := Aside0.mk hmem
        have HIN := Aside0.mk hin
        clear hx hmem hin hrd
        have hleb : decide ((k : Int) < l0.length) = true := decide_eq_true (by omega)
        cases hp : rowSome x with
        | true =>
          have HJX := Aside0.mk (by rw [Encode_2_f, hp] : node_Encode_2.f x = some true)
          have HP := Aside0.mk hp
          clear hp
          go_wp2_with (fail)
          refine (node_Encode_2.calls' Ai ci x true _ HIN.out hci HJX.out).mono ?_
          rintro e w3 ⟨rfl, hb3⟩
          have HB3 := Aside0.mk hb3
          clear hb3
          go_wp2
          go_ret
          refine ⟨⟨_, rfl, ?_⟩, HB.out.trans (HB3.out.mono HB.out.size)⟩
          refine ⟨fun _ => List.any_eq_true.2 ⟨x, HM.out, HP.out⟩, fun _ => by omega⟩
        | false =>
          have HJX := Aside0.mk (by rw [Encode_2_f, hp] : node_Encode_2.f x = some false)
          have HP := Aside0.mk hp
          clear hp
          go_wp2_with (fail)
          refine (node_Encode_2.calls' Ai ci x false _ HIN.out hci HJX.out).mono ?_
          rintro e w3 ⟨rfl, hb3⟩
          have HB3 := Aside0.mk hb3
          clear hb3
          go_wp2
          go_roundw
          case rel =>
            refine ⟨k + 1, by go_num, by omega, ⟨HB.out.trans (HB3.out.mono HB.out.size)⟩, ⟨fun p hp => ?_⟩⟩
            rw [List.take_add_one, HX.out] at hp
            simp at hp
            rcases hp with hp | rfl
            · exact HA.out p hp
            · exact HP.out
          case measure => simp [intOf]; omega
      · have hk2 : k = l0.length := by omega
        have hleb : decide ((k : Int) < l0.length) = false := decide_eq_false (by omega)
        go_wp2
        go_ret
        refine ⟨⟨_, rfl, ?_⟩, HB.out⟩
        refine ⟨fun h => absurd h (by decide), fun h => ?_⟩
        obtain ⟨x, hx, hp⟩ := List.any_eq_true.1 h
        have := HA.out x (by rw [hk2, List.take_length]; exact hx)
        rw [hp] at this
        cases this
  · obtain rfl : l0 = [] := by cases l0 <;> simp_all
    go_enter Tryd.func59, Tryd.ntmps59
    go_wp2
    go_loopw [8] (fun n wr => n = .int .i64 0 ∧ wr = w) (fun _ _ => 0)
    case atStart => exact ⟨rfl, rfl⟩
    case round =>
      obtain ⟨rfl, rfl⟩ := hrel
      go_wp2
      go_ret
      exact ⟨⟨_, rfl, by simp⟩, Below.refl _ _⟩
theorem encodeContains_1 (A0 : Option Addr) (c0 : Nat) (l0 : List (List Int)) (w : World) (hr0 : Kd.C (Kd.slice 5 (Kd.int .u8)) w A0 l0.length l0) (hc0 : l0.length ≤ c0) (hL : l0.length ≤ 1000000) :
    Calls Tryd.prog 35 #[.slice A0 l0.length c0, .func (.func 32) #[] #[]] w fun e w' => e = .returned (.bool (l0.any rowBad)) ∧ Below w.heap.size w w' := by
  have HI := Aside0.mk (encodeIndex_1 A0 c0 l0 w hr0 hc0 hL)
  clear hr0
  go_enter Tryd.func35, Tryd.ntmps35
  go_wp2_with (fail)
  refine HI.out.mono ?_
  rintro e w2 ⟨⟨i, rfl, hi⟩, hb⟩
  have HB := Aside0.mk hb
  have HX := Aside0.mk hi
  clear hb hi HI
  go_wp2
  go_ret
  refine ⟨?_, HB.out⟩
  have := HX.out
  cases h : l0.any rowBad with
  | false => rw [h] at this; rw [decide_eq_false (by intro h2; exact absurd (this.1 h2) (by simp))]; rfl
  | true => rw [h] at this; rw [decide_eq_true (this.2 rfl)]; rfl
theorem encodeContains_2 (A0 : Option Addr) (c0 : Nat) (l0 : List (List Int)) (w : World) (hr0 : Kd.C (Kd.slice 5 (Kd.int .u8)) w A0 l0.length l0) (hc0 : l0.length ≤ c0) (hL : l0.length ≤ 1000000) :
    Calls Tryd.prog 35 #[.slice A0 l0.length c0, .func (.func 36) #[] #[]] w fun e w' => e = .returned (.bool (l0.any rowSome)) ∧ Below w.heap.size w w' := by
  have HI := Aside0.mk (encodeIndex_2 A0 c0 l0 w hr0 hc0 hL)
  clear hr0
  go_enter Tryd.func35, Tryd.ntmps35
  go_wp2_with (fail)
  refine HI.out.mono ?_
  rintro e w2 ⟨⟨i, rfl, hi⟩, hb⟩
  have HB := Aside0.mk hb
  have HX := Aside0.mk hi
  clear hb hi HI
  go_wp2
  go_ret
  refine ⟨?_, HB.out⟩
  have := HX.out
  cases h : l0.any rowSome with
  | false => rw [h] at this; rw [decide_eq_false (by intro h2; exact absurd (this.1 h2) (by simp))]; rfl
  | true => rw [h] at this; rw [decide_eq_true (this.2 rfl)]; rfl
end Go.Proofs.YtloagejeeakikaaDoor.QB
namespace Go.Proofs.YtloagejeeakikaaDoor.QB
open Go.RowKit Go.Proofs.YtloagejeeakikaaDoorW.PrintWords Go.Proofs.YtloagejeeakikaaDoorW.PrintLast Go.Proofs.YtloagejeeakikaaDoorW.PrintMore
open Go.Proofs.YtloagejeeakikaaDoor.Mem
set_option linter.unusedVariables false
set_option linter.unusedSimpArgs false
theorem isW_new (w : World) : IsW (fun k => k = w.heap.size) w.heap.size [] (w.alloc (.cells #[.slice none 0 0] 60)) :=
  ⟨_, heap_alloc_new w _, own_nil _ _ _ _, fun k hk => by simp [Value.ownBlock] at hk, rfl, fun k hk => by subst hk; simp⟩
def encB (l : List (List Int)) : List Int := l.flatMap fun r => putB r.length 2 ++ r
def node_Encode.f (a0_0 a0_1 a0_2 : Int) (l1 : List (List Int)) : Option (List Int × Int) :=
  if l1.length ≤ 1000000 then (geom_Right.f a0_0 a0_1 a0_2).bind fun t => if t = true ∧ (l1.length : Int) = a0_0 ∧ l1.any rowBad = false then (if l1.any rowSome then some (encB l1, 0) else some ([], 0)) else some ([], 2) else none
def EPost (w : World) (bs : List Int) (f : Int) (e : Ending) (w' : World) : Prop :=
  ∃ v0_ : Value, e = .returned (.tuple #[v0_, .int .i64 f]) ∧ Kd.R (Kd.int .u8) 5 w' w.heap.size (fun _ => True) v0_ bs ∧ Below w.heap.size w w'
theorem enc_len (l : List (List Int)) (h : ∀ p ∈ l, rowBad p = false) : (encB l).length ≤ 82 * l.length := by
  induction l with
  | nil => simp [encB]
  | cons x l ih =>
    have h1 := ih (fun p hp => h p (List.mem_cons_of_mem _ hp))
    have h2 := h x List.mem_cons_self
    have : x.length ≤ 80 := by
      unfold rowBad at h2
      by_cases h3 : x.length = 80
      · omega
      · rw [decide_eq_false h3, Bool.or_false, Bool.not_eq_false', decide_eq_true_eq] at h2
        omega
    simp only [encB, List.flatMap_cons, List.length_append, List.length_cons] at h1 ⊢
    have : (putB (x.length : Int) 2).length = 2 := by simp [putB, putFrom_len]
    omega
theorem enc_snoc (l : List (List Int)) (x : List Int) : encB (l ++ [x]) = encB l ++ (putB x.length 2 ++ x) := by simp [encB]
/-- A geometry in block b, cell by cell. -/
def Geo (b : Nat) (x y z : Int) (w : World) : Prop :=
  w.cell? ⟨b, 0, none⟩ = some (.int .i64 x) ∧ w.cell? ⟨b, 1, none⟩ = some (.int .i64 y) ∧ w.cell? ⟨b, 2, none⟩ = some (.int .i64 z)
theorem Geo.new (w : World) (x y z : Int) (T : TypeId) : Geo w.heap.size x y z (w.alloc (.cells #[.int .i64 x, .int .i64 y, .int .i64 z] T)) := by
  refine ⟨?_, ?_, ?_⟩ <;> (unfold World.cell?; rw [heap_alloc_new]; rfl)
theorem Geo.step {b : Nat} {x y z : Int} {w w1 : World} (h : Geo b x y z w) {B : Nat} (hB : Below B w w1) (hb : b < B) : Geo b x y z w1 :=
  ⟨(hB.cell (p := ⟨b, 0, none⟩) hb).trans h.1, (hB.cell (p := ⟨b, 1, none⟩) hb).trans h.2.1, (hB.cell (p := ⟨b, 2, none⟩) hb).trans h.2.2⟩
set_option maxHeartbeats 1600000 in
theorem node_Encode.loop (A0 : Option Addr) (c0 : Nat) (a0_0 a0_1 a0_2 : Int) (l0 : List (List Int)) (w : World) (hr0 : Kd.C (Kd.slice 5 (Kd.int .u8)) w A0 l0.length l0) (hc0 : l0.length ≤ c0) (hL : l0.length ≤ 1000000)
    (hg : geom_Right.f a0_0 a0_1 a0_2 = some true) (hl : (l0.length : Int) = a0_0) (hbad : l0.any rowBad = false) (hsome : l0.any rowSome = true) :
    Calls Tryd.prog 9 #[.agg #[.int .i64 a0_0, .int .i64 a0_1, .int .i64 a0_2], .slice A0 l0.length c0] w (EPost w (encB l0) 0) := by
  have hmf : ∀ (fn : Fn) (first cap : Array Value) (w : World), (Instr.makeFunc fn first cap).run Tryd.prog w = .ok (.func fn first cap) w := fun _ _ _ _ => rfl
  have HR := Aside0.mk hr0
  have HG := Aside0.mk hg
  have HBAD := Aside0.mk hbad
  have HSOME := Aside0.mk hsome
  have HB1 := Aside0.mk (below_alloc (Below.refl w.heap.size w) (.cells #[.int .i64 a0_0, .int .i64 a0_1, .int .i64 a0_2] 23))
  have HH := Aside0.mk (Geo.new w a0_0 a0_1 a0_2 23)
  clear hr0 hg hbad hsome
  subst hl
  go_enter Tryd.func9, Tryd.ntmps9
  go_wp2_with (fail)
  refine (geom_Right.calls _ a0_1 a0_2 true _ HG.out).mono ?_
  rintro e w1 ⟨rfl, hb⟩
  obtain ⟨c0_, c1_, c2_⟩ := HH.out.step hb (by simp)
  have hsz1 : w.heap.size + 1 ≤ w1.heap.size := by have := hb.size; simp at this; omega
  have HB2 := Aside0.mk (HB1.out.trans (hb.mono (by simp)))
  clear hb
  go_wp2_with (fail)
  clear c0_ c1_ c2_
  have hcr := Kd.C_below HR.out HB2.out
  refine (encodeContains_1 A0 c0 l0 _ hcr hc0 hL).mono ?_
  rintro e w2 ⟨he, hb⟩
  rw [HBAD.out] at he
  subst he
  have hsz2 : w.heap.size + 1 ≤ w2.heap.size := by have := hb.size; omega
  have HB3 := Aside0.mk (HB2.out.trans (hb.mono (by omega)))
  clear hb hcr
  go_wp2_with (fail)
  have hcr := Kd.C_below HR.out HB3.out
  refine (encodeContains_2 A0 c0 l0 _ hcr hc0 hL).mono ?_
  rintro e w3 ⟨he, hb⟩
  rw [HSOME.out] at he
  subst he
  have hsz3 : w.heap.size + 1 ≤ w3.heap.size := by have := hb.size; omega
  have HB4 := Aside0.mk (HB3.out.trans (hb.mono (by omega)))
  clear hb hcr
  go_wp2_with (fail)
  obtain ⟨gg, hgg⟩ : ∃ g, g = w3.heap.size := ⟨_, rfl⟩
  go_loopw [35] (fun n wr => ∃ (k : Nat) (S : Nat → Prop), n = .int .i64 k ∧ k ≤ l0.length ∧ Aside0 (IsW S w3.heap.size (encB (l0.take k)) wr) ∧ Aside0 (∀ i, S i → w.heap.size + 1 ≤ i) ∧ Aside0 (Below w.heap.size w wr) ∧ Aside0 (w.heap.size + 1 ≤ wr.heap.size))
    (fun n _ => l0.length - (intOf n).toNat)
  case atStart => exact ⟨0, _, rfl, Nat.zero_le _, ⟨isW_new w3⟩, ⟨fun i hi => by subst hi; exact hsz3⟩, ⟨below_alloc HB4.out _⟩, ⟨by simp; omega⟩⟩
  case round =>
    obtain ⟨k, S, rfl, hk, HW, HS, HB, HZ⟩ := hrel
    by_cases hlt : k < l0.length
    · obtain ⟨x, hx⟩ : ∃ x, l0[k]? = some x := ⟨_, List.getElem?_eq_getElem hlt⟩
      have hmem : x ∈ l0 := List.mem_of_getElem? hx
      have hrd : rd_L1 l0 (k : Int) = x := by simp [rd_L1, List.getD_eq_getElem?_getD, hx]
      obtain ⟨ad, Ai, ci, rfl, hcx, hci, hin⟩ := at_L1 HR.out (k : Int) (by omega) (by omega)
      rw [hrd] at hcx hci hin
      rw [Int.toNat_natCast] at hcx
      have hcx' := (HB.out.cell (World.block_lt_of_cell? w _ hcx)).trans hcx
      have hxl : x.length ≤ 80 := by
        have h2 : rowBad x = false := by
          cases hq : rowBad x with
          | false => rfl
          | true => exact absurd (List.any_eq_true.2 ⟨x, hmem, hq⟩) (by rw [HBAD.out]; decide)
        unfold rowBad at h2
        by_cases h3 : x.length = 80
        · omega
        · rw [decide_eq_false h3, Bool.or_false, Bool.not_eq_false', decide_eq_true_eq] at h2
          omega
      have HX := Aside0.mk hx
      have HIN := Aside0.mk (show ReadsInt wr .u8 Ai x.length x from (bytes_C hin).below HB.out)
      have HAP := Aside0.mk (show Apart S Ai x.length from apart_kept (S := fun _ => False) (bytes_C hin) (fun _ _ _ h => h) (fun i hi => .inr (by have := HS.out i hi; omega)))
      have hel : (encB (l0.take k)).length ≤ 82 * k := by
        have h1 := enc_len (l0.take k) (fun p hp => by
          cases hq : rowBad p with
          | false => rfl
          | true => exact absurd (List.any_eq_true.2 ⟨p, List.mem_of_mem_take hp, hq⟩) (by rw [HBAD.out]; decide))
        rw [List.length_take] at h1
        omega
      have HEL := Aside0.mk hel
      clear hx hmem hin hrd hcx hel
      have hleb : decide ((k : Int) < l0.length) = true := decide_eq_true (by omega)
      go_wp2_with (fail)
      refine (Writer_Bytes S w3.heap.size _ x Ai x.length ci wr HW.out HIN.out HAP.out (by omega) hci (by have := HEL.out; omega)).mono ?_
      intro e w5 hp
      obtain ⟨hpe, S5, hW5, hS5, hF5⟩ := hp
      subst hpe
      have HW5 := Aside0.mk hW5
      have HS5 := Aside0.mk (fun i hi => show w.heap.size + 1 ≤ i from (hS5 i hi).elim (HS.out i) (fun h => by have := HZ.out; omega))
      have HB5 := Aside0.mk (HB.out.trans (hF5.below (B := w.heap.size) (by have := HZ.out; omega) (fun i hi => by have := HS.out i hi; omega)))
      have HZ5 := Aside0.mk (show w.heap.size + 1 ≤ w5.heap.size by have := hF5.size; have := HZ.out; omega)
      clear hW5 hS5 hF5
      go_wp2_with (fail)
      go_roundw
      case rel =>
        refine ⟨k + 1, S5, by go_num, by omega, ⟨?_⟩, HS5, HB5, HZ5⟩
        have h1 := HW5.out
        rw [List.take_add_one, HX.out, Option.toList_some, enc_snoc, ← List.append_assoc]
        exact h1
      case measure => simp [intOf]; omega
    · have hk2 : k = l0.length := by omega
      subst hk2
      have hleb : decide ((l0.length : Int) < l0.length) = false := decide_eq_false (by omega)
      have hel : (encB (l0.take l0.length)).length ≤ 82 * l0.length := by
        have h1 := enc_len (l0.take l0.length) (fun p hp => by
          cases hq : rowBad p with
          | false => rfl
          | true => exact absurd (List.any_eq_true.2 ⟨p, List.mem_of_mem_take hp, hq⟩) (by rw [HBAD.out]; decide))
        rw [List.length_take] at h1
        omega
      have HEL := Aside0.mk hel
      clear hel
      go_wp2_with (fail)
      refine (Writer_Out S w3.heap.size _ wr HW.out (by have := HEL.out; omega)).mono ?_
      rintro e w5 ⟨v1, rfl, hr, hb⟩
      have HP := Aside0.mk (And.intro hr hb)
      clear hr hb
      go_wp2_with (fail)
      go_ret2
      refine ⟨_, rfl, ?_, HB.out.trans (HP.out.2.mono (by have := HZ.out; omega))⟩
      have h1 := HP.out.1
      rw [List.take_length] at h1
      exact Kd.R_lower h1 (by have := HZ.out; omega)
set_option maxHeartbeats 800000 in
theorem node_Encode.no1 (A0 : Option Addr) (c0 : Nat) (a0_0 a0_1 a0_2 : Int) (l0 : List (List Int)) (w : World) (hr0 : Kd.C (Kd.slice 5 (Kd.int .u8)) w A0 l0.length l0) (hc0 : l0.length ≤ c0) (hL : l0.length ≤ 1000000)
    (hg : geom_Right.f a0_0 a0_1 a0_2 = some false) :
    Calls Tryd.prog 9 #[.agg #[.int .i64 a0_0, .int .i64 a0_1, .int .i64 a0_2], .slice A0 l0.length c0] w (EPost w [] 2) := by
  have hmf : ∀ (fn : Fn) (first cap : Array Value) (w : World), (Instr.makeFunc fn first cap).run Tryd.prog w = .ok (.func fn first cap) w := fun _ _ _ _ => rfl
  have HR := Aside0.mk hr0
  have HG := Aside0.mk hg
  have HB1 := Aside0.mk (below_alloc (Below.refl w.heap.size w) (.cells #[.int .i64 a0_0, .int .i64 a0_1, .int .i64 a0_2] 23))
  have HH := Aside0.mk (Geo.new w a0_0 a0_1 a0_2 23)
  clear hr0 hg
  go_enter Tryd.func9, Tryd.ntmps9
  go_wp2_with (fail)
  refine (geom_Right.calls a0_0 a0_1 a0_2 false _ HG.out).mono ?_
  rintro e w1 ⟨rfl, hb⟩
  have HB2 := Aside0.mk (HB1.out.trans (hb.mono (by simp)))
  clear hb
  go_wp2_with (fail)
  go_ret2
  exact ⟨_, rfl, Kd.R_nil _ _ _ _ _, HB2.out⟩
set_option maxHeartbeats 800000 in
theorem node_Encode.no2 (A0 : Option Addr) (c0 : Nat) (a0_0 a0_1 a0_2 : Int) (l0 : List (List Int)) (w : World) (hr0 : Kd.C (Kd.slice 5 (Kd.int .u8)) w A0 l0.length l0) (hc0 : l0.length ≤ c0) (hL : l0.length ≤ 1000000)
    (hg : geom_Right.f a0_0 a0_1 a0_2 = some true) (hl : (l0.length : Int) ≠ a0_0) :
    Calls Tryd.prog 9 #[.agg #[.int .i64 a0_0, .int .i64 a0_1, .int .i64 a0_2], .slice A0 l0.length c0] w (EPost w [] 2) := by
  have hmf : ∀ (fn : Fn) (first cap : Array Value) (w : World), (Instr.makeFunc fn first cap).run Tryd.prog w = .ok (.func fn first cap) w := fun _ _ _ _ => rfl
  have HR := Aside0.mk hr0
  have HG := Aside0.mk hg
  have HB1 := Aside0.mk (below_alloc (Below.refl w.heap.size w) (.cells #[.int .i64 a0_0, .int .i64 a0_1, .int .i64 a0_2] 23))
  have HH := Aside0.mk (Geo.new w a0_0 a0_1 a0_2 23)
  clear hr0 hg
  have hne : ((l0.length : Int) != a0_0) = true := by simpa using hl
  clear hl
  go_enter Tryd.func9, Tryd.ntmps9
  go_wp2_with (fail)
  refine (geom_Right.calls a0_0 a0_1 a0_2 true _ HG.out).mono ?_
  rintro e w1 ⟨rfl, hb⟩
  obtain ⟨c0_, c1_, c2_⟩ := HH.out.step hb (by simp)
  have HB2 := Aside0.mk (HB1.out.trans (hb.mono (by simp)))
  clear hb
  go_wp2_with (fail)
  go_ret2
  exact ⟨_, rfl, Kd.R_nil _ _ _ _ _, HB2.out⟩
set_option maxHeartbeats 800000 in
theorem node_Encode.no3 (A0 : Option Addr) (c0 : Nat) (a0_0 a0_1 a0_2 : Int) (l0 : List (List Int)) (w : World) (hr0 : Kd.C (Kd.slice 5 (Kd.int .u8)) w A0 l0.length l0) (hc0 : l0.length ≤ c0) (hL : l0.length ≤ 1000000)
    (hg : geom_Right.f a0_0 a0_1 a0_2 = some true) (hl : (l0.length : Int) = a0_0) (hbad : l0.any rowBad = true) :
    Calls Tryd.prog 9 #[.agg #[.int .i64 a0_0, .int .i64 a0_1, .int .i64 a0_2], .slice A0 l0.length c0] w (EPost w [] 2) := by
  have hmf : ∀ (fn : Fn) (first cap : Array Value) (w : World), (Instr.makeFunc fn first cap).run Tryd.prog w = .ok (.func fn first cap) w := fun _ _ _ _ => rfl
  have HR := Aside0.mk hr0
  have HG := Aside0.mk hg
  have HB1 := Aside0.mk (below_alloc (Below.refl w.heap.size w) (.cells #[.int .i64 a0_0, .int .i64 a0_1, .int .i64 a0_2] 23))
  have HH := Aside0.mk (Geo.new w a0_0 a0_1 a0_2 23)
  clear hr0 hg
  have HBAD := Aside0.mk hbad
  clear hbad
  subst hl
  go_enter Tryd.func9, Tryd.ntmps9
  go_wp2_with (fail)
  refine (geom_Right.calls _ a0_1 a0_2 true _ HG.out).mono ?_
  rintro e w1 ⟨rfl, hb⟩
  obtain ⟨c0_, c1_, c2_⟩ := HH.out.step hb (by simp)
  have hsz1 : w.heap.size + 1 ≤ w1.heap.size := by have := hb.size; simp at this; omega
  have HB2 := Aside0.mk (HB1.out.trans (hb.mono (by simp)))
  clear hb
  go_wp2_with (fail)
  clear c0_ c1_ c2_
  have hcr := Kd.C_below HR.out HB2.out
  refine (encodeContains_1 A0 c0 l0 _ hcr hc0 hL).mono ?_
  rintro e w2 ⟨he, hb⟩
  rw [HBAD.out] at he
  subst he
  have HB3 := Aside0.mk (HB2.out.trans (hb.mono (by omega)))
  clear hb hcr
  go_wp2_with (fail)
  go_ret2
  exact ⟨_, rfl, Kd.R_nil _ _ _ _ _, HB3.out⟩
set_option maxHeartbeats 800000 in
theorem node_Encode.no4 (A0 : Option Addr) (c0 : Nat) (a0_0 a0_1 a0_2 : Int) (l0 : List (List Int)) (w : World) (hr0 : Kd.C (Kd.slice 5 (Kd.int .u8)) w A0 l0.length l0) (hc0 : l0.length ≤ c0) (hL : l0.length ≤ 1000000)
    (hg : geom_Right.f a0_0 a0_1 a0_2 = some true) (hl : (l0.length : Int) = a0_0) (hbad : l0.any rowBad = false) (hsome : l0.any rowSome = false) :
    Calls Tryd.prog 9 #[.agg #[.int .i64 a0_0, .int .i64 a0_1, .int .i64 a0_2], .slice A0 l0.length c0] w (EPost w [] 0) := by
  have hmf : ∀ (fn : Fn) (first cap : Array Value) (w : World), (Instr.makeFunc fn first cap).run Tryd.prog w = .ok (.func fn first cap) w := fun _ _ _ _ => rfl
  have HR := Aside0.mk hr0
  have HG := Aside0.mk hg
  have HB1 := Aside0.mk (below_alloc (Below.refl w.heap.size w) (.cells #[.int .i64 a0_0, .int .i64 a0_1, .int .i64 a0_2] 23))
  have HH := Aside0.mk (Geo.new w a0_0 a0_1 a0_2 23)
  clear hr0 hg
  have HBAD := Aside0.mk hbad
  have HSOME := Aside0.mk hsome
  clear hbad hsome
  subst hl
  go_enter Tryd.func9, Tryd.ntmps9
  go_wp2_with (fail)
  refine (geom_Right.calls _ a0_1 a0_2 true _ HG.out).mono ?_
  rintro e w1 ⟨rfl, hb⟩
  obtain ⟨c0_, c1_, c2_⟩ := HH.out.step hb (by simp)
  have hsz1 : w.heap.size + 1 ≤ w1.heap.size := by have := hb.size; simp at this; omega
  have HB2 := Aside0.mk (HB1.out.trans (hb.mono (by simp)))
  clear hb
  go_wp2_with (fail)
  clear c0_ c1_ c2_
  have hcr := Kd.C_below HR.out HB2.out
  refine (encodeContains_1 A0 c0 l0 _ hcr hc0 hL).mono ?_
  rintro e w2 ⟨he, hb⟩
  rw [HBAD.out] at he
  subst he
  have HB3 := Aside0.mk (HB2.out.trans (hb.mono (by omega)))
  have hsz2 : w.heap.size + 1 ≤ w2.heap.size := by have := hb.size; omega
  clear hb hcr
  go_wp2_with (fail)
  have hcr := Kd.C_below HR.out HB3.out
  refine (encodeContains_2 A0 c0 l0 _ hcr hc0 hL).mono ?_
  rintro e w3 ⟨he, hb⟩
  rw [HSOME.out] at he
  subst he
  have HB4 := Aside0.mk (HB3.out.trans (hb.mono (by omega)))
  clear hb hcr
  go_wp2_with (fail)
  go_ret2
  exact ⟨_, rfl, Kd.R_nil _ _ _ _ _, HB4.out⟩
theorem node_Encode.calls (a0_0 a0_1 a0_2 : Int) (A1 : Option Addr) (c1 : Nat) (l1 : List (List Int)) (r1 : List Int) (r2 : Int) (w : World) (hr1 : Kd.C (Kd.slice 5 (Kd.int .u8)) w A1 l1.length l1) (hc1 : l1.length ≤ c1) (h : node_Encode.f a0_0 a0_1 a0_2 l1 = some (r1, r2)) :
    Calls Tryd.prog 9 #[.agg #[.int .i64 a0_0, .int .i64 a0_1, .int .i64 a0_2], .slice A1 l1.length c1] w fun e w' => ∃ v0_ : Value, e = .returned (.tuple #[v0_, .int .i64 r2]) ∧ Kd.R (Kd.int .u8) 5 w' w.heap.size (fun _ => True) v0_ r1 ∧ Below w.heap.size w w' := by
  unfold node_Encode.f at h
  by_cases hL : l1.length ≤ 1000000
  · rw [if_pos hL] at h
    obtain ⟨t, ht, h⟩ := Option.bind_eq_some_iff.mp h
    cases t with
    | false =>
      rw [if_neg (by simp)] at h
      cases h
      exact node_Encode.no1 A1 c1 a0_0 a0_1 a0_2 l1 w hr1 hc1 hL ht
    | true =>
      by_cases hl : (l1.length : Int) = a0_0
      · cases hb : l1.any rowBad with
        | true =>
          rw [if_neg (by simp [hb])] at h
          cases h
          exact node_Encode.no3 A1 c1 a0_0 a0_1 a0_2 l1 w hr1 hc1 hL ht hl hb
        | false =>
          rw [if_pos ⟨rfl, hl, hb⟩] at h
          cases hs : l1.any rowSome with
          | true =>
            rw [hs, if_pos rfl] at h
            cases h
            exact node_Encode.loop A1 c1 a0_0 a0_1 a0_2 l1 w hr1 hc1 hL ht hl hb hs
          | false =>
            rw [hs, if_neg (by simp)] at h
            cases h
            exact node_Encode.no4 A1 c1 a0_0 a0_1 a0_2 l1 w hr1 hc1 hL ht hl hb hs
      · rw [if_neg (by simp [hl])] at h
        cases h
        exact node_Encode.no2 A1 c1 a0_0 a0_1 a0_2 l1 w hr1 hc1 hL ht hl
  · rw [if_neg hL] at h
    cases h
end Go.Proofs.YtloagejeeakikaaDoor.QB
namespace Go.Proofs.YtloagejeeakikaaDoor.QB
open Go.RowKit Go.Proofs.YtloagejeeakikaaDoorW.PrintWords Go.Proofs.YtloagejeeakikaaDoorW.PrintLast Go.Proofs.YtloagejeeakikaaDoorW.PrintMore
open Go.Proofs.YtloagejeeakikaaDoor.Mem
set_option linter.unusedVariables false
set_option linter.unusedSimpArgs false
/-- Where a Reader's bytes lie. -/
def RB (g : Nat) (A : Option Addr) (c : Nat) (rest : List Int) (w : World) : Prop :=
  ReadsInt w .u8 A rest.length rest ∧ rest.length ≤ c ∧ ∀ ad, A = some ad → 0 < rest.length → ad.block ≠ g ∧ ∃ cells, w.heap[ad.block]? = some (.cells cells 5 (0, 0))
/-- A Reader in block g: what is left, its fault. -/
def IsR (g : Nat) (rest : List Int) (f : Int) (w : World) : Prop :=
  ∃ A c, w.heap[g]? = some (.cells #[.slice A rest.length c, .int .i64 f] 93 (0, 0)) ∧ RB g A c rest w
def fewV : Value := .iface 97 (.agg #[.int .i64 4])
def fewP (w : World) (e : Ending) (w' : World) : Prop := e = .panicked [{ v := fewV, recovered := false }] ∧ w' = w
def TakeP (g : Nat) (n : Nat) (rest : List Int) (w : World) (e : Ending) (w' : World) : Prop :=
  ∃ A c, e = .returned (.slice A n c) ∧ RB g A c (rest.take n) w' ∧ IsR g (rest.drop n) 0 w' ∧ FrameS (fun k => k = g) w w'
theorem RB.take {g : Nat} {A : Option Addr} {c : Nat} {rest : List Int} {w : World} (h : RB g A c rest w) (n : Nat) (hn : n ≤ rest.length) : RB g A n (rest.take n) w :=
  ⟨by have := Go.Proofs.YtloagejeeakikaaDoor.Mem.reads_take h.1 n hn; rwa [show (rest.take n).length = n by simp; omega], by simp; omega, fun ad e hp => h.2.2 ad e (by simp at hp; omega)⟩
theorem RB.drop {g : Nat} {A : Option Addr} {c : Nat} {rest : List Int} {w : World} (h : RB g A c rest w) (n : Nat) (hn : n ≤ rest.length) : RB g (if c = n then A else A.map (·.add n)) (c - n) (rest.drop n) w := by
  refine ⟨?_, by simp; have := h.2.1; omega, fun ad e hp => ?_⟩
  · have := h.1.drop_ n hn h.2.1
    rwa [List.length_drop]
  · simp at hp
    rw [if_neg (by have := h.2.1; omega)] at e
    cases hA : A with
    | none => rw [hA] at e; cases e
    | some a =>
      rw [hA] at e
      cases e
      have := h.2.2 a hA (by omega)
      rwa [Mem.Addr.add_block]
theorem RB.kept {g : Nat} {A : Option Addr} {c : Nat} {rest : List Int} {w w' : World} (h : RB g A c rest w) (hF : FrameS (fun k => k = g) w w') : RB g A c rest w' :=
  ⟨reads_kept h.1 hF (fun hp ad e hk => (h.2.2 ad e hp).1 hk), h.2.1, fun ad e hp => by
    obtain ⟨h1, cs, h2⟩ := h.2.2 ad e hp
    exact ⟨h1, cs, (hF.block _ (Array.getElem?_eq_some_iff.1 h2).1 h1).trans h2⟩⟩
theorem FrameS.drawn {S : Nat → Prop} {w w' : World} (h : Drawn0 w w') : FrameS S w w' := by
  obtain ⟨n, rfl⟩ := h
  exact (FrameS.refl S w).drewN n
theorem IsR.drawn {g : Nat} {rest : List Int} {f : Int} {w w' : World} (h : IsR g rest f w) (hd : Drawn0 w w') : IsR g rest f w' := by
  obtain ⟨n, rfl⟩ := hd
  exact h
theorem take_no (g n : Nat) (rest : List Int) (w : World) (hR : IsR g rest 0 w) (hn : rest.length < n) (hN : n ≤ 65535) :
    Calls Tryd.prog 68 #[.pointer (some ⟨g, 0, none⟩), .int .i64 n] w (fewP w) := by
  obtain ⟨A, c, hg, hr, hc, hb⟩ := hR
  have hc0 : w.cell? ⟨g, 0, none⟩ = some (.slice A rest.length c) := by simp [World.cell?, hg]
  clear hg hr hb
  have h0 : decide ((n : Int) < 0) = false := decide_eq_false (by omega)
  have h1 : decide (rest.length < n) = true := decide_eq_true hn
  go_enter Tryd.func68, Tryd.ntmps68
  go_wp2_with (fail)
  exact ⟨rfl, rfl, rfl⟩
theorem take_end {g n : Nat} {rest : List Int} {w : World} {A A' : Option Addr} {c c' : Nat} (hg : w.heap[g]? = some (.cells #[.slice A rest.length c, .int .i64 0] 93 (0, 0))) (hr : RB g A c rest w) (hn : n ≤ rest.length)
    (hA : A' = if c = n then A else A.map (·.add n)) (hc' : c' = c - n) : TakeP g n rest w (.returned (.slice A n n)) (w.setCell ⟨g, 0, none⟩ (.slice A' (rest.length - n) c')) := by
  subst hc'
  have hF : FrameS (fun k => k = g) w (w.setCell ⟨g, 0, none⟩ (.slice A' (rest.length - n) (c - n))) := (FrameS.refl (fun k => k = g) w).setCell (p := ⟨g, 0, none⟩) (.inl rfl) _
  refine ⟨A, n, rfl, (hr.take n hn).kept hF, ⟨A', c - n, ?_, ?_⟩, hF⟩
  · simp only [World.setCell, Array.getElem?_modify, if_true, hg, Option.map_some, List.length_drop]
    rfl
  · rw [hA]
    exact (hr.drop n hn).kept (by rw [← hA]; exact hF)
theorem take_ok (g n : Nat) (rest : List Int) (w : World) (hR : IsR g rest 0 w) (hn : n ≤ rest.length) :
    Calls Tryd.prog 68 #[.pointer (some ⟨g, 0, none⟩), .int .i64 n] w (TakeP g n rest w) := by
  obtain ⟨A, c, hg, hr⟩ := hR
  have hc0 : w.cell? ⟨g, 0, none⟩ = some (.slice A rest.length c) := by simp [World.cell?, hg]
  have hf0 : w.frozen? ⟨g, 0, none⟩ = false := by simp [World.frozen?, hg]
  have hc := hr.2.1
  have HG := Aside0.mk hg
  have HR := Aside0.mk hr
  clear hg hr
  have h0 : decide ((n : Int) < 0) = false := decide_eq_false (by omega)
  have h1 : decide (rest.length < n) = false := decide_eq_false (by omega)
  go_enter Tryd.func68, Tryd.ntmps68
  go_wp2_with (fail)
  all_goals
    go_ret
    exact take_end HG.out HR.out hn (by first | rw [if_pos ‹_›] | rw [if_neg ‹_›]) (by omega)
theorem bits_or_two (a b : Int) (ha : 0 ≤ a) (ha2 : a < 256) (hb : 0 ≤ b) (hb2 : b < 256) : Go.bits .or .u64 (a * 256) b = a * 256 + b := by
  obtain ⟨a, rfl⟩ := Int.eq_ofNat_of_zero_le ha
  obtain ⟨b, rfl⟩ := Int.eq_ofNat_of_zero_le hb
  have h1 : (BitVec.ofInt IntKind.u64.bits ((a : Int) * 256) ||| BitVec.ofInt IntKind.u64.bits (b : Int)).toNat = a * 256 + b := by
    rw [BitVec.toNat_or]
    have e1 : (BitVec.ofInt IntKind.u64.bits ((a : Int) * 256)).toNat = a <<< 8 := by
      rw [BitVec.toNat_ofInt, Nat.shiftLeft_eq]
      simp [IntKind.bits]
      omega
    have e2 : (BitVec.ofInt IntKind.u64.bits (b : Int)).toNat = b := by
      rw [BitVec.toNat_ofInt]
      simp [IntKind.bits]
      omega
    rw [e1, e2, ← Nat.shiftLeft_add_eq_or_of_lt (by omega : b < 2 ^ 8), Nat.shiftLeft_eq]
  unfold Go.bits
  simp only [h1]
  rw [IntKind.wrap_u64]
  omega
theorem get_two (a b : Int) (ha : 0 ≤ a) (ha2 : a < 256) (hb : 0 ≤ b) (hb2 : b < 256) : num_Get.f 10 [a, b] = some (a * 256 + b, 0) := by
  have r0 : rd [a, b] 0 = a := rfl
  have r1 : rd [a, b] 1 = b := rfl
  have w0 : ∀ x : Int, 0 ≤ x → x < 65536 → IntKind.u64.wrap x = x := fun x h1 h2 => by rw [IntKind.wrap_u64]; omega
  have b0 : Go.bits .or .u64 0 a = a := by have := bits_or_two 0 a (by omega) (by omega) ha ha2; simpa using this
  unfold num_Get.f
  rw [if_neg (by simp), decide_eq_false (by simp), num_Get.j0.eq_2, if_neg (by simp), num_Get.l0.eq_2, if_pos (by simp), if_pos (by omega), if_pos (by simp), r0, w0 (0 * 256) (by omega) (by omega), w0 a ha (by omega)]
  rw [show (0 : Int) * 256 = 0 from rfl, b0, show wrap64 (0 + 1) = 1 from by unfold wrap64; omega]
  rw [num_Get.l0.eq_2, if_pos (by simp), if_pos (by omega), if_pos (by simp), r1, w0 (a * 256) (by omega) (by omega), w0 b hb (by omega), bits_or_two a b ha ha2 hb hb2, show wrap64 (1 + 1) = 2 from by unfold wrap64; omega]
  rw [num_Get.l0.eq_2, if_neg (by simp)]
def NumP (g : Nat) (n : Int) (rest : List Int) (w : World) (e : Ending) (w' : World) : Prop :=
  e = .returned (.int .u64 n) ∧ IsR g rest 0 w' ∧ FrameS (fun k => k = g) w w'
theorem num_ok (g : Nat) (a b : Int) (rest : List Int) (w : World) (hR : IsR g (a :: b :: rest) 0 w) (ha : 0 ≤ a) (ha2 : a < 256) (hb : 0 ≤ b) (hb2 : b < 256) :
    Calls Tryd.prog 67 #[.pointer (some ⟨g, 0, none⟩), .int .i64 2] w (NumP g (a * 256 + b) rest w) := by
  have HR := Aside0.mk hR
  have HN := Aside0.mk (get_two a b ha ha2 hb hb2)
  clear hR
  go_enter Tryd.func67, Tryd.ntmps67
  go_wp2_with (fail)
  refine (take_ok g 2 (a :: b :: rest) w HR.out (by simp)).mono ?_
  rintro e w1 ⟨A, c, rfl, hB, hI, hF⟩
  have HI := Aside0.mk hI
  have HF := Aside0.mk hF
  have HC := Aside0.mk (show Kd.C (Kd.int .u8) w1 A [a, b].length [a, b] from Kd.C_of_reads (enc := Value.int .u8) (d := (0 : Int)) (h1 := fun _ => rfl) hB.1)
  have hc2 : [a, b].length ≤ c := hB.2.1
  clear hB hI hF
  go_wp2_with (fail)
  refine (num_Get.calls 10 A c [a, b] _ _ w1 HC.out hc2 HN.out).mono ?_
  rintro e w2 ⟨rfl, hd⟩
  have HD := Aside0.mk hd
  clear hd
  go_wp2_with (fail)
  go_ret
  exact ⟨rfl, HI.out.drawn HD.out, HF.out.trans' (FrameS.drawn HD.out)⟩
theorem num_no (g : Nat) (rest : List Int) (w : World) (hR : IsR g rest 0 w) (hn : rest.length < 2) :
    Calls Tryd.prog 67 #[.pointer (some ⟨g, 0, none⟩), .int .i64 2] w (fewP w) := by
  have HR := Aside0.mk hR
  clear hR
  go_enter Tryd.func67, Tryd.ntmps67
  go_wp2_with (fail)
  refine (take_no g 2 rest w HR.out hn (by omega)).mono ?_
  rintro e w1 ⟨rfl, rfl⟩
  go_wp2_with (fail)
  exact ⟨rfl, rfl, rfl⟩
/-- A captured variable that holds v, apart from the Reader. -/
def Var1 (b g : Nat) (T : TypeId) (v : Value) (w : World) : Prop := w.heap[b]? = some (.cells #[v] T (0, 0)) ∧ b ≠ g
theorem Var1.cell {b g : Nat} {T : TypeId} {v : Value} {w : World} (h : Var1 b g T v w) : w.cell? ⟨b, 0, none⟩ = some v := by simp [World.cell?, h.1]
theorem Var1.frozen {b g : Nat} {T : TypeId} {v : Value} {w : World} (h : Var1 b g T v w) : w.frozen? ⟨b, 0, none⟩ = false := by simp [World.frozen?, h.1]
theorem Var1.lt {b g : Nat} {T : TypeId} {v : Value} {w : World} (h : Var1 b g T v w) : b < w.heap.size := (Array.getElem?_eq_some_iff.1 h.1).1
theorem Var1.kept {b g : Nat} {T : TypeId} {v : Value} {w w' : World} (h : Var1 b g T v w) (hF : FrameS (fun k => k = g) w w') : Var1 b g T v w' := ⟨(hF.block b h.lt h.2).trans h.1, h.2⟩
theorem Var1.below {b g : Nat} {T : TypeId} {v : Value} {w w' : World} (h : Var1 b g T v w) (hB : Below w.heap.size w w') : Var1 b g T v w' := ⟨(hB.block b h.lt).trans h.1, h.2⟩
theorem Var1.set {b g : Nat} {T : TypeId} {v : Value} {w : World} (h : Var1 b g T v w) (u : Value) : Var1 b g T u (w.setCell ⟨b, 0, none⟩ u) := ⟨heap_setCell_same h.1, h.2⟩
theorem Var1.only {b g : Nat} {T : TypeId} {v u : Value} {w : World} (h : Var1 b g T v w) {p : Addr} (hc : w.cell? p = some u) (hp : p.block = b) : u = v := by
  subst hp
  simp only [World.cell?, h.1] at hc
  split at hc
  · cases hc
  · obtain ⟨hlt, e⟩ := Array.getElem?_eq_some_iff.1 hc
    simp at hlt
    simp [hlt] at e
    exact e.symm
theorem IsR.lt {g : Nat} {rest : List Int} {f : Int} {w : World} (h : IsR g rest f w) : g < w.heap.size := by
  obtain ⟨A, c, h, _⟩ := h
  exact (Array.getElem?_eq_some_iff.1 h).1
theorem IsR.below {g : Nat} {rest : List Int} {f : Int} {w w' : World} (h : IsR g rest f w) (hB : Below w.heap.size w w') : IsR g rest f w' := by
  have hl := h.lt
  obtain ⟨A, c, h, hr, hc⟩ := h
  exact ⟨A, c, (hB.block g hl).trans h, hr.below hB, hc.1, fun ad e hp => by
    obtain ⟨h1, cs, h2⟩ := hc.2 ad e hp
    exact ⟨h1, cs, (hB.block _ (Array.getElem?_eq_some_iff.1 h2).1).trans h2⟩⟩
/-- A store into another block of one slice. -/
theorem IsR.far {g b : Nat} {rest : List Int} {f : Int} {w : World} (h : IsR g rest f w) {T : TypeId} {v u : Value} (hv : Var1 b g T v w) (hT : ∀ k z, v ≠ .int k z) : IsR g rest f (w.setCell ⟨b, 0, none⟩ u) := by
  obtain ⟨A, c, h, hr, hc, hA⟩ := h
  have hne : ∀ ad, A = some ad → ∀ j, j < rest.length → (ad.add j).block ≠ b := fun ad e j hj e2 => by
    obtain ⟨ad', e', hcell⟩ := hr.2.2 (by omega)
    rw [e] at e'
    cases e'
    exact hT _ _ (hv.only (hcell j hj) e2).symm
  refine ⟨A, c, (Below.heap_setCell _ _ _ _ (fun e => hv.2 e.symm)).trans h, ⟨hr.1, hr.2.1, fun hp => ?_⟩, hc, fun ad e hp => ?_⟩
  · obtain ⟨ad, e, hcell⟩ := hr.2.2 hp
    exact ⟨ad, e, fun j hj => (World.cell?_of_block (w := w) (Below.heap_setCell _ _ _ _ (hne ad e j hj))).trans (hcell j hj)⟩
  · obtain ⟨h1, cs, h2⟩ := hA ad e hp
    have h3 := hne ad e 0 hp
    rw [Mem.Addr.add_block] at h3
    exact ⟨h1, cs, (Below.heap_setCell _ _ _ _ h3).trans h2⟩
/-- A store into a row of rows, or of anything that is no byte. -/
theorem IsR.grown {g b : Nat} {rest : List Int} {f : Int} {w w1 : World} (h : IsR g rest f w) (hg : w.grownBy w1 (some b)) (hb : b ≠ g) {cells : Array Value} {T : TypeId} (hT : w.heap[b]? = some (.cells cells T (0, 0))) (hT5 : T ≠ 5) : IsR g rest f w1 := by
  have hl := h.lt
  obtain ⟨A, c, h, hr, hc, hA⟩ := h
  have hne : ∀ ad, A = some ad → 0 < rest.length → ad.block ≠ b ∧ ad.block < w.heap.size := fun ad e hp => by
    obtain ⟨_, cs, h2⟩ := hA ad e hp
    refine ⟨fun e2 => ?_, (Array.getElem?_eq_some_iff.1 h2).1⟩
    rw [e2, hT] at h2
    injection h2 with h2
    injection h2 with _ h2
    exact hT5 h2
  refine ⟨A, c, (hg.block g hl (by simpa using hb.symm)).trans h, ⟨hr.1, hr.2.1, fun hp => ?_⟩, hc, fun ad e hp => ?_⟩
  · obtain ⟨ad, e, hcell⟩ := hr.2.2 hp
    obtain ⟨h3, h4⟩ := hne ad e hp
    exact ⟨ad, e, fun j hj => (World.cell?_of_block (w := w) (hg.block _ (by rw [Mem.Addr.add_block]; exact h4) (by rw [Mem.Addr.add_block]; simpa using h3))).trans (hcell j hj)⟩
  · obtain ⟨h1, cs, h2⟩ := hA ad e hp
    obtain ⟨h3, h4⟩ := hne ad e hp
    exact ⟨h1, cs, (hg.block _ h4 (by simpa using h3)).trans h2⟩
def cloK (g rb lb bb : Nat) (limit : Int) (v : Value) (w : World) : Prop := Var1 rb g 66 (.pointer (some ⟨g, 0, none⟩)) w ∧ Var1 lb g 3 (.int .i64 limit) w ∧ Var1 bb g 25 v w
def CloOk (g bb n : Nat) (rest : List Int) (w : World) (e : Ending) (w' : World) : Prop :=
  e = .returned (.tuple #[]) ∧ ∃ v, Var1 bb g 25 v w' ∧ Kd.R (Kd.int .u8) 5 w' w.heap.size (fun _ => True) v (rest.take n) ∧ IsR g (rest.drop n) 0 w' ∧ FrameS (fun k => k = g ∨ k = bb) w w'
def CloNo (g : Nat) (w : World) (e : Ending) (w' : World) : Prop :=
  e = .panicked [{ v := fewV, recovered := false }] ∧ (∃ rest, IsR g rest 0 w') ∧ FrameS (fun k => k = g) w w'
set_option maxHeartbeats 800000 in
theorem clo_ok (g rb lb bb : Nat) (limit : Int) (a b : Int) (n : Nat) (rest : List Int) (w : World) (hK : cloK g rb lb bb limit (.slice none 0 0) w) (hR : IsR g (a :: b :: rest) 0 w)
    (ha : 0 ≤ a) (ha2 : a < 256) (hb : 0 ≤ b) (hb2 : b < 256) (hn : a * 256 + b = (n : Int)) (hl : (n : Int) ≤ limit) (hnr : n ≤ rest.length) (hnl : rest.length ≤ 140737488355328) :
    Calls Tryd.prog 66 #[.pointer (some ⟨rb, 0, none⟩), .pointer (some ⟨lb, 0, none⟩), .pointer (some ⟨bb, 0, none⟩)] w (CloOk g bb n rest w) := by
  have HR := Aside0.mk hR
  have HN := Aside0.mk hn
  obtain ⟨h1, h2, h3⟩ := hK
  have c1 := h1.cell
  have H1 := Aside0.mk h1
  have H2 := Aside0.mk h2
  have H3 := Aside0.mk h3
  have hn3 : n ≤ 65535 := by omega
  clear hR hn h1 h2 h3
  have hd : decide (limit < (n : Int)) = false := decide_eq_false (by omega)
  go_enter Tryd.func66, Tryd.ntmps66
  go_wp2_with (fail)
  refine (num_ok g a b rest w HR.out ha ha2 hb hb2).mono ?_
  rintro e w1 ⟨he, hI, hF⟩
  rw [HN.out] at he
  subst he
  have hv1 := H1.out.kept hF
  have hv2 := H2.out.kept hF
  have hv3 := H3.out.kept hF
  have c11 := hv1.cell
  have c12 := hv2.cell
  have c13 := hv3.cell
  have HI := Aside0.mk hI
  have HF := Aside0.mk hF
  have H1' := Aside0.mk hv1
  have H3' := Aside0.mk hv3
  clear hI hF hv1 hv2 hv3 c1
  go_wp2_with (fail)
  refine (take_ok g n rest w1 HI.out hnr).mono ?_
  rintro e w2 ⟨A, c, rfl, hB, hI, hF⟩
  have hv3 := H3'.out.kept hF
  have c23 := hv3.cell
  have HI2 := Aside0.mk hI
  have HF2 := Aside0.mk (HF.out.trans' hF)
  have H32 := Aside0.mk hv3
  have hl3 : (rest.take n).length = n := by simp; omega
  have HC := Aside0.mk hB.1
  have HL3 := Aside0.mk hl3
  clear hI hF hB hl3 hv3 c11 c12 c13
  go_wp2_with (fail)
  have hcl := Clone_bytes A c (rest.take n) w2 HC.out (by rw [HL3.out]; omega)
  rw [HL3.out] at hcl
  refine hcl.mono ?_
  rintro e w3 ⟨v1, rfl, hr, hb⟩
  have HR3 := Aside0.mk hr
  obtain ⟨A3, c3, rfl, _, _⟩ := Kd.R_reads hr
  have hv3 := H32.out.below hb
  have HZ := Aside0.mk (H32.out.lt)
  have c33 := hv3.cell
  have f33 := hv3.frozen
  have HI3 := Aside0.mk (HI2.out.below hb)
  have HF3 := Aside0.mk (HF2.out.trans' (FrameS.of_below hb _))
  have H33 := Aside0.mk hv3
  have HZW := Aside0.mk HF2.out.size
  clear hr hb hv3 hcl c23
  go_wp2_with (fail)
  go_end0
  refine ⟨rfl, _, H33.out.set _, ?_, HI3.out.far H33.out (by intro k z h; cases h) , (HF3.out.mono (fun k _ h => .inl h)).setCell (p := ⟨bb, 0, none⟩) (.inl (.inr rfl)) _⟩
  have h1 := Kd.R_far (Kd.R_bound HR3.out) (p := ⟨bb, 0, none⟩) (fun k hk e => by have := hk.2.1; have := HZ.out; simp at e; omega) (.slice A3 (rest.take n).length c3)
  rw [HL3.out] at h1
  exact Kd.R_lower (Kd.R_mono h1 (fun _ _ => trivial)) HZW.out
/-- The closure panics: too few bytes for the length. -/
theorem clo_no1 (g rb lb bb : Nat) (limit : Int) (rest : List Int) (w : World) (hK : cloK g rb lb bb limit (.slice none 0 0) w) (hR : IsR g rest 0 w) (hn : rest.length < 2) :
    Calls Tryd.prog 66 #[.pointer (some ⟨rb, 0, none⟩), .pointer (some ⟨lb, 0, none⟩), .pointer (some ⟨bb, 0, none⟩)] w (CloNo g w) := by
  have HR := Aside0.mk hR
  obtain ⟨h1, h2, h3⟩ := hK
  have c1 := h1.cell
  clear hR h1 h2 h3
  go_enter Tryd.func66, Tryd.ntmps66
  go_wp2_with (fail)
  refine (num_no g rest w HR.out hn).mono ?_
  rintro e w1 ⟨rfl, rfl⟩
  go_wp2_with (fail)
  exact ⟨rfl, rfl, ⟨_, HR.out⟩, FrameS.refl _ _⟩
/-- .. or more bytes than may be, or than there are. -/
theorem clo_no2 (g rb lb bb : Nat) (limit : Int) (a b : Int) (n : Nat) (rest : List Int) (w : World) (hK : cloK g rb lb bb limit (.slice none 0 0) w) (hR : IsR g (a :: b :: rest) 0 w)
    (ha : 0 ≤ a) (ha2 : a < 256) (hb : 0 ≤ b) (hb2 : b < 256) (hn : a * 256 + b = (n : Int)) (hl : limit < n) :
    Calls Tryd.prog 66 #[.pointer (some ⟨rb, 0, none⟩), .pointer (some ⟨lb, 0, none⟩), .pointer (some ⟨bb, 0, none⟩)] w (CloNo g w) := by
  have HR := Aside0.mk hR
  have HN := Aside0.mk hn
  obtain ⟨h1, h2, h3⟩ := hK
  have c1 := h1.cell
  have H2 := Aside0.mk h2
  have hn3 : n ≤ 65535 := by omega
  clear hR hn h1 h2 h3
  have hd : decide (limit < (n : Int)) = true := decide_eq_true hl
  go_enter Tryd.func66, Tryd.ntmps66
  go_wp2_with (fail)
  refine (num_ok g a b rest w HR.out ha ha2 hb hb2).mono ?_
  rintro e w1 ⟨he, hI, hF⟩
  rw [HN.out] at he
  subst he
  have hv2 := H2.out.kept hF
  have c12 := hv2.cell
  have HI := Aside0.mk hI
  have HF := Aside0.mk hF
  clear hI hF hv2 c1
  go_wp2_with (fail)
  exact ⟨rfl, rfl, ⟨_, HI.out⟩, HF.out⟩
theorem clo_no3 (g rb lb bb : Nat) (limit : Int) (a b : Int) (n : Nat) (rest : List Int) (w : World) (hK : cloK g rb lb bb limit (.slice none 0 0) w) (hR : IsR g (a :: b :: rest) 0 w)
    (ha : 0 ≤ a) (ha2 : a < 256) (hb : 0 ≤ b) (hb2 : b < 256) (hn : a * 256 + b = (n : Int)) (hl : (n : Int) ≤ limit) (hnr : rest.length < n) :
    Calls Tryd.prog 66 #[.pointer (some ⟨rb, 0, none⟩), .pointer (some ⟨lb, 0, none⟩), .pointer (some ⟨bb, 0, none⟩)] w (CloNo g w) := by
  have HR := Aside0.mk hR
  have HN := Aside0.mk hn
  obtain ⟨h1, h2, h3⟩ := hK
  have c1 := h1.cell
  have H1 := Aside0.mk h1
  have H2 := Aside0.mk h2
  have hn3 : n ≤ 65535 := by omega
  clear hR hn h1 h2 h3
  have hd : decide (limit < (n : Int)) = false := decide_eq_false (by omega)
  go_enter Tryd.func66, Tryd.ntmps66
  go_wp2_with (fail)
  refine (num_ok g a b rest w HR.out ha ha2 hb hb2).mono ?_
  rintro e w1 ⟨he, hI, hF⟩
  rw [HN.out] at he
  subst he
  have hv1 := H1.out.kept hF
  have hv2 := H2.out.kept hF
  have c11 := hv1.cell
  have c12 := hv2.cell
  have HI := Aside0.mk hI
  have HF := Aside0.mk hF
  clear hI hF hv1 hv2 c1
  go_wp2_with (fail)
  refine (take_no g n rest w1 HI.out hnr hn3).mono ?_
  rintro e w2 ⟨rfl, rfl⟩
  go_wp2_with (fail)
  exact ⟨rfl, rfl, ⟨_, HI.out⟩, HF.out⟩
/-- The deferred closure, entered as a deferred call of a frame that returns: it turns nothing. -/
theorem fin_idle (fb g : Nat) (w : World) :
    CallsD Tryd.prog 81 #[.pointer (some ⟨fb, 0, none⟩)] .returning w fun e u' w' => e = .returned (.tuple #[]) ∧ u' = .returning ∧ w' = w := by
  refine callsD_of_wpS Tryd.func81 rfl fun c₀ cs hu => ?_
  apply wpS_seq
  apply wpS_region
  simp [wpOpsS, go_sem, recoverD, hu, Tryd.ntmps81, Exit.thenS]
  rw [show (#[Value.pointer (some ⟨fb, 0, none⟩)] ++ ((Array.replicate 13 undef).setIfInBounds 1 Value.nilIface).setIfInBounds 0 Value.nilIface) = #[Value.pointer (some ⟨fb, 0, none⟩), .nilIface, .nilIface, undef, undef, undef, undef, undef, undef, undef, undef, undef, undef, undef] from rfl]
  refine wpS_of_wp ?_
  go_wp2_with (fail)
  cases c₀
  simp_all [bodyPostS, results, Tryd.results81]
def FinP (g : Nat) (w : World) (e : Ending) (u' : FrameMode) (w' : World) : Prop :=
  e = .returned (.tuple #[]) ∧ u' = .panicking [{ v := fewV, recovered := true }] ∧ IsR g [] 4 w' ∧ FrameS (fun k => k = g) w w'
theorem fin_panic (fb g : Nat) (rest : List Int) (w : World) (hF : Var1 fb g 66 (.pointer (some ⟨g, 0, none⟩)) w) (hR : IsR g rest 0 w) :
    CallsD Tryd.prog 81 #[.pointer (some ⟨fb, 0, none⟩)] (.panicking [{ v := fewV, recovered := false }]) w (FinP g w) := by
  have c1 := hF.cell
  obtain ⟨A, c, hg, hr⟩ := hR
  have g0 : w.cell? ⟨g, 0, none⟩ = some (.slice A rest.length c) := by simp [World.cell?, hg]
  have g1 : w.cell? ⟨g, 1, none⟩ = some (.int .i64 0) := by simp [World.cell?, hg]
  have z0 : w.frozen? ⟨g, 0, none⟩ = false := by simp [World.frozen?, hg]
  have z1 : w.frozen? ⟨g, 1, none⟩ = false := by simp [World.frozen?, hg]
  have HG := Aside0.mk hg
  clear hF hg hr
  refine callsD_of_wpS Tryd.func81 rfl fun c₀ cs hu => ?_
  have HU := Aside0.mk hu
  apply wpS_seq
  apply wpS_region
  simp [wpOpsS, go_sem, recoverD, hu, Tryd.ntmps81, Exit.thenS, fewV]
  clear hu
  rw [show (#[Value.pointer (some ⟨fb, 0, none⟩)] ++ ((Array.replicate 13 undef).setIfInBounds 1 (Value.iface 97 (.agg #[.int .i64 4]))).setIfInBounds 0 (Value.iface 97 (.agg #[.int .i64 4]))) = #[Value.pointer (some ⟨fb, 0, none⟩), Value.iface 97 (.agg #[.int .i64 4]), Value.iface 97 (.agg #[.int .i64 4]), undef, undef, undef, undef, undef, undef, undef, undef, undef, undef, undef] from rfl]
  refine wpS_of_wp ?_
  have hta : ∀ W : World, (Instr.typeAssert (Value.iface 97 (.agg #[.int .i64 4])) 20 97 false).run Tryd.prog W = .ok (.agg #[.int .i64 4]) W := fun W => by kernel_rfl
  have hfi : ∀ W : World, (Instr.field 97 (.agg #[.int .i64 4]) 0).run Tryd.prog W = .ok (.int .i64 4) W := fun W => by kernel_rfl
  go_wp2_with (fail)
  go_region
  refine ⟨rfl, _, rfl, .tuple #[], results_none rfl _ _ _, rfl, rfl, ⟨none, 0, ?_, ⟨rfl, by simp, fun h => absurd h (by simp)⟩, by simp, fun _ e => by cases e⟩, ?_⟩
  · show ((w.setCell ⟨g, 1, none⟩ (.int .i64 4)).setCell ⟨g, 0, none⟩ (.slice none 0 0)).heap[g]? = _
    simp only [World.setCell, Array.getElem?_modify, if_true, HG.out, Option.map_some]
    rfl
  · exact (((FrameS.refl (fun k => k = g) w).setCell (p := ⟨g, 1, none⟩) (.inl rfl) _).setCell (p := ⟨g, 0, none⟩) (.inl rfl) _).drew
def fldK (g rb lb bb : Nat) (limit : Int) (w : World) : Prop := cloK g rb lb bb limit (.slice none 0 0) w
/-- field: the closure is called; what it panics with is taken up. -/
def FieldP (g bb : Nat) (got rest' : List Int) (f : Int) (w : World) (e : Ending) (w' : World) : Prop :=
  e = .returned (.tuple #[]) ∧ ∃ v, Var1 bb g 25 v w' ∧ Kd.R (Kd.int .u8) 5 w' w.heap.size (fun _ => True) v got ∧ IsR g rest' f w' ∧ FrameS (fun k => k = g ∨ k = bb) w w'
theorem field_odd (g bb : Nat) (clo : Value) (rest : List Int) (f : Int) (w : World) (hf : f ≠ 0) (hR : IsR g rest f w) (hV : Var1 bb g 25 (.slice none 0 0) w) :
    Calls Tryd.prog 65 #[.pointer (some ⟨g, 0, none⟩), clo] w (FieldP g bb [] rest f w) := by
  have HR := Aside0.mk hR
  have HV := Aside0.mk hV
  obtain ⟨A, c, hg, hr⟩ := hR
  have hlt : g < w.heap.size := (Array.getElem?_eq_some_iff.1 hg).1
  have g1 : w.cell? ⟨g, 1, none⟩ = some (.int .i64 f) := by simp [World.cell?, hg]
  have hne : (f != 0) = true := by simpa using hf
  clear hg hr hV hf
  have hmf : ∀ (fn : Fn) (first cap : Array Value) (w : World), (Instr.makeFunc fn first cap).run Tryd.prog w = .ok (.func fn first cap) w := fun _ _ _ _ => rfl
  have hnn : ∀ W, Sem.run Tryd.prog (binOp .eql 66 (.pointer (some ⟨g, 0, none⟩)) (.pointer none)) W = .ok (.bool false) W := fun W => by kernel_rfl
  go_enter_defers Tryd.func65, Tryd.ntmps65
  go_wp2_with (fail)
  refine ⟨_, results_none rfl _ _ _, rfl, _, HV.out.below (below_alloc (Below.refl _ _) _), Kd.R_nil _ _ _ _ _, HR.out.below (below_alloc (Below.refl _ _) _), FrameS.alloc_pre _ _ _⟩
theorem cloK.below {g rb lb bb : Nat} {limit : Int} {v : Value} {w w' : World} (h : cloK g rb lb bb limit v w) (hB : Below w.heap.size w w') : cloK g rb lb bb limit v w' := ⟨h.1.below hB, h.2.1.below hB, h.2.2.below hB⟩
def cloV (rb lb bb : Nat) : Value := .func (.func 66) #[] #[.pointer (some ⟨rb, 0, none⟩), .pointer (some ⟨lb, 0, none⟩), .pointer (some ⟨bb, 0, none⟩)]
theorem field_ok (g rb lb bb n : Nat) (limit : Int) (rest rest0 : List Int) (w : World) (hR : IsR g rest0 0 w) (hK : cloK g rb lb bb limit (.slice none 0 0) w)
    (hC : ∀ W, IsR g rest0 0 W → cloK g rb lb bb limit (.slice none 0 0) W → Calls Tryd.prog 66 #[.pointer (some ⟨rb, 0, none⟩), .pointer (some ⟨lb, 0, none⟩), .pointer (some ⟨bb, 0, none⟩)] W (CloOk g bb n rest W)) :
    Calls Tryd.prog 65 #[.pointer (some ⟨g, 0, none⟩), .func (.func 66) #[] #[.pointer (some ⟨rb, 0, none⟩), .pointer (some ⟨lb, 0, none⟩), .pointer (some ⟨bb, 0, none⟩)]] w (FieldP g bb (rest.take n) (rest.drop n) 0 w) := by
  have HR := Aside0.mk (hR.below (below_alloc (Below.refl _ _) (.cells #[.pointer (some ⟨g, 0, none⟩)] 66)))
  have HK := Aside0.mk (hK.below (below_alloc (Below.refl _ _) (.cells #[.pointer (some ⟨g, 0, none⟩)] 66)))
  have HC := Aside0.mk hC
  have hlt := hR.lt
  obtain ⟨A, c, hg, hr⟩ := hR
  have g1 : w.cell? ⟨g, 1, none⟩ = some (.int .i64 0) := by simp [World.cell?, hg]
  clear hg hr hK hC
  have hmf : ∀ (fn : Fn) (first cap : Array Value) (w : World), (Instr.makeFunc fn first cap).run Tryd.prog w = .ok (.func fn first cap) w := fun _ _ _ _ => rfl
  have hnn : ∀ W, Sem.run Tryd.prog (binOp .eql 66 (.pointer (some ⟨g, 0, none⟩)) (.pointer none)) W = .ok (.bool false) W := fun W => by kernel_rfl
  go_enter_defers Tryd.func65, Tryd.ntmps65
  go_wp2_with (fail)
  refine (HC.out _ HR.out HK.out).mono ?_
  rintro e w1 ⟨rfl, v, hv, hr, hi, hF⟩
  have HP := Aside0.mk (And.intro hv (And.intro hr (And.intro hi hF)))
  clear hv hr hi hF
  go_wp2_with (fail)
  refine leaves_cons (f := 81) (args := #[.pointer (some ⟨w.heap.size, 0, none⟩)]) (by simp) (by simp [go_sem]) ?_
  refine (fin_idle w.heap.size g _).mono ?_
  rintro e u' w2 ⟨rfl, rfl, rfl⟩
  refine ⟨_, results_none rfl _ _ _, rfl, v, HP.out.1, ?_, HP.out.2.2.1, (FrameS.alloc_pre _ _ _).trans' HP.out.2.2.2⟩
  exact Kd.R_lower HP.out.2.1 (by simp)
theorem field_no (g rb lb bb : Nat) (limit : Int) (rest0 : List Int) (w : World) (hR : IsR g rest0 0 w) (hK : cloK g rb lb bb limit (.slice none 0 0) w)
    (hC : ∀ W, IsR g rest0 0 W → cloK g rb lb bb limit (.slice none 0 0) W → Calls Tryd.prog 66 #[.pointer (some ⟨rb, 0, none⟩), .pointer (some ⟨lb, 0, none⟩), .pointer (some ⟨bb, 0, none⟩)] W (CloNo g W)) :
    Calls Tryd.prog 65 #[.pointer (some ⟨g, 0, none⟩), .func (.func 66) #[] #[.pointer (some ⟨rb, 0, none⟩), .pointer (some ⟨lb, 0, none⟩), .pointer (some ⟨bb, 0, none⟩)]] w (FieldP g bb [] [] 4 w) := by
  have HR := Aside0.mk (hR.below (below_alloc (Below.refl _ _) (.cells #[.pointer (some ⟨g, 0, none⟩)] 66)))
  have HK := Aside0.mk (hK.below (below_alloc (Below.refl _ _) (.cells #[.pointer (some ⟨g, 0, none⟩)] 66)))
  have HC := Aside0.mk hC
  have hlt := hR.lt
  obtain ⟨A, c, hg, hr⟩ := hR
  have g1 : w.cell? ⟨g, 1, none⟩ = some (.int .i64 0) := by simp [World.cell?, hg]
  clear hg hr hK hC
  have hmf : ∀ (fn : Fn) (first cap : Array Value) (w : World), (Instr.makeFunc fn first cap).run Tryd.prog w = .ok (.func fn first cap) w := fun _ _ _ _ => rfl
  have hnn : ∀ W, Sem.run Tryd.prog (binOp .eql 66 (.pointer (some ⟨g, 0, none⟩)) (.pointer none)) W = .ok (.bool false) W := fun W => by kernel_rfl
  have hV : Var1 w.heap.size g 66 (.pointer (some ⟨g, 0, none⟩)) (w.alloc (.cells #[.pointer (some ⟨g, 0, none⟩)] 66)) := ⟨heap_alloc_new w _, by omega⟩
  have HV := Aside0.mk hV
  clear hV
  go_enter_defers Tryd.func65, Tryd.ntmps65
  go_wp2_with (fail)
  refine (HC.out _ HR.out HK.out).mono ?_
  rintro e w1 ⟨rfl, ⟨rest1, hi⟩, hF⟩
  have HP := Aside0.mk (And.intro hi hF)
  clear hi hF
  go_wp2_with (fail)
  refine leaves_cons (f := 81) (args := #[.pointer (some ⟨w.heap.size, 0, none⟩)]) (by simp) (by simp [go_sem]) ?_
  refine (fin_panic w.heap.size g rest1 _ (HV.out.kept HP.out.2) HP.out.1).mono ?_
  rintro e u' w2 ⟨rfl, rfl, hi2, hF2⟩
  refine ⟨_, results_none rfl _ _ _, rfl, _, (HK.out.2.2.kept HP.out.2).kept hF2, Kd.R_nil _ _ _ _ _, hi2, ?_⟩
  exact ((FrameS.alloc_pre _ _ _).trans' (HP.out.2.mono (fun k _ h => .inl h))).trans' (hF2.mono (fun k _ h => .inl h))
/-- What Bytes(limit) reads of what is left: the bytes, what is left then, the fault. -/
def rdBytes (limit : Int) : List Int → List Int × List Int × Int
  | a :: b :: rest => if a * 256 + b ≤ limit ∧ a * 256 + b ≤ rest.length then (rest.take (a * 256 + b).toNat, rest.drop (a * 256 + b).toNat, 0) else ([], [], 4)
  | _ => ([], [], 4)
def byteL (l : List Int) : Prop := ∀ x ∈ l, 0 ≤ x ∧ x < 256
theorem field_all (g rb lb bb : Nat) (limit : Int) (rest : List Int) (w : World) (hR : IsR g rest 0 w) (hK : cloK g rb lb bb limit (.slice none 0 0) w) (hB : byteL rest) (hnl : rest.length ≤ 140737488355328) :
    Calls Tryd.prog 65 #[.pointer (some ⟨g, 0, none⟩), .func (.func 66) #[] #[.pointer (some ⟨rb, 0, none⟩), .pointer (some ⟨lb, 0, none⟩), .pointer (some ⟨bb, 0, none⟩)]] w
      (FieldP g bb (rdBytes limit rest).1 (rdBytes limit rest).2.1 (rdBytes limit rest).2.2 w) := by
  match rest, hB, hnl, hR with
  | [], _, _, hR => exact field_no g rb lb bb limit [] w hR hK (fun W h k => clo_no1 g rb lb bb limit _ W k h (by simp))
  | [a], _, _, hR => exact field_no g rb lb bb limit [a] w hR hK (fun W h k => clo_no1 g rb lb bb limit _ W k h (by simp))
  | a :: b :: rest, hB, hnl, hR =>
    obtain ⟨ha, ha2⟩ := hB a (by simp)
    obtain ⟨hb, hb2⟩ := hB b (by simp)
    obtain ⟨n, hn⟩ := Int.eq_ofNat_of_zero_le (show 0 ≤ a * 256 + b by omega)
    simp only [List.length_cons] at hnl
    simp only [rdBytes, hn]
    by_cases hl : (n : Int) ≤ limit
    · by_cases hr : n ≤ rest.length
      · rw [if_pos ⟨hl, by omega⟩]
        exact field_ok g rb lb bb n limit rest (a :: b :: rest) w hR hK (fun W h k => clo_ok g rb lb bb limit a b n rest W k h ha ha2 hb hb2 hn hl hr (by omega))
      · rw [if_neg (by omega)]
        exact field_no g rb lb bb limit (a :: b :: rest) w hR hK (fun W h k => clo_no3 g rb lb bb limit a b n rest W k h ha ha2 hb hb2 hn hl (by omega))
    · rw [if_neg (by omega)]
      exact field_no g rb lb bb limit (a :: b :: rest) w hR hK (fun W h k => clo_no2 g rb lb bb limit a b n rest W k h ha ha2 hb hb2 hn (by omega))
end Go.Proofs.YtloagejeeakikaaDoor.QB
namespace Go.Proofs.YtloagejeeakikaaDoor.QB
open Go.RowKit Go.Proofs.YtloagejeeakikaaDoorW.PrintWords Go.Proofs.YtloagejeeakikaaDoorW.PrintLast Go.Proofs.YtloagejeeakikaaDoorW.PrintMore
open Go.Proofs.YtloagejeeakikaaDoor.Mem
set_option linter.unusedVariables false
set_option linter.unusedSimpArgs false
/-- A Reader's state: what is left, its fault (the fault lies among the bytes' fate). -/
def rdStep (limit : Int) (rest : List Int) (f : Int) : List Int × List Int × Int := if f = 0 then rdBytes limit rest else ([], rest, f)
def RBytes (g : Nat) (got rest' : List Int) (f : Int) (w : World) (e : Ending) (w' : World) : Prop :=
  ∃ v, e = .returned v ∧ Kd.R (Kd.int .u8) 5 w' w.heap.size (fun _ => True) v got ∧ IsR g rest' f w' ∧ FrameS (fun k => k = g) w w'
theorem results_cellBytes {fn : Func} {t : Tmp} (h : fn.results = #[.cell t 25]) (tmps : Array Value) (w : World) (p : Addr) (hp : tmps.getD t undef = .pointer (some p)) {v : Value} (hc : w.cell? p = some v) :
    (results fn tmps).run Tryd.prog w = .ok v w := by
  have hu := Tryd.underlying25
  simp [results, h]
  rw [show tmps[t]?.getD undef = .pointer (some p) by simpa using hp]
  go_simp
theorem field_step (g rb lb bb : Nat) (limit : Int) (rest : List Int) (f : Int) (w : World) (hR : IsR g rest f w) (hK : cloK g rb lb bb limit (.slice none 0 0) w) (hB : byteL rest) (hnl : rest.length ≤ 140737488355328) :
    Calls Tryd.prog 65 #[.pointer (some ⟨g, 0, none⟩), .func (.func 66) #[] #[.pointer (some ⟨rb, 0, none⟩), .pointer (some ⟨lb, 0, none⟩), .pointer (some ⟨bb, 0, none⟩)]] w
      (FieldP g bb (rdStep limit rest f).1 (rdStep limit rest f).2.1 (rdStep limit rest f).2.2 w) := by
  unfold rdStep
  by_cases hf : f = 0
  · subst hf
    rw [if_pos rfl]
    exact field_all g rb lb bb limit rest _ hR hK hB hnl
  · rw [if_neg hf]
    exact field_odd g bb _ rest f _ hf hR hK.2.2
theorem Reader_Bytes (g : Nat) (limit : Int) (rest : List Int) (f : Int) (w : World) (hR : IsR g rest f w) (hB : byteL rest) (hnl : rest.length ≤ 140737488355328) :
    Calls Tryd.prog 44 #[.pointer (some ⟨g, 0, none⟩), .int .i64 limit] w (RBytes g (rdStep limit rest f).1 (rdStep limit rest f).2.1 (rdStep limit rest f).2.2 w) := by
  have hlt := hR.lt
  have hw3 : Below w.heap.size w (((w.alloc (.cells #[.pointer (some ⟨g, 0, none⟩)] 66)).alloc (.cells #[.int .i64 limit] 3)).alloc (.cells #[.slice none 0 0] 25)) := below_alloc (below_alloc (below_alloc (Below.refl _ _) _) _) _
  have hK : cloK g w.heap.size (w.heap.size + 1) (w.heap.size + 1 + 1) limit (.slice none 0 0) (((w.alloc (.cells #[.pointer (some ⟨g, 0, none⟩)] 66)).alloc (.cells #[.int .i64 limit] 3)).alloc (.cells #[.slice none 0 0] 25)) := by
    refine ⟨⟨?_, by omega⟩, ⟨?_, by omega⟩, ⟨?_, by omega⟩⟩
    · rw [Below.heap_alloc _ _ _ (by simp; omega), Below.heap_alloc _ _ _ (by simp)]
      exact heap_alloc_new _ _
    · rw [Below.heap_alloc _ _ _ (by simp)]
      have := heap_alloc_new (w.alloc (.cells #[.pointer (some ⟨g, 0, none⟩)] 66)) (.cells #[.int .i64 limit] 3)
      simpa using this
    · have := heap_alloc_new ((w.alloc (.cells #[.pointer (some ⟨g, 0, none⟩)] 66)).alloc (.cells #[.int .i64 limit] 3)) (.cells #[.slice none 0 0] 25)
      simpa using this
  have HK := Aside0.mk hK
  have HR := Aside0.mk (hR.below hw3)
  have HB := Aside0.mk hB
  have HL := Aside0.mk hnl
  have HW3 := Aside0.mk hw3
  clear hK hR hB hnl hw3
  have hmf : ∀ (fn : Fn) (first cap : Array Value) (w : World), (Instr.makeFunc fn first cap).run Tryd.prog w = .ok (.func fn first cap) w := fun _ _ _ _ => rfl
  go_enter Tryd.func44, Tryd.ntmps44
  go_wp2_with (fail)
  refine (field_step g w.heap.size (w.heap.size + 1) (w.heap.size + 1 + 1) limit rest f _ HR.out HK.out HB.out HL.out).mono ?_
  rintro e w1 ⟨rfl, v, hv, hr, hi, hF⟩
  obtain ⟨A3, c3, rfl, _, _⟩ := Kd.R_reads hr
  have hc1 := hv.cell
  have hf1 := hv.frozen
  have hlt1 := hv.lt
  have HP := Aside0.mk (And.intro hv (And.intro hr (And.intro hi hF)))
  clear hv hr hi hF
  go_wp2_with (fail)
  have hset := HP.out.1.set (.slice A3 (rdStep limit rest f).1.length c3)
  refine bodyPost_ret (results_cellBytes rfl _ _ ⟨w.heap.size + 1 + 1, 0, none⟩ rfl hset.cell) rfl ⟨_, rfl, ?_, HP.out.2.2.1.far HP.out.1 (by intro k z h; cases h), ?_⟩
  · have h1 := Kd.R_far (Kd.R_bound HP.out.2.1) (p := ⟨w.heap.size + 1 + 1, 0, none⟩) (fun k hk e => by have := hk.2.1; simp at e this; omega) (.slice A3 (rdStep limit rest f).1.length c3)
    exact Kd.R_lower (Kd.R_mono h1 (fun _ _ => trivial)) (by simp; omega)
  · have h1 := (FrameS.of_below HW3.out (fun k => k = g)).trans HP.out.2.2.2 (fun i hi => hi.elim .inl (fun h => .inr (by omega)))
    exact h1.setCell (p := ⟨w.heap.size + 1 + 1, 0, none⟩) (.inr (by simp; omega)) _
def RText (g : Nat) (got rest' : List Int) (f : Int) (w : World) (e : Ending) (w' : World) : Prop :=
  e = .returned (.string (strOfNums got)) ∧ IsR g rest' f w' ∧ FrameS (fun k => k = g) w w'
theorem Reader_Text (g : Nat) (limit : Int) (rest : List Int) (f : Int) (w : World) (hR : IsR g rest f w) (hB : byteL rest) (hnl : rest.length ≤ 140737488355328) :
    Calls Tryd.prog 47 #[.pointer (some ⟨g, 0, none⟩), .int .i64 limit] w (RText g (rdStep limit rest f).1 (rdStep limit rest f).2.1 (rdStep limit rest f).2.2 w) := by
  have HR := Aside0.mk hR
  have HB := Aside0.mk hB
  have HL := Aside0.mk hnl
  clear hR hB hnl
  go_enter Tryd.func47, Tryd.ntmps47
  go_wp2_with (fail)
  refine (Reader_Bytes g limit rest f w HR.out HB.out HL.out).mono ?_
  rintro e w1 ⟨v, rfl, hr, hi, hF⟩
  obtain ⟨A3, c3, rfl, hc3, hC3⟩ := Kd.R_reads hr
  have HP := Aside0.mk (And.intro hi hF)
  have hcv := string_of_reads (P := Tryd.prog) (src := 25) (dst := 9) (A := A3) (c := c3) Tryd.underlying25 Tryd.underlying5 Tryd.underlying9 (bytes_C hC3)
  clear hr hi hF hC3
  go_wp2_with (fail)
  go_ret
  exact ⟨rfl, HP.out.1, HP.out.2⟩
def ReadP (l : List Int) (w : World) (e : Ending) (w' : World) : Prop :=
  ∃ g, e = .returned (.pointer (some ⟨g, 0, none⟩)) ∧ IsR g l 0 w' ∧ w.heap.size ≤ g ∧ Below w.heap.size w w'
theorem wire_Read (A : Option Addr) (c : Nat) (l : List Int) (w : World) (hr : Kd.C (Kd.int .u8) w A l.length l) (hl : l.length ≤ 140737488355328) :
    Calls Tryd.prog 43 #[.slice A l.length c] w (ReadP l w) := by
  have HR := Aside0.mk (bytes_C hr)
  have HL := Aside0.mk hl
  clear hr hl
  go_enter Tryd.func43, Tryd.ntmps43
  go_wp2_with (fail)
  refine (Clone_bytes A c l w HR.out HL.out).mono ?_
  rintro e w1 ⟨v, rfl, hr, hb⟩
  obtain ⟨A3, c3, rfl, hc3, hC3⟩ := Kd.R_reads hr
  have HP := Aside0.mk (And.intro hb (And.intro hc3 (bytes_C hC3)))
  have HF := Aside0.mk (fun hp => Kd.R_form hr hp)
  clear hr hb hC3 hc3
  go_wp2_with (fail)
  go_ret
  have hB := below_alloc (Below.refl w1.heap.size w1) (.cells #[.slice A3 l.length c3, .int .i64 0] 93)
  refine ⟨w1.heap.size, rfl, ⟨A3, c3, heap_alloc_new _ _, HP.out.2.2.below hB, HP.out.2.1, fun ad e hp => ?_⟩, HP.out.1.size, below_alloc HP.out.1 _⟩
  obtain ⟨gq, cap, e2, h3, h4, cs, h5⟩ := HF.out hp
  rw [e] at e2
  cases e2
  exact ⟨by show gq ≠ w1.heap.size; omega, cs, (Below.heap_alloc _ _ _ h4).trans h5⟩
theorem Reader_Fault (g : Nat) (rest : List Int) (f : Int) (w : World) (hR : IsR g rest f w) :
    Calls Tryd.prog 69 #[.pointer (some ⟨g, 0, none⟩)] w fun e w' => e = .returned (.int .i64 f) ∧ w = w' := by
  obtain ⟨A, c, hg, hr⟩ := hR
  have g1 : w.cell? ⟨g, 1, none⟩ = some (.int .i64 f) := by simp [World.cell?, hg]
  clear hg hr
  have hnn : ∀ W, Sem.run Tryd.prog (binOp .eql 66 (.pointer (some ⟨g, 0, none⟩)) (.pointer none)) W = .ok (.bool false) W := fun W => by kernel_rfl
  go_enter Tryd.func69, Tryd.ntmps69
  go_wp2_with (fail)
  go_ret
  exact ⟨rfl, rfl⟩
def endF (rest : List Int) (f : Int) : Int := if f = 0 ∧ 0 < rest.length then 4 else f
theorem Reader_End (g : Nat) (rest : List Int) (f : Int) (w : World) (hR : IsR g rest f w) :
    Calls Tryd.prog 46 #[.pointer (some ⟨g, 0, none⟩)] w fun e w' => e = .returned (.int .i64 (endF rest f)) ∧ w = w' := by
  have HR := Aside0.mk hR
  obtain ⟨A, c, hg, hr⟩ := hR
  have g0 : w.cell? ⟨g, 0, none⟩ = some (.slice A rest.length c) := by simp [World.cell?, hg]
  have g1 : w.cell? ⟨g, 1, none⟩ = some (.int .i64 f) := by simp [World.cell?, hg]
  clear hg hr
  have hnn : ∀ W, Sem.run Tryd.prog (binOp .neq 66 (.pointer (some ⟨g, 0, none⟩)) (.pointer none)) W = .ok (.bool true) W := fun W => by kernel_rfl
  by_cases hf : f = 0
  · subst hf
    by_cases hz : 0 < rest.length
    · have h1 : decide (0 < rest.length) = true := decide_eq_true hz
      go_enter Tryd.func46, Tryd.ntmps46
      go_wp2_with (fail)
      go_ret
      exact ⟨by rw [endF, if_pos ⟨rfl, hz⟩]; rfl, rfl⟩
    · have h1 : decide (0 < rest.length) = false := decide_eq_false hz
      go_enter Tryd.func46, Tryd.ntmps46
      go_wp2_with (fail)
      refine (Reader_Fault g rest 0 w HR.out).mono ?_
      rintro e w' ⟨rfl, rfl⟩
      go_wp2_with (fail)
      go_ret
      exact ⟨by rw [endF, if_neg (by omega)]; rfl, rfl⟩
  · have h1 : (f == 0) = false := by simpa using hf
    go_enter Tryd.func46, Tryd.ntmps46
    go_wp2_with (fail)
    refine (Reader_Fault g rest f w HR.out).mono ?_
    rintro e w' ⟨rfl, rfl⟩
    go_wp2_with (fail)
    go_ret
    exact ⟨by rw [endF, if_neg (by omega)]; rfl, rfl⟩
end Go.Proofs.YtloagejeeakikaaDoor.QB
namespace Go.Proofs.YtloagejeeakikaaDoor.QB
open Go.RowKit Go.Proofs.YtloagejeeakikaaDoorW.PrintWords Go.Proofs.YtloagejeeakikaaDoorW.PrintLast Go.Proofs.YtloagejeeakikaaDoorW.PrintMore
open Go.Proofs.YtloagejeeakikaaDoor.Mem
set_option linter.unusedVariables false
set_option linter.unusedSimpArgs false
/-- The bytes of a leaf. -/
def leafB (a0 : ByteArray) (l1 : List Int) : List Int := putB a0.size 2 ++ bytesOf a0 ++ (putB l1.length 2 ++ l1)
def node_EncodeLeaf.f (a0 : ByteArray) (l1 : List Int) : Option (List Int × Int) :=
  if a0.size ≤ 65535 ∧ l1.length ≤ 65535 then (node_leaf.f a0 l1).bind fun t => if t = true then (if a0.toList = [] then some ([], 0) else some (leafB a0 l1, 0)) else some ([], 2) else none
set_option maxHeartbeats 800000 in
theorem node_EncodeLeaf.yes (a0 : ByteArray) (A1 : Option Addr) (c1 : Nat) (l1 : List Int) (w : World) (HLD : Laid w) (hr1 : Kd.C (Kd.int .u8) w A1 l1.length l1) (hc1 : l1.length ≤ c1)
    (h0 : a0.size ≤ 65535) (h1 : l1.length ≤ 65535) (hlf : node_leaf.f a0 l1 = some true) (hne : ¬ a0.toList = []) :
    Calls Tryd.prog 10 #[.string a0, .slice A1 l1.length c1] w (EPost w (leafB a0 l1) 0) := by
  have HLf := Aside0.mk hlf
  have HR := Aside0.mk hr1
  have b0 : (a0.toList == ([] : List UInt8)) = false := beq_eq_false_iff_ne.mpr hne
  clear hlf hr1 hne
  go_enter Tryd.func10, Tryd.ntmps10
  go_wp2_with (fail)
  refine (node_leaf.calls a0 A1 c1 l1 true w HLD HR.out hc1 HLf.out).mono ?_
  rintro e w1 ⟨rfl, hb⟩
  have HB := Aside0.mk hb
  clear hb
  go_wp2_with (fail)
  refine (Writer_Text _ w1.heap.size [] a0 _ (isW_new w1) h0 (by simp; omega)).mono ?_
  rintro e w2 ⟨rfl, S2, hW2, hS2, hF2⟩
  have hs2 : ∀ k, S2 k → w1.heap.size ≤ k := fun k hk => (hS2 k hk).elim (fun h => by omega) (fun h => by simp at h; omega)
  have HW2 := Aside0.mk hW2
  have HS2 := Aside0.mk hs2
  have hB2 : Below w1.heap.size w1 w2 := (below_alloc (Below.refl _ _) _).trans (hF2.below (B := w1.heap.size) (by simp) (fun k hk => by omega))
  have HB2 := Aside0.mk (HB.out.trans (hB2.mono HB.out.size))
  have HZ := Aside0.mk hB2.size
  clear hW2 hS2 hF2 hs2 hB2
  go_wp2_with (fail)
  refine (Writer_Bytes S2 w1.heap.size _ l1 A1 l1.length c1 w2 HW2.out ((bytes_C HR.out).below HB2.out) ?_ h1 hc1 ?_).mono ?_
  · exact apart_kept (S := fun _ => False) (bytes_C HR.out) (fun _ _ _ h => h) (fun i hi => .inr (Nat.le_trans HB.out.size (HS2.out i hi)))
  · simp [putB, putFrom_len, bytesOf_length]
    omega
  rintro e w3 ⟨rfl, S3, hW3, hS3, hF3⟩
  have hs3 : ∀ k, S3 k → w1.heap.size ≤ k := fun k hk => (hS3 k hk).elim (HS2.out k) (fun h => Nat.le_trans HZ.out h)
  have HW3 := Aside0.mk hW3
  have hB3 : Below w.heap.size w w3 := HB2.out.trans (hF3.below (B := w.heap.size) HB2.out.size (fun k hk => Nat.le_trans HB.out.size (HS2.out k hk)))
  have HB3 := Aside0.mk hB3
  clear hW3 hS3 hF3 hs3 hB3
  go_wp2_with (fail)
  refine (Writer_Out S3 w1.heap.size _ w3 HW3.out ?_).mono ?_
  · simp [putB, putFrom_len, bytesOf_length]
    omega
  rintro e w4 ⟨v1, rfl, hr, hb⟩
  have HP := Aside0.mk (And.intro hr hb)
  clear hr hb
  go_wp2_with (fail)
  go_ret2
  refine ⟨_, rfl, ?_, HB3.out.trans (HP.out.2.mono HB3.out.size)⟩
  have h1 := HP.out.1
  rw [List.nil_append, List.append_assoc (putB (a0.size : Int) 2 ++ bytesOf a0)] at h1
  exact Kd.R_lower h1 HB3.out.size
theorem node_EncodeLeaf.nil (a0 : ByteArray) (A1 : Option Addr) (c1 : Nat) (l1 : List Int) (w : World) (HLD : Laid w) (hr1 : Kd.C (Kd.int .u8) w A1 l1.length l1) (hc1 : l1.length ≤ c1)
    (hlf : node_leaf.f a0 l1 = some true) (hne : a0.toList = []) :
    Calls Tryd.prog 10 #[.string a0, .slice A1 l1.length c1] w (EPost w [] 0) := by
  have HLf := Aside0.mk hlf
  have HR := Aside0.mk hr1
  have b0 : (a0.toList == ([] : List UInt8)) = true := beq_iff_eq.mpr hne
  clear hlf hr1 hne
  go_enter Tryd.func10, Tryd.ntmps10
  go_wp2_with (fail)
  refine (node_leaf.calls a0 A1 c1 l1 true w HLD HR.out hc1 HLf.out).mono ?_
  rintro e w1 ⟨rfl, hb⟩
  have HB := Aside0.mk hb
  clear hb
  go_wp2_with (fail)
  go_ret2
  exact ⟨_, rfl, Kd.R_nil _ _ _ _ _, HB.out⟩
theorem node_EncodeLeaf.no (a0 : ByteArray) (A1 : Option Addr) (c1 : Nat) (l1 : List Int) (w : World) (HLD : Laid w) (hr1 : Kd.C (Kd.int .u8) w A1 l1.length l1) (hc1 : l1.length ≤ c1)
    (hlf : node_leaf.f a0 l1 = some false) :
    Calls Tryd.prog 10 #[.string a0, .slice A1 l1.length c1] w (EPost w [] 2) := by
  have HLf := Aside0.mk hlf
  have HR := Aside0.mk hr1
  clear hlf hr1
  go_enter Tryd.func10, Tryd.ntmps10
  go_wp2_with (fail)
  refine (node_leaf.calls a0 A1 c1 l1 false w HLD HR.out hc1 HLf.out).mono ?_
  rintro e w1 ⟨rfl, hb⟩
  have HB := Aside0.mk hb
  clear hb
  go_wp2_with (fail)
  go_ret2
  exact ⟨_, rfl, Kd.R_nil _ _ _ _ _, HB.out⟩
theorem node_EncodeLeaf.calls (a0 : ByteArray) (A1 : Option Addr) (c1 : Nat) (l1 : List Int) (r1 : List Int) (r2 : Int) (w : World) (HLD : Laid w) (hr1 : Kd.C (Kd.int .u8) w A1 l1.length l1) (hc1 : l1.length ≤ c1)
    (h : node_EncodeLeaf.f a0 l1 = some (r1, r2)) :
    Calls Tryd.prog 10 #[.string a0, .slice A1 l1.length c1] w (EPost w r1 r2) := by
  unfold node_EncodeLeaf.f at h
  by_cases hb : a0.size ≤ 65535 ∧ l1.length ≤ 65535
  · rw [if_pos hb] at h
    obtain ⟨t, ht, h⟩ := Option.bind_eq_some_iff.mp h
    cases t with
    | false =>
      rw [if_neg (by simp)] at h
      cases h
      exact node_EncodeLeaf.no a0 A1 c1 l1 w HLD hr1 hc1 ht
    | true =>
      rw [if_pos rfl] at h
      by_cases hn : a0.toList = []
      · rw [if_pos hn] at h
        cases h
        exact node_EncodeLeaf.nil a0 A1 c1 l1 w HLD hr1 hc1 ht hn
      · rw [if_neg hn] at h
        cases h
        exact node_EncodeLeaf.yes a0 A1 c1 l1 w HLD hr1 hc1 hb.1 hb.2 ht hn
  · rw [if_neg hb] at h
    cases h
theorem ref28_field.f_eq (l : List Int) (h : l.length ≤ 65535) : oublietteref28_field.f l = some ([(l.length : Int) / 256, (l.length : Int) % 256] ++ l) := by
  unfold oublietteref28_field.f oublietteref05_Bytes.f
  rw [if_pos ⟨rfl, h⟩, Option.bind_some]
theorem field_n (A : Option Addr) (c n : Nat) (l : List Int) (w : World) (hn : l.length = n) (hr : ReadsInt w .u8 A l.length l) (hc : n ≤ c) (hl : n ≤ 65535) :
    Calls Tryd.prog 41 #[.slice A n c] w fun e w' => ∃ A' c', e = .returned (.slice A' (n + 2) c') ∧ n + 2 ≤ c' ∧ ReadsInt w' .u8 A' (n + 2) ([(n : Int) / 256, (n : Int) % 256] ++ l) ∧ Below w.heap.size w w' := by
  subst hn
  refine (oublietteref28_field.calls A c l _ w (Kd.C_of_reads (enc := Value.int .u8) (d := (0 : Int)) (h1 := fun _ => rfl) hr) hc (ref28_field.f_eq l hl)).mono ?_
  rintro e w' ⟨v, rfl, hv, hb⟩
  obtain ⟨A', c', rfl, hc', hC⟩ := Kd.R_reads hv
  have e1 : ([(l.length : Int) / 256, (l.length : Int) % 256] ++ l).length = l.length + 2 := by simp
  have h1 := bytes_C hC
  rw [e1] at h1 hc' ⊢
  exact ⟨A', c', rfl, hc', h1, hb⟩
theorem join_n (A B : Option Addr) (c d n m : Nat) (xs ys : List Int) (w : World) (hx : ReadsInt w .u8 A n xs) (hy : ReadsInt w .u8 B m ys) (hc : n ≤ c) (hd : m ≤ d) (hl : n + m ≤ 1000000) :
    Calls Tryd.prog 42 #[.slice A n c, .slice B m d] w fun e w' => ∃ v0_ : Value, e = .returned v0_ ∧ Kd.R (Kd.int .u8) 5 w' w.heap.size (fun _ => True) v0_ (xs ++ ys) ∧ Below w.heap.size w w' := by
  obtain rfl := hx.1
  obtain rfl := hy.1
  refine oublietteref01_Join.calls A c xs B d ys _ w (Kd.C_of_reads (enc := Value.int .u8) (d := (0 : Int)) (h1 := fun _ => rfl) hx) hc (Kd.C_of_reads (enc := Value.int .u8) (d := (0 : Int)) (h1 := fun _ => rfl) hy) hd ?_
  unfold oublietteref01_Join.f
  rw [if_pos (by simp; omega), Option.bind_some, if_pos (by simp; omega)]
  rfl
/-- The reference's bytes of a leaf. -/
def leafR (a0 : ByteArray) (l1 : List Int) : List Int :=
  [(a0.size : Int) / 256, (a0.size : Int) % 256] ++ bytesOf a0 ++ ([(l1.length : Int) / 256, (l1.length : Int) % 256] ++ l1)
def RowPost (w : World) (bs : List Int) (e : Ending) (w' : World) : Prop :=
  ∃ v0_ : Value, e = .returned v0_ ∧ Kd.R (Kd.int .u8) 5 w' w.heap.size (fun _ => True) v0_ bs ∧ Below w.heap.size w w'
theorem C_of {w : World} {A : Option Addr} {n : Nat} {xs : List Int} (h : ReadsInt w .u8 A n xs) : Kd.C (Kd.int .u8) w A n xs := Kd.C_of_reads (enc := Value.int .u8) (d := (0 : Int)) (h1 := fun _ => rfl) h
def ref28_LeafBytes.f (a0 : ByteArray) (l1 : List Int) : Option (List Int) :=
  if a0.toList = [] then some [] else if a0.size ≤ 65535 ∧ l1.length ≤ 65535 then some (leafR a0 l1) else none
set_option maxHeartbeats 800000 in
theorem ref28_LeafBytes.calls (a0 : ByteArray) (A1 : Option Addr) (c1 : Nat) (l1 : List Int) (r : List Int) (w : World) (hr1 : Kd.C (Kd.int .u8) w A1 l1.length l1) (hc1 : l1.length ≤ c1)
    (h : ref28_LeafBytes.f a0 l1 = some r) :
    Calls Tryd.prog 15 #[.string a0, .slice A1 l1.length c1] w (RowPost w r) := by
  unfold ref28_LeafBytes.f at h
  have HR := Aside0.mk hr1
  clear hr1
  by_cases hne : a0.toList = []
  · rw [if_pos hne] at h
    cases h
    have b0 : (a0.toList == ([] : List UInt8)) = true := beq_iff_eq.mpr hne
    clear hne
    go_enter Tryd.func15, Tryd.ntmps15
    go_wp2_with (fail)
    go_ret
    exact ⟨_, rfl, Kd.R_nil _ _ _ _ _, Below.refl _ _⟩
  · rw [if_neg hne] at h
    have b0 : (a0.toList == ([] : List UInt8)) = false := beq_eq_false_iff_ne.mpr hne
    by_cases hb : a0.size ≤ 65535 ∧ l1.length ≤ 65535
    · rw [if_pos hb] at h
      cases h
      obtain ⟨hs, hl⟩ := hb
      clear hne
      have hcv := fun W => Lib.run_convert_string_bytes (P := Tryd.prog) W 9 25 5 a0 Tryd.underlying9 Tryd.underlying25 Tryd.underlying5
      have hlen : (bytesOf a0).length = a0.size := bytesOf_length a0
      have HB1 := Aside0.mk (bytesWorld_below w 5 a0)
      have HC1 := Aside0.mk (bytesWorld_reads w 5 a0 (by omega))
      have HLEN := Aside0.mk hlen
      clear hlen
      go_enter Tryd.func15, Tryd.ntmps15
      go_wp2_with (fail)
      refine (field_n _ _ a0.size (bytesOf a0) _ HLEN.out (by rw [HLEN.out]; exact HC1.out) (grownCap_ge w a0.size 0 5) hs).mono ?_
      rintro e w1 ⟨A2, c2, rfl, hc2, hr2, hb2⟩
      have HR2 := Aside0.mk hr2
      have HB2 := Aside0.mk (HB1.out.trans (hb2.mono HB1.out.size))
      clear hr2 hb2
      go_wp2_with (fail)
      refine (field_n A1 c1 l1.length l1 _ rfl ((bytes_C HR.out).below HB2.out) hc1 hl).mono ?_
      rintro e w2 ⟨A3, c3, rfl, hc3, hr3, hb3⟩
      have HR3 := Aside0.mk hr3
      have HR2' := Aside0.mk (HR2.out.below hb3)
      have HB3 := Aside0.mk (HB2.out.trans (hb3.mono HB2.out.size))
      clear hr3 hb3
      go_wp2_with (fail)
      refine (join_n A2 A3 c2 c3 (a0.size + 2) (l1.length + 2) _ _ w2 HR2'.out HR3.out hc2 hc3 (by omega)).mono ?_
      rintro e w3 ⟨v, rfl, hr, hb⟩
      have HP := Aside0.mk (And.intro hr hb)
      clear hr hb
      go_wp2_with (fail)
      go_ret
      exact ⟨_, rfl, Kd.R_lower HP.out.1 HB3.out.size, HB3.out.trans (HP.out.2.mono HB3.out.size)⟩
    · rw [if_neg hb] at h
      cases h
end Go.Proofs.YtloagejeeakikaaDoor.QB
namespace Go.Proofs.YtloagejeeakikaaDoor.QB
open Go.RowKit Go.Proofs.YtloagejeeakikaaDoorW.PrintWords Go.Proofs.YtloagejeeakikaaDoorW.PrintLast Go.Proofs.YtloagejeeakikaaDoorW.PrintMore
open Go.Proofs.YtloagejeeakikaaDoor.Mem
set_option linter.unusedVariables false
set_option linter.unusedSimpArgs false
theorem info25 : (Tryd.prog.info? 25).map (fun i => (i.zero, i.size, i.bytes)) = some (some (.slice none 0 0), 1, 24) := by kernel_rfl
/-- What a Reader of fields of at most lim bytes gives, field by field: the fields, what is left, the fault. -/
def decS (lim : Int) (l : List Int) : Nat → List (List Int) × List Int × Int
  | 0 => ([], l, 0)
  | k + 1 => ((decS lim l k).1 ++ [(rdStep lim (decS lim l k).2.1 (decS lim l k).2.2).1], (rdStep lim (decS lim l k).2.1 (decS lim l k).2.2).2)
theorem decS_len (lim : Int) (l : List Int) (k : Nat) : (decS lim l k).1.length = k := by
  induction k with
  | zero => rfl
  | succ k ih => simp [decS, ih]
theorem rdBytes_rest (lim : Int) (l : List Int) : ∃ n, (rdBytes lim l).2.1 = l.drop n := by
  unfold rdBytes
  split
  · rename_i a b rest
    split
    · exact ⟨(a * 256 + b).toNat + 2, by rw [List.drop_succ_cons, List.drop_succ_cons]⟩
    · exact ⟨(a :: b :: rest).length, by simp⟩
  · exact ⟨l.length, by simp⟩
theorem rdStep_rest (lim : Int) (l : List Int) (f : Int) : ∃ n, (rdStep lim l f).2.1 = l.drop n := by
  unfold rdStep
  split
  · exact rdBytes_rest lim l
  · exact ⟨0, rfl⟩
theorem byteL_drop {l : List Int} (h : byteL l) (n : Nat) : byteL (l.drop n) := fun x hx => h x (List.mem_of_mem_drop hx)
theorem decS_rest (lim : Int) (l : List Int) (k : Nat) : ∃ n, (decS lim l k).2.1 = l.drop n := by
  induction k with
  | zero => exact ⟨0, rfl⟩
  | succ k ih =>
    obtain ⟨n, hn⟩ := ih
    obtain ⟨m, hm⟩ := rdStep_rest lim (decS lim l k).2.1 (decS lim l k).2.2
    exact ⟨n + m, by
      show (rdStep lim (decS lim l k).2.1 (decS lim l k).2.2).2.1 = _
      rw [hm, hn, List.drop_drop]⟩
/-- What Decode gives of n rows. -/
def decF (n : Nat) (l : List Int) : List (List Int) × Int :=
  if (decS 80 l n).1.any rowBad = false ∧ endF (decS 80 l n).2.1 (decS 80 l n).2.2 = 0 ∧ (decS 80 l n).1.any rowSome = true then ((decS 80 l n).1, 0) else ([], 4)
def DPost (w : World) (bs : List (List Int)) (f : Int) (e : Ending) (w' : World) : Prop :=
  ∃ v0_ : Value, e = .returned (.tuple #[v0_, .int .i64 f]) ∧ Kd.R (Kd.slice 5 (Kd.int .u8)) 25 w' w.heap.size (fun _ => True) v0_ bs ∧ Below w.heap.size w w'
theorem row_f (l : List Int) : node_row.f l = some (!rowBad l) := by
  have h := Encode_1_f l
  unfold node_Encode_1.f at h
  obtain ⟨t, ht, h⟩ := Option.bind_eq_some_iff.mp h
  rw [ht, ← Option.some.inj h, Bool.not_not]
theorem decF_bad {n : Nat} {l : List Int} (h : (decS 80 l n).1.any rowBad = true) : decF n l = ([], 4) := by
  unfold decF
  rw [if_neg (by rw [h]; simp)]
theorem decS_pre (lim : Int) (l : List Int) (k d : Nat) : ∃ r, (decS lim l (k + d)).1 = (decS lim l k).1 ++ r := by
  induction d with
  | zero => exact ⟨[], by simp⟩
  | succ d ih =>
    obtain ⟨r, hr⟩ := ih
    refine ⟨r ++ [(rdStep lim (decS lim l (k + d)).2.1 (decS lim l (k + d)).2.2).1], ?_⟩
    show (decS lim l (k + d)).1 ++ [_] = _
    rw [hr, List.append_assoc]
    rfl
theorem decF_early {n k : Nat} {l : List Int} (hk : k < n) (h : rowBad (rdStep 80 (decS 80 l k).2.1 (decS 80 l k).2.2).1 = true) : decF n l = ([], 4) := by
  apply decF_bad
  obtain ⟨r, hr⟩ := decS_pre 80 l (k + 1) (n - (k + 1))
  rw [show k + 1 + (n - (k + 1)) = n by omega] at hr
  rw [hr, List.any_append]
  have : (decS 80 l (k + 1)).1.any rowBad = true := by
    show ((decS 80 l k).1 ++ [_]).any rowBad = true
    rw [List.any_append]
    simp [h]
  rw [this, Bool.true_or]
/-- One element of a row of rows. -/
theorem elem_at {w : World} {base gb n cap : Nat} {ok : Nat → Prop} {xs : List (List Int)} (h : Kd.R (Kd.slice 5 (Kd.int .u8)) 25 w base ok (.slice (some ⟨gb, 0, none⟩) n cap) xs) (k : Nat) (x : List Int) (hx : xs[k]? = some x) :
    ∃ A c, w.cell? ⟨gb, k, none⟩ = some (.slice A x.length c) ∧ x.length ≤ c ∧ ReadsInt w .u8 A x.length x := by
  have hk : k < xs.length := (List.getElem?_eq_some_iff.1 hx).1
  obtain ⟨A, c, e, hc, hC⟩ := Kd.R_reads h
  injection e with e1 e2 e3
  subst e1
  obtain ⟨ad, A0, c0, e4, h1, h2, h3⟩ := at_L1 hC (k : Int) (by omega) (by omega)
  cases e4
  have hrd : rd_L1 xs (k : Int) = x := by simp [rd_L1, List.getD_eq_getElem?_getD, hx]
  rw [hrd] at h1 h2 h3
  have e5 : (Addr.add ⟨gb, 0, none⟩ (k : Int).toNat) = ⟨gb, k, none⟩ := by rw [add_plain]; simp
  rw [e5] at h1
  exact ⟨A0, c0, h1, h2, bytes_C h3⟩
theorem hcc_one {w : World} {gb k : Nat} {u0 : Value} (h : w.cell? ⟨gb, k, none⟩ = some u0) : ∀ (j : Nat) (u : Value), [u0][j]? = some u → w.cell? ⟨gb, (k : Int).toNat * (Kd.slice 5 (Kd.int .u8)).sz + j, none⟩ = some u := by
  intro j u hj
  cases j with
  | zero =>
    cases hj
    rw [show (k : Int).toNat * (Kd.slice 5 (Kd.int .u8)).sz + 0 = k by simp [Kd.slice]]
    exact h
  | succ j => simp at hj
theorem row_typed {w : World} {base gb n cap : Nat} {ok : Nat → Prop} {xs : List (List Int)} (h : Kd.R (Kd.slice 5 (Kd.int .u8)) 25 w base ok (.slice (some ⟨gb, 0, none⟩) n cap) xs) (hp : 0 < xs.length) : ∃ cells, w.heap[gb]? = some (.cells cells 25 (0, 0)) := by
  obtain ⟨g', cap', e, _, _, cs, hcs⟩ := Kd.R_form h hp
  cases e
  exact ⟨cs, hcs⟩
theorem set_mid (xs : List (List Int)) (n k : Nat) (x : List Int) (h : xs.length = k) (hk : k < n) : (xs ++ List.replicate (n - k) []).set ((k : Int).toNat) x = (xs ++ [x]) ++ List.replicate (n - (k + 1)) [] := by
  obtain ⟨m, hm⟩ : ∃ m, n - k = m + 1 := ⟨n - k - 1, by omega⟩
  rw [Int.toNat_natCast, hm, List.replicate_succ, List.set_append, if_neg (by omega), h, Nat.sub_self, List.set_cons_zero, show n - (k + 1) = m by omega]
  simp
theorem get_mid (xs : List (List Int)) (m k : Nat) (x : List Int) (h : xs.length = k) : ((xs ++ [x]) ++ List.replicate m [])[k]? = some x := by
  rw [List.append_assoc, List.getElem?_append_right (by omega), h, Nat.sub_self]
  rfl
theorem node_Decode.no1 (a0_0 a0_1 a0_2 : Int) (A : Option Addr) (c : Nat) (l : List Int) (w : World) (hg : geom_Right.f a0_0 a0_1 a0_2 = some false) :
    Calls Tryd.prog 16 #[.agg #[.int .i64 a0_0, .int .i64 a0_1, .int .i64 a0_2], .slice A l.length c] w (DPost w [] 2) := by
  have hmf : ∀ (fn : Fn) (first cap : Array Value) (w : World), (Instr.makeFunc fn first cap).run Tryd.prog w = .ok (.func fn first cap) w := fun _ _ _ _ => rfl
  have HG := Aside0.mk hg
  have HB1 := Aside0.mk (below_alloc (Below.refl w.heap.size w) (.cells #[.int .i64 a0_0, .int .i64 a0_1, .int .i64 a0_2] 23))
  clear hg
  go_enter Tryd.func16, Tryd.ntmps16
  go_wp2_with (fail)
  refine (geom_Right.calls a0_0 a0_1 a0_2 false _ HG.out).mono ?_
  rintro e w1 ⟨rfl, hb⟩
  have HB2 := Aside0.mk (HB1.out.trans (hb.mono (by simp)))
  clear hb
  go_wp2_with (fail)
  go_ret2
  exact ⟨_, rfl, Kd.R_nil _ _ _ _ _, HB2.out⟩
theorem node_Decode.nil (a0_0 a0_1 a0_2 : Int) (A : Option Addr) (c : Nat) (w : World) (n : Nat) (hn : a0_0 = n) (hn4 : n ≤ 4) (hg : geom_Right.f a0_0 a0_1 a0_2 = some true) (hr : Kd.C (Kd.int .u8) w A 0 []) :
    Calls Tryd.prog 16 #[.agg #[.int .i64 a0_0, .int .i64 a0_1, .int .i64 a0_2], .slice A 0 c] w (DPost w (List.replicate n []) 0) := by
  have hmf : ∀ (fn : Fn) (first cap : Array Value) (w : World), (Instr.makeFunc fn first cap).run Tryd.prog w = .ok (.func fn first cap) w := fun _ _ _ _ => rfl
  subst hn
  have HG := Aside0.mk hg
  have HR := Aside0.mk hr
  have HB1 := Aside0.mk (below_alloc (Below.refl w.heap.size w) (.cells #[.int .i64 (n : Int), .int .i64 a0_1, .int .i64 a0_2] 23))
  have HH := Aside0.mk (Geo.new w n a0_1 a0_2 23)
  clear hg hr
  go_enter Tryd.func16, Tryd.ntmps16
  go_wp2_with (fail)
  refine (geom_Right.calls n a0_1 a0_2 true _ HG.out).mono ?_
  rintro e w1 ⟨rfl, hb⟩
  obtain ⟨c0_, c1_, c2_⟩ := HH.out.step hb (by simp)
  have HB2 := Aside0.mk (HB1.out.trans (hb.mono (by simp)))
  clear hb
  go_wp2_with ((with_reducible refine gate_ (.makeSlice 24 (.tmp 15) (.tmp 15)) rfl ?_); refine Kd.R_make (Kd.slice 5 (Kd.int .u8)) (w0 := w) w.heap.size 25 rfl rfl 24 _ _ rfl (n : Int) rfl rfl Tryd.underlying24 (.slice none 0 0) 24 info25 rfl (by decide) (by decide) [] (ok := fun _ => True) (okp := fun _ => True) ⟨_, rfl, Kd.R_nil _ _ _ _ _⟩ (fun _ _ => trivial) trivial (by omega) (by simp; omega) HB2.out HB2.out.size ?_; intro v1 w2 hr2 hb2 hg2 ho2; have HR2 := Aside0.mk hr2; have HB3 := Aside0.mk hb2; clear hr2 hb2 hg2 ho2)
  refine (node_Empty.calls A c [] true w2 (Kd.C_below HR.out HB3.out) (Nat.zero_le _) rfl).mono ?_
  rintro e w3 ⟨rfl, hd⟩
  have HB4 := Aside0.mk (HB3.out.trans (hd.below.mono HB3.out.size))
  have HR3 := Aside0.mk (Kd.R_below HR2.out hd.below)
  clear hd
  go_wp2_with (fail)
  go_ret2
  exact ⟨_, rfl, by have := HR3.out; rwa [Int.toNat_natCast] at this, HB4.out⟩
set_option maxHeartbeats 1600000 in
theorem node_Decode.main (a0_0 a0_1 a0_2 : Int) (A : Option Addr) (c : Nat) (l : List Int) (w : World) (n : Nat) (hn : a0_0 = n) (hn1 : 1 ≤ n) (hn4 : n ≤ 4) (hg : geom_Right.f a0_0 a0_1 a0_2 = some true)
    (hr : Kd.C (Kd.int .u8) w A l.length l) (hc : l.length ≤ c) (hL : l.length ≤ 1000000) (hne : l ≠ []) (hby : byteL l) :
    Calls Tryd.prog 16 #[.agg #[.int .i64 a0_0, .int .i64 a0_1, .int .i64 a0_2], .slice A l.length c] w (DPost w (decF n l).1 (decF n l).2) := by
  have hmf : ∀ (fn : Fn) (first cap : Array Value) (w : World), (Instr.makeFunc fn first cap).run Tryd.prog w = .ok (.func fn first cap) w := fun _ _ _ _ => rfl
  subst hn
  have hem : node_Empty.f l = some false := by
    unfold node_Empty.f
    congr 1
    rw [beq_eq_false_iff_ne]
    intro h
    exact hne (List.eq_nil_of_length_eq_zero (by omega))
  have HEM := Aside0.mk hem
  have HG := Aside0.mk hg
  have HR := Aside0.mk hr
  have HBY := Aside0.mk hby
  have HB1 := Aside0.mk (below_alloc (Below.refl w.heap.size w) (.cells #[.int .i64 (n : Int), .int .i64 a0_1, .int .i64 a0_2] 23))
  have HH := Aside0.mk (Geo.new w n a0_1 a0_2 23)
  clear hg hr hne hem hby
  go_enter Tryd.func16, Tryd.ntmps16
  go_wp2_with (fail)
  refine (geom_Right.calls n a0_1 a0_2 true _ HG.out).mono ?_
  rintro e w1 ⟨rfl, hb⟩
  obtain ⟨c0_, c1_, c2_⟩ := HH.out.step hb (by simp)
  have HB2 := Aside0.mk (HB1.out.trans (hb.mono (by simp)))
  clear hb
  go_wp2_with ((with_reducible refine gate_ (.makeSlice 24 (.tmp 15) (.tmp 15)) rfl ?_); refine Kd.R_make (Kd.slice 5 (Kd.int .u8)) (w0 := w) w.heap.size 25 rfl rfl 24 _ _ rfl (n : Int) rfl rfl Tryd.underlying24 (.slice none 0 0) 24 info25 rfl (by decide) (by decide) [] (ok := fun _ => True) (okp := fun _ => True) ⟨_, rfl, Kd.R_nil _ _ _ _ _⟩ (fun _ _ => trivial) trivial (by omega) (by simp; omega) HB2.out HB2.out.size ?_; intro v1 w2 hr2 hb2 hg2 ho2; have HR2 := Aside0.mk hr2; have HB3 := Aside0.mk hb2; clear hr2 hb2 hg2 ho2)
  refine (node_Empty.calls A c l false w2 (Kd.C_below HR.out HB3.out) hc HEM.out).mono ?_
  rintro e w3 ⟨rfl, hd⟩
  have HB4 := Aside0.mk (HB3.out.trans (hd.below.mono HB3.out.size))
  have hr3 := Kd.R_below HR2.out hd.below
  rw [Int.toNat_natCast] at hr3
  obtain ⟨gb, cap, rfl, hgb1, hgb2, -⟩ := Kd.R_form hr3 (by simp; omega)
  rw [List.length_replicate] at hr3
  have HR3 := Aside0.mk (Kd.R_bound hr3)
  clear hd hr3 c0_ c1_ c2_ HR2
  simp only [List.length_replicate]
  go_wp2_with (fail)
  refine (wire_Read A c l w3 (Kd.C_below HR.out HB4.out) (by omega)).mono ?_
  rintro e w4 ⟨g, rfl, hi, hgl, hb⟩
  have HI := Aside0.mk hi
  have HB5 := Aside0.mk (HB4.out.trans (hb.mono HB4.out.size))
  have HR4 := Aside0.mk (Kd.R_mono (ok' := fun k => k ≠ g) (Kd.R_below HR3.out hb) (fun k hk => by have := hk.2.2.1; omega))
  have hw3 := HB4.out.size
  have hneg : g ≠ gb := by omega
  have hwg : w.heap.size ≤ g := by omega
  clear hi hb hw3 HR3
  go_wp2_with (fail)
  have hbx : box_Size.f 32 = some 80 := by decide +kernel
  have HBX := Aside0.mk hbx
  clear hbx
  go_loopw [9, 26] (fun v9 v26 wr => ∃ k : Nat, v26 = .int .i64 k ∧ k ≤ n ∧ v9 = .bool ((decS 80 l k).1.any rowSome) ∧ Aside0 (IsR g (decS 80 l k).2.1 (decS 80 l k).2.2 wr) ∧ Aside0 (Kd.R (Kd.slice 5 (Kd.int .u8)) 25 wr w.heap.size (fun k => k ≠ g) (.slice (some ⟨gb, 0, none⟩) n cap) ((decS 80 l k).1 ++ List.replicate (n - k) [])) ∧ Aside0 ((decS 80 l k).1.any rowBad = false) ∧ Aside0 (Below w.heap.size w wr) ∧ Aside0 (g < wr.heap.size))
    (fun _ v26 _ => n - (intOf v26).toNat)
  case atStart => exact ⟨0, rfl, Nat.zero_le _, rfl, HI, HR4, ⟨rfl⟩, HB5, ⟨HI.out.lt⟩⟩
  case round =>
    obtain ⟨k, rfl, hk, hs9, HI, HRR, HBAD, HB, HGZ⟩ := hrel
    obtain ⟨sm, hsm⟩ : ∃ b, b = (decS 80 l k).1.any rowSome := ⟨_, rfl⟩
    rw [← hsm] at hs9
    subst hs9
    have HSM := Aside0.mk hsm
    clear hsm
    by_cases hlt : k < n
    · obtain ⟨rest, hrest⟩ : ∃ r, r = (decS 80 l k).2.1 := ⟨_, rfl⟩
      obtain ⟨f, hf⟩ : ∃ r, r = (decS 80 l k).2.2 := ⟨_, rfl⟩
      obtain ⟨x, hx⟩ : ∃ r, r = (rdStep 80 rest f).1 := ⟨_, rfl⟩
      have hI := HI.out
      rw [← hrest, ← hf] at hI
      have HI2 := Aside0.mk hI
      have hby : byteL rest ∧ rest.length ≤ 1000000 := by
        obtain ⟨m, hm⟩ := decS_rest 80 l k
        rw [hrest, hm]
        exact ⟨byteL_drop HBY.out m, by simp; omega⟩
      have HBR := Aside0.mk hby
      have HRE := Aside0.mk hrest
      have HFE := Aside0.mk hf
      have HXE := Aside0.mk hx
      clear hI hby hrest hf hx HI
      have hleb : decide ((k : Int) < n) = true := decide_eq_true (by omega)
      go_wp2_with (fail)
      refine (box_Size.calls 32 80 wr HBX.out).mono ?_
      rintro e w5 ⟨rfl, hd⟩
      have HD := Aside0.mk hd
      clear hd
      go_wp2_with (fail)
      refine (Reader_Bytes g 80 rest f w5 (HI2.out.below HD.out) HBR.out.1 (by have := HBR.out.2; omega)).mono ?_
      rintro e w6 ⟨v, rfl, hr, hi, hF⟩
      rw [← HXE.out] at hr
      obtain ⟨A3, c3, rfl, hc3, -⟩ := Kd.R_reads hr
      have hB6 : Below w.heap.size w w6 := (HB.out.trans (HD.out.mono HB.out.size)).trans (hF.below (B := w.heap.size) (Nat.le_trans HB.out.size HD.out.size) (fun i hi => by omega))
      have hrr6 := Kd.R_step (Kd.R_below HRR.out HD.out) (fun i hi hl => hF.block i hl hi)
      have hgz6 : g < w6.heap.size := by have := HGZ.out; have := HD.out.size; have := hF.size; omega
      have HR6 := Aside0.mk (show Kd.R (Kd.int .u8) 5 w6 w.heap.size (fun i => i ≠ g ∧ i ≠ gb) (.slice A3 x.length c3) x from
        Kd.R_lower (Kd.R_mono (Kd.R_bound hr) (fun i hi => by have := hi.2.1; have := HGZ.out; have := HD.out.size; omega)) (Nat.le_trans HB.out.size HD.out.size))
      have HI6 := Aside0.mk hi
      have HRR6 := Aside0.mk hrr6
      have HB6 := Aside0.mk hB6
      have HGZ6 := Aside0.mk hgz6
      have hlen : (decS 80 l k).1.length = k := decS_len 80 l k
      have hold : ((decS 80 l k).1 ++ List.replicate (n - k) ([] : List Int))[k]? = some [] := by
        rw [List.getElem?_append_right (by omega), hlen, Nat.sub_self, List.getElem?_replicate, if_pos (by omega)]
      obtain ⟨Ao, co, hcell, -, -⟩ := elem_at hrr6 k [] hold
      have HCELL := Aside0.mk hcell
      have HLEN := Aside0.mk hlen
      clear hr hi hF hB6 hrr6 hgz6 hold hcell hlen HI2 HRR HB HGZ
      cases sm
      all_goals
        go_wp2_with ((with_reducible refine gate_ (.store 25 (.tmp 34) (.tmp 33)) rfl ?_); go_loud (refine Kd.R_store (Kd.slice 5 (Kd.int .u8)) (w0 := w) w.heap.size rfl rfl 25 _ _ rfl 25 (g := gb) (n := n) (cap := cap) (k : Int) 0 _ x (.slice A3 x.length c3) [.slice A3 x.length c3] [.slice Ao 0 co] (fun i => i ≠ g) (fun i => i ≠ g ∧ i ≠ gb) rfl (by simp [Kd.slice]) rfl rfl (by kernel_rfl) (by intro q hq; rw [List.mem_singleton.1 hq]; rfl) HRR6.out (by omega) (by omega) rfl (hcc_one HCELL.out) (by simp [Kd.slice]) ⟨_, rfl, HR6.out⟩ (fun i hi => hi) HB6.out ?_); intro w7 hr7 hb7 hg7; rw [set_mid _ n k x HLEN.out hlt] at hr7; have HR7 := Aside0.mk hr7; have HB7 := Aside0.mk hb7; have HG7 := Aside0.mk hg7; obtain ⟨A7, c7, hcell7, hc7, hread7⟩ := elem_at hr7 k x (get_mid _ _ k x HLEN.out); have HREAD7 := Aside0.mk hread7; clear hr7 hb7 hg7 hread7)
        cases hp : rowBad x
        case true =>
          have HROW := Aside0.mk (show node_row.f x = some false by rw [row_f, hp]; rfl)
          have HP := Aside0.mk hp
          clear hp
          refine (node_row.calls A7 c7 x false w7 (C_of HREAD7.out) hc7 HROW.out).mono ?_
          rintro e w8 ⟨rfl, hb⟩
          have HB8 := Aside0.mk (HB7.out.trans (hb.mono HB7.out.size))
          clear hb
          go_wp2_with (fail)
          go_ret2
          rw [decF_early hlt (by rw [← HRE.out, ← HFE.out, ← HXE.out]; exact HP.out)]
          exact ⟨_, rfl, Kd.R_nil _ _ _ _ _, HB8.out⟩
        case false =>
          have HROW := Aside0.mk (show node_row.f x = some true by rw [row_f, hp]; rfl)
          have HP := Aside0.mk hp
          clear hp
          refine (node_row.calls A7 c7 x true w7 (C_of HREAD7.out) hc7 HROW.out).mono ?_
          rintro e w8 ⟨rfl, hb⟩
          have HB8 := Aside0.mk (HB7.out.trans (hb.mono HB7.out.size))
          have HR8 := Aside0.mk (Kd.R_below HR7.out hb)
          have HT6 := Aside0.mk (row_typed HRR6.out (by simp [HLEN.out]; omega))
          have HI8 := Aside0.mk (show IsR g (rdStep 80 rest f).2.1 (rdStep 80 rest f).2.2 w8 from by
            obtain ⟨cs, hcs⟩ := HT6.out
            exact (HI6.out.grown HG7.out (fun e => hneg e.symm) hcs (by decide)).below hb)
          have HZ8 := Aside0.mk (show g < w8.heap.size by have := HGZ6.out; have := HG7.out.size; have := hb.size; omega)
          clear hb hcell7
          go_wp2_with (fail)
          go_roundw
          case rel =>
            have hx : x = (rdStep 80 (decS 80 l k).2.1 (decS 80 l k).2.2).1 := by rw [HXE.out, HRE.out, HFE.out]
            have hd : (decS 80 l (k + 1)).1 = (decS 80 l k).1 ++ [x] := by rw [hx]; rfl
            have hi8 := HI8.out
            rw [HRE.out, HFE.out] at hi8
            refine ⟨k + 1, by go_num, by omega, ?_, ⟨hi8⟩, ⟨?_⟩, ⟨?_⟩, HB8, HZ8⟩
            · rw [hd, List.any_append, ← HSM.out]
              simp [rowSome]
            · rw [hd]
              exact HR8.out
            · rw [hd, List.any_append, HBAD.out]
              simp [HP.out]
          case measure => simp [intOf]; omega
    · obtain rfl : k = n := by omega
      have hleb : decide ((k : Int) < k) = false := decide_eq_false (by omega)
      obtain ⟨E, hE⟩ : ∃ E, E = endF (decS 80 l k).2.1 (decS 80 l k).2.2 := ⟨_, rfl⟩
      have HE := Aside0.mk hE
      clear hE
      by_cases hE0 : E = 0
      · subst hE0
        cases sm
        · go_wp2_with (fail)
          refine (Reader_End g _ _ wr HI.out).mono ?_
          rintro e w' ⟨he, rfl⟩
          rw [← HE.out] at he
          subst he
          go_wp2_with (fail)
          go_ret2
          rw [show decF k l = ([], 4) from if_neg (fun h => by have := HSM.out; rw [h.2.2] at this; cases this)]
          exact ⟨_, rfl, Kd.R_nil _ _ _ _ _, HB.out⟩
        · go_wp2_with (fail)
          refine (Reader_End g _ _ wr HI.out).mono ?_
          rintro e w' ⟨he, rfl⟩
          rw [← HE.out] at he
          subst he
          go_wp2_with (fail)
          go_ret2
          rw [show decF k l = ((decS 80 l k).1, 0) from if_pos ⟨HBAD.out, HE.out.symm, HSM.out.symm⟩]
          have h1 := HRR.out
          rw [Nat.sub_self, List.replicate_zero, List.append_nil] at h1
          exact ⟨_, rfl, Kd.R_mono h1 (fun _ _ => trivial), HB.out⟩
      · have hne0 : (E != 0) = true := by simpa using hE0
        cases sm
        all_goals
          go_wp2_with (fail)
          refine (Reader_End g _ _ wr HI.out).mono ?_
          rintro e w' ⟨he, rfl⟩
          rw [← HE.out] at he
          subst he
          go_wp2_with (fail)
          go_ret2
          rw [show decF k l = ([], 4) from if_neg (fun h => hE0 (HE.out.trans h.2.1))]
          exact ⟨_, rfl, Kd.R_nil _ _ _ _ _, HB.out⟩
instance (l : List Int) : Decidable (byteL l) := by unfold byteL; infer_instance
theorem geom_true {a b c : Int} (h : geom_Right.f a b c = some true) : 2 ≤ a ∧ a ≤ 4 := by
  unfold geom_Right.f geom_Least.f at h
  by_cases h1 : a < 2
  · rw [if_pos h1, Option.bind_some, if_neg (by omega)] at h
    cases h
  · by_cases h2 : a > 4
    · rw [if_neg h1, if_pos h2, Option.bind_some, if_neg (by omega)] at h
      cases h
    · omega
def node_Decode.f (a0_0 a0_1 a0_2 : Int) (l : List Int) : Option (List (List Int) × Int) :=
  (geom_Right.f a0_0 a0_1 a0_2).bind fun t => if t = true then (if l = [] then some (List.replicate a0_0.toNat [], 0) else if byteL l ∧ l.length ≤ 1000000 then some (decF a0_0.toNat l) else none) else some ([], 2)
theorem node_Decode.calls (a0_0 a0_1 a0_2 : Int) (A1 : Option Addr) (c1 : Nat) (l1 : List Int) (r1 : List (List Int)) (r2 : Int) (w : World) (hr1 : Kd.C (Kd.int .u8) w A1 l1.length l1) (hc1 : l1.length ≤ c1) (h : node_Decode.f a0_0 a0_1 a0_2 l1 = some (r1, r2)) :
    Calls Tryd.prog 16 #[.agg #[.int .i64 a0_0, .int .i64 a0_1, .int .i64 a0_2], .slice A1 l1.length c1] w (DPost w r1 r2) := by
  unfold node_Decode.f at h
  obtain ⟨t, ht, h⟩ := Option.bind_eq_some_iff.mp h
  cases t with
  | false =>
    rw [if_neg (by simp)] at h
    cases h
    exact node_Decode.no1 a0_0 a0_1 a0_2 A1 c1 l1 w ht
  | true =>
    rw [if_pos rfl] at h
    obtain ⟨g1, g2⟩ := geom_true ht
    by_cases he : l1 = []
    · subst he
      rw [if_pos rfl] at h
      cases h
      exact node_Decode.nil a0_0 a0_1 a0_2 A1 c1 w a0_0.toNat (by omega) (by omega) ht hr1
    · rw [if_neg he] at h
      by_cases hb : byteL l1 ∧ l1.length ≤ 1000000
      · rw [if_pos hb] at h
        obtain ⟨rfl, rfl⟩ := Prod.mk.inj (Option.some.inj h).symm
        exact node_Decode.main a0_0 a0_1 a0_2 A1 c1 l1 w a0_0.toNat (by omega) (by omega) (by omega) ht hr1 hc1 hb.2 he hb.1
      · rw [if_neg hb] at h
        cases h
end Go.Proofs.YtloagejeeakikaaDoor.QB
namespace Go.Proofs.YtloagejeeakikaaDoor.QB
open Go.RowKit Go.Proofs.YtloagejeeakikaaDoorW.PrintWords Go.Proofs.YtloagejeeakikaaDoorW.PrintLast Go.Proofs.YtloagejeeakikaaDoorW.PrintMore
open Go.Proofs.YtloagejeeakikaaDoor.Mem
set_option linter.unusedVariables false
set_option linter.unusedSimpArgs false
theorem nil2 (w : World) : Kd.C (Kd.slice 5 (Kd.int .u8)) (w.alloc (.cells #[.slice none 0 0, .slice none 0 0] 25)) (some ⟨w.heap.size, 0, none⟩) 2 [[], []] := by
  refine ⟨rfl, by omega, fun _ => ⟨_, rfl, fun j p hj => ⟨[.slice none 0 0], rfl, ?_, fun i u hu => ?_⟩⟩⟩
  · have hp : p = [] := by
      match j, hj with
      | 0, hj => exact (Option.some.inj hj).symm
      | 1, hj => exact (Option.some.inj hj).symm
    subst hp
    exact ⟨none, 0, rfl, Nat.le_refl _, C_of ⟨rfl, by simp, fun h => absurd h (by simp)⟩⟩
  · cases i with
    | zero =>
      cases hu
      rw [add_plain]
      unfold World.cell?
      rw [heap_alloc_new]
      match j, hj with
      | 0, _ => rfl
      | 1, _ => rfl
    | succ i => simp at hu
set_option maxHeartbeats 800000 in
theorem alive_calls (w : World) : Calls Tryd.prog 8 #[] w fun e w' => e = .returned (.bool true) ∧ Below w.heap.size w w' := by
  have hg : geom_Right.f 2 1 3 = some true := by decide +kernel
  have he : node_Encode.f 2 1 3 [[], []] = some ([], 0) := by
    unfold node_Encode.f
    rw [if_pos (by simp), hg, Option.bind_some, if_pos ⟨rfl, rfl, rfl⟩]
    rfl
  have hd : node_Decode.f 2 1 3 [] = some (List.replicate 2 [], 0) := by
    unfold node_Decode.f
    rw [hg, Option.bind_some, if_pos rfl, if_pos rfl]
    rfl
  have HE := Aside0.mk he
  have HD := Aside0.mk hd
  have HB1 := Aside0.mk (below_alloc (below_alloc (Below.refl w.heap.size w) (.cells #[.int .i64 2, .int .i64 1, .int .i64 3] 23)) (.cells #[.slice none 0 0, .slice none 0 0] 25))
  have hz : (w.alloc (.cells #[.int .i64 2, .int .i64 1, .int .i64 3] 23)).heap.size = w.heap.size + 1 := by simp
  have hnl := nil2 (w.alloc (.cells #[.int .i64 2, .int .i64 1, .int .i64 3] 23))
  rw [hz] at hnl
  have HC := Aside0.mk hnl
  have HH := Aside0.mk ((Geo.new w 2 1 3 23).step (below_alloc (Below.refl _ _) (.cells #[.slice none 0 0, .slice none 0 0] 25)) (by simp))
  clear hg he hd hnl hz
  go_enter Tryd.func8, Tryd.ntmps8
  go_wp2_with (fail)
  refine (node_Encode.calls 2 1 3 (some ⟨w.heap.size + 1, 0, none⟩) 2 [[], []] [] 0 _ HC.out (by simp) HE.out).mono ?_
  rintro e w1 ⟨v, rfl, hr, hb⟩
  obtain ⟨A1, c1, rfl, hc1, hC1⟩ := Kd.R_reads hr
  obtain ⟨c0_, c1_, c2_⟩ := HH.out.step hb (by simp; omega)
  have HB2 := Aside0.mk (HB1.out.trans (hb.mono HB1.out.size))
  have HC1 := Aside0.mk hC1
  clear hr hb hC1
  go_wp2_with (fail)
  refine (node_Decode.calls 2 1 3 none 0 [] _ _ _ (C_of ⟨rfl, by simp, fun h => absurd h (by simp)⟩) (Nat.le_refl _) HD.out).mono ?_
  rintro e w2 ⟨v, rfl, hr, hb⟩
  obtain ⟨A2, c2, rfl, hc2, -⟩ := Kd.R_reads hr
  have HB3 := Aside0.mk (HB2.out.trans (hb.mono HB2.out.size))
  have HC2 := Aside0.mk (Kd.C_below HC1.out hb)
  clear hr hb c0_ c1_ c2_
  go_wp2_with (fail)
  refine (node_Empty.calls A1 c1 [] true w2 HC2.out (Nat.zero_le _) rfl).mono ?_
  rintro e w3 ⟨rfl, hd⟩
  have HB4 := Aside0.mk (HB3.out.trans (hd.below.mono HB3.out.size))
  clear hd
  go_wp2_with (fail)
  go_ret
  exact ⟨rfl, HB4.out⟩
end Go.Proofs.YtloagejeeakikaaDoor.QB
