/- node.DecodeLeaf: what it computes. -/
import Derived.Test.YtloagejeeakikaaDoorNdX
namespace Go.Proofs.YtloagejeeakikaaDoor.QB
open Go.RowKit Go.Proofs.YtloagejeeakikaaDoorW.PrintWords Go.Proofs.YtloagejeeakikaaDoorW.PrintLast Go.Proofs.YtloagejeeakikaaDoorW.PrintMore
open Go.Proofs.YtloagejeeakikaaDoor.Mem
set_option linter.unusedVariables false
set_option linter.unusedSimpArgs false
def LPost (w : World) (s : ByteArray) (bs : List Int) (f : Int) (e : Ending) (w' : World) : Prop :=
  ∃ v0_ : Value, e = .returned (.tuple #[.string s, v0_, .int .i64 f]) ∧ Kd.R (Kd.int .u8) 5 w' w.heap.size (fun _ => True) v0_ bs ∧ Below w.heap.size w w'
theorem node_DecodeLeaf.nil (A : Option Addr) (c : Nat) (w : World) (hr : Kd.C (Kd.int .u8) w A 0 []) :
    Calls Tryd.prog 17 #[.slice A 0 c] w (LPost w ⟨#[]⟩ [] 0) := by
  have HR := Aside0.mk hr
  clear hr
  go_enter Tryd.func17, Tryd.ntmps17
  go_wp2_with (fail)
  refine (node_Empty.calls A c [] true w HR.out (Nat.zero_le _) rfl).mono ?_
  rintro e w1 ⟨rfl, hd⟩
  have HB := Aside0.mk hd.below
  clear hd
  go_wp2_with (fail)
  go_ret3
  exact ⟨_, rfl, Kd.R_nil _ _ _ _ _, HB.out⟩
/-- What the two fields of a leaf are, what is left, the fault. -/
def lf1 (l : List Int) : List Int := (rdStep 65536 l 0).1
def lfS (l : List Int) : ByteArray := strOfNums (lf1 l)
def lf2 (l : List Int) : List Int := (rdStep 65536 (rdStep 65536 l 0).2.1 (rdStep 65536 l 0).2.2).1
def lfE (l : List Int) : Int := endF (rdStep 65536 (rdStep 65536 l 0).2.1 (rdStep 65536 l 0).2.2).2.1 (rdStep 65536 (rdStep 65536 l 0).2.1 (rdStep 65536 l 0).2.2).2.2
def lfOk (l : List Int) (t : Bool) : Bool := decide (lfE l = 0) && (!decide ((lfS l).toList = []) && t)
theorem empty_false {l : List Int} (h : l ≠ []) : node_Empty.f l = some false := by
  unfold node_Empty.f
  congr 1
  rw [beq_eq_false_iff_ne]
  intro e
  exact h (List.eq_nil_of_length_eq_zero (by omega))
set_option maxHeartbeats 1600000 in
theorem node_DecodeLeaf.main (A : Option Addr) (c : Nat) (l : List Int) (t : Bool) (w : World) (HLD : Laid w) (hr : Kd.C (Kd.int .u8) w A l.length l) (hc : l.length ≤ c) (hne : l ≠ []) (hL : l.length ≤ 1000000) (hby : byteL l)
    (ht : lfE l = 0 → ¬ (lfS l).toList = [] → node_leaf.f (lfS l) (lf2 l) = some t) :
    Calls Tryd.prog 17 #[.slice A l.length c] w (if lfOk l t = true then LPost w (lfS l) (lf2 l) 0 else LPost w ⟨#[]⟩ [] 4) := by
  have HR := Aside0.mk hr
  have HE := Aside0.mk (empty_false hne)
  have HBY := Aside0.mk hby
  have HT := Aside0.mk ht
  obtain ⟨P, hP⟩ : ∃ P, P = (if lfOk l t = true then LPost w (lfS l) (lf2 l) 0 else LPost w ⟨#[]⟩ [] 4) := ⟨_, rfl⟩
  rw [← hP]
  have HP := Aside0.mk hP
  clear hr hne hby ht hP
  go_enter Tryd.func17, Tryd.ntmps17
  go_wp2_with (fail)
  refine (node_Empty.calls A c l false w HR.out hc HE.out).mono ?_
  rintro e w1 ⟨rfl, hd⟩
  have HB1 := Aside0.mk hd.below
  clear hd
  go_wp2_with (fail)
  refine (wire_Read A c l w1 (Kd.C_below HR.out HB1.out) (by omega)).mono ?_
  rintro e w2 ⟨g, rfl, hi, hgl, hb⟩
  have HI2 := Aside0.mk hi
  have HB2 := Aside0.mk (HB1.out.trans (hb.mono HB1.out.size))
  have HG := Aside0.mk (Nat.le_trans HB1.out.size hgl)
  clear hi hb hgl
  go_wp2_with (fail)
  refine (Reader_Text g 65536 l 0 w2 HI2.out HBY.out (by omega)).mono ?_
  rintro e w3 ⟨he, hi, hF⟩
  have hes : e = .returned (.string (lfS l)) := he
  subst hes
  have HB3 := Aside0.mk (HB2.out.trans (hF.below (B := w.heap.size) HB2.out.size (fun k hk => by have := HG.out; omega)))
  have HI3 := Aside0.mk hi
  have HBR := Aside0.mk (show byteL (rdStep 65536 l 0).2.1 ∧ (rdStep 65536 l 0).2.1.length ≤ 1000000 by
    obtain ⟨m, hm⟩ := rdStep_rest 65536 l 0
    rw [hm]
    exact ⟨byteL_drop HBY.out m, by simp; omega⟩)
  clear hi hF he
  go_wp2_with (fail)
  refine (Reader_Bytes g 65536 _ _ w3 HI3.out HBR.out.1 (by have := HBR.out.2; omega)).mono ?_
  rintro e w4 ⟨v, rfl, hr, hi, hF⟩
  have hr' : Kd.R (Kd.int .u8) 5 w4 w3.heap.size (fun _ => True) v (lf2 l) := hr
  obtain ⟨A4, c4, rfl, hc4, hC4⟩ := Kd.R_reads hr'
  have HB4 := Aside0.mk (HB3.out.trans (hF.below (B := w.heap.size) HB3.out.size (fun k hk => by have := HG.out; omega)))
  have HI4 := Aside0.mk hi
  have HR4 := Aside0.mk hr'
  have HC4 := Aside0.mk hC4
  clear hr hr' hi hF hC4
  go_wp2_with (fail)
  refine (Reader_End g _ _ w4 HI4.out).mono ?_
  rintro e w5 ⟨he, rfl⟩
  have hes : e = .returned (.int .i64 (lfE l)) := he
  subst hes
  clear he
  by_cases hE : lfE l = 0
  · by_cases hS : (lfS l).toList = []
    · have b0 : ((lfS l).toList == ([] : List UInt8)) = true := beq_iff_eq.mpr hS
      have hno : P = LPost w ⟨#[]⟩ [] 4 := by
        rw [HP.out, if_neg (by unfold lfOk; rw [decide_eq_true hS]; simp)]
      rw [hE]
      subst hno
      clear hS hE
      go_wp2_with (fail)
      go_ret3
      exact ⟨_, rfl, Kd.R_nil _ _ _ _ _, HB4.out⟩
    · have b0 : ((lfS l).toList == ([] : List UInt8)) = false := beq_eq_false_iff_ne.mpr hS
      have HLF := Aside0.mk (HT.out hE hS)
      cases t with
      | true =>
        have hyes : P = LPost w (lfS l) (lf2 l) 0 := by
          rw [HP.out, if_pos (by unfold lfOk; rw [decide_eq_true hE, decide_eq_false hS]; rfl)]
        rw [hE]
        subst hyes
        clear hS hE
        go_wp2_with (fail)
        refine (node_leaf.calls (lfS l) A4 c4 (lf2 l) true w4 (HLD.below HB4.out) HC4.out hc4 HLF.out).mono ?_
        rintro e w6 ⟨rfl, hb⟩
        have HB6 := Aside0.mk (HB4.out.trans (hb.mono HB4.out.size))
        have HR6 := Aside0.mk (Kd.R_below HR4.out hb)
        clear hb
        go_wp2_with (fail)
        go_ret3
        exact ⟨_, rfl, Kd.R_lower HR6.out HB3.out.size, HB6.out⟩
      | false =>
        have hno : P = LPost w ⟨#[]⟩ [] 4 := by
          rw [HP.out, if_neg (by unfold lfOk; simp)]
        rw [hE]
        subst hno
        clear hS hE
        go_wp2_with (fail)
        refine (node_leaf.calls (lfS l) A4 c4 (lf2 l) false w4 (HLD.below HB4.out) HC4.out hc4 HLF.out).mono ?_
        rintro e w6 ⟨rfl, hb⟩
        have HB6 := Aside0.mk (HB4.out.trans (hb.mono HB4.out.size))
        clear hb
        go_wp2_with (fail)
        go_ret3
        exact ⟨_, rfl, Kd.R_nil _ _ _ _ _, HB6.out⟩
  · have hno : P = LPost w ⟨#[]⟩ [] 4 := by
      rw [HP.out, if_neg (by unfold lfOk; rw [decide_eq_false hE]; simp)]
    have hb : (lfE l != 0) = true := by simpa using hE
    subst hno
    clear hE
    go_wp2_with (fail)
    go_ret3
    exact ⟨_, rfl, Kd.R_nil _ _ _ _ _, HB4.out⟩
end Go.Proofs.YtloagejeeakikaaDoor.QB
