/- The walk of NodeBack, way by way: what the statement's function answers, of what its callees compute. -/
import Derived.Test.YtloagejeeakikaaDoorNdD
import Derived.Test.YtloagejeeakikaaDoorNdL
namespace Go.Proofs.YtloagejeeakikaaDoor.QB
open Go.RowKit Go.Proofs.YtloagejeeakikaaDoorW.PrintWords Go.Proofs.YtloagejeeakikaaDoorW.PrintLast Go.Proofs.YtloagejeeakikaaDoorW.PrintMore
open Go.Proofs.YtloagejeeakikaaDoor.Mem
set_option linter.unusedVariables false
set_option linter.unusedSimpArgs false
def node_DecodeLeaf.f (l : List Int) : Option (ByteArray × List Int × Int) :=
  if l = [] then some (⟨#[]⟩, [], 0) else if byteL l ∧ l.length ≤ 1000000 then (if lfE l = 0 ∧ ¬ (lfS l).toList = [] then (node_leaf.f (lfS l) (lf2 l)).bind fun t => if t = true then some (lfS l, lf2 l, 0) else some (⟨#[]⟩, [], 4) else some (⟨#[]⟩, [], 4)) else none
theorem node_DecodeLeaf.calls (A : Option Addr) (c : Nat) (l : List Int) (r1 : ByteArray) (r2 : List Int) (r3 : Int) (w : World) (HLD : Laid w) (hr : Kd.C (Kd.int .u8) w A l.length l) (hc : l.length ≤ c) (h : node_DecodeLeaf.f l = some (r1, r2, r3)) :
    Calls Tryd.prog 17 #[.slice A l.length c] w (LPost w r1 r2 r3) := by
  unfold node_DecodeLeaf.f at h
  by_cases hn : l = []
  · subst hn
    rw [if_pos rfl] at h
    cases h
    exact node_DecodeLeaf.nil A c w hr
  · rw [if_neg hn] at h
    by_cases hb : byteL l ∧ l.length ≤ 1000000
    · rw [if_pos hb] at h
      by_cases hE : lfE l = 0 ∧ ¬ (lfS l).toList = []
      · rw [if_pos hE] at h
        obtain ⟨t, ht, h⟩ := Option.bind_eq_some_iff.mp h
        have hm := node_DecodeLeaf.main A c l t w HLD hr hc hn hb.2 hb.1 (fun _ _ => ht)
        cases t with
        | true =>
          rw [if_pos rfl] at h
          cases h
          rwa [if_pos (by unfold lfOk; rw [decide_eq_true hE.1, decide_eq_false hE.2]; rfl)] at hm
        | false =>
          rw [if_neg (by simp)] at h
          cases h
          rwa [if_neg (by unfold lfOk; simp)] at hm
      · rw [if_neg hE] at h
        cases h
        have hm := node_DecodeLeaf.main A c l false w HLD hr hc hn hb.2 hb.1 (fun h1 h2 => absurd ⟨h1, h2⟩ hE)
        rwa [if_neg (by unfold lfOk; simp)] at hm
    · rw [if_neg hb] at h
      cases h
set_option maxHeartbeats 800000 in
theorem NodeBack.dark1 (k : Nat) (x y z : Int) (s : ByteArray) (A1 A3 : Option Addr) (c1 c3 : Nat) (l1 : List (List Int)) (l3 : List Int) (w : World) (HLD : Laid w) (hr1 : Kd.C (Kd.slice 5 (Kd.int .u8)) w A1 l1.length l1) (hc1 : l1.length ≤ c1) (hr3 : Kd.C (Kd.int .u8) w A3 l3.length l3) (hc3 : l3.length ≤ c3) (hl : oubliettelaw28_light.f k l1 = some false)  :
    Calls Tryd.prog 5 #[.agg #[.int .i64 x, .int .i64 y, .int .i64 z], .slice A1 l1.length c1, .string s, .slice A3 l3.length c3] w fun e w' => e = .returned (.bool true) ∧ Below w.heap.size w w' := by
  have HL := Aside0.mk hl
  have HB1 := Aside0.mk (below_alloc (Below.refl w.heap.size w) (.cells #[.int .i64 x, .int .i64 y, .int .i64 z] 23))
  have HC := Aside0.mk (Kd.C_below hr1 (below_alloc (Below.refl w.heap.size w) (.cells #[.int .i64 x, .int .i64 y, .int .i64 z] 23)))
  clear hl hr1 hr3
  go_enter Tryd.func5, Tryd.ntmps5
  go_wp2_with (fail)
  refine (oubliettelaw28_light.calls k A1 c1 l1 false _ HC.out hc1 HL.out).mono ?_
  rintro e w1 ⟨rfl, hd⟩
  have HB2 := Aside0.mk (HB1.out.trans (hd.below.mono HB1.out.size))
  clear hd
  go_wp2_with (fail)
  refine (alive_calls w1).mono ?_
  rintro e w2 ⟨rfl, hb⟩
  have HB3 := Aside0.mk (HB2.out.trans (hb.mono HB2.out.size))
  clear hb
  go_wp2_with (fail)
  go_ret
  exact ⟨rfl, HB3.out⟩
set_option maxHeartbeats 800000 in
theorem NodeBack.dark2 (k : Nat) (x y z : Int) (s : ByteArray) (A1 A3 : Option Addr) (c1 c3 : Nat) (l1 : List (List Int)) (l3 : List Int) (w : World) (HLD : Laid w) (hr1 : Kd.C (Kd.slice 5 (Kd.int .u8)) w A1 l1.length l1) (hc1 : l1.length ≤ c1) (hr3 : Kd.C (Kd.int .u8) w A3 l3.length l3) (hc3 : l3.length ≤ c3) (hl : oubliettelaw28_light.f k l1 = some true) (hs : ¬ s.size ≤ 300) :
    Calls Tryd.prog 5 #[.agg #[.int .i64 x, .int .i64 y, .int .i64 z], .slice A1 l1.length c1, .string s, .slice A3 l3.length c3] w fun e w' => e = .returned (.bool true) ∧ Below w.heap.size w w' := by
  have HL := Aside0.mk hl
  have b1 : decide (300 < s.size) = true := decide_eq_true (by omega)
  have HB1 := Aside0.mk (below_alloc (Below.refl w.heap.size w) (.cells #[.int .i64 x, .int .i64 y, .int .i64 z] 23))
  have HC := Aside0.mk (Kd.C_below hr1 (below_alloc (Below.refl w.heap.size w) (.cells #[.int .i64 x, .int .i64 y, .int .i64 z] 23)))
  clear hl hr1 hr3
  go_enter Tryd.func5, Tryd.ntmps5
  go_wp2_with (fail)
  refine (oubliettelaw28_light.calls k A1 c1 l1 true _ HC.out hc1 HL.out).mono ?_
  rintro e w1 ⟨rfl, hd⟩
  have HB2 := Aside0.mk (HB1.out.trans (hd.below.mono HB1.out.size))
  clear hd
  go_wp2_with (fail)
  refine (alive_calls w1).mono ?_
  rintro e w2 ⟨rfl, hb⟩
  have HB3 := Aside0.mk (HB2.out.trans (hb.mono HB2.out.size))
  clear hb
  go_wp2_with (fail)
  go_ret
  exact ⟨rfl, HB3.out⟩
set_option maxHeartbeats 800000 in
theorem NodeBack.dark3 (k : Nat) (x y z : Int) (s : ByteArray) (A1 A3 : Option Addr) (c1 c3 : Nat) (l1 : List (List Int)) (l3 : List Int) (w : World) (HLD : Laid w) (hr1 : Kd.C (Kd.slice 5 (Kd.int .u8)) w A1 l1.length l1) (hc1 : l1.length ≤ c1) (hr3 : Kd.C (Kd.int .u8) w A3 l3.length l3) (hc3 : l3.length ≤ c3) (hl : oubliettelaw28_light.f k l1 = some true) (hs : s.size ≤ 300) (hs3 : ¬ l3.length ≤ 600) :
    Calls Tryd.prog 5 #[.agg #[.int .i64 x, .int .i64 y, .int .i64 z], .slice A1 l1.length c1, .string s, .slice A3 l3.length c3] w fun e w' => e = .returned (.bool true) ∧ Below w.heap.size w w' := by
  have HL := Aside0.mk hl
  have b1 : decide (300 < s.size) = false := decide_eq_false (by omega)
  have b2 : decide (600 < l3.length) = true := decide_eq_true (by omega)
  have HB1 := Aside0.mk (below_alloc (Below.refl w.heap.size w) (.cells #[.int .i64 x, .int .i64 y, .int .i64 z] 23))
  have HC := Aside0.mk (Kd.C_below hr1 (below_alloc (Below.refl w.heap.size w) (.cells #[.int .i64 x, .int .i64 y, .int .i64 z] 23)))
  clear hl hr1 hr3
  go_enter Tryd.func5, Tryd.ntmps5
  go_wp2_with (fail)
  refine (oubliettelaw28_light.calls k A1 c1 l1 true _ HC.out hc1 HL.out).mono ?_
  rintro e w1 ⟨rfl, hd⟩
  have HB2 := Aside0.mk (HB1.out.trans (hd.below.mono HB1.out.size))
  clear hd
  go_wp2_with (fail)
  refine (alive_calls w1).mono ?_
  rintro e w2 ⟨rfl, hb⟩
  have HB3 := Aside0.mk (HB2.out.trans (hb.mono HB2.out.size))
  clear hb
  go_wp2_with (fail)
  go_ret
  exact ⟨rfl, HB3.out⟩
set_option maxHeartbeats 1600000 in
theorem NodeBack.lit11 (k : Nat) (x y z : Int) (s : ByteArray) (A1 A3 : Option Addr) (c1 c3 : Nat) (l1 : List (List Int)) (l3 : List Int) (w : World) (HLD : Laid w) (hr1 : Kd.C (Kd.slice 5 (Kd.int .u8)) w A1 l1.length l1) (hc1 : l1.length ≤ c1) (hr3 : Kd.C (Kd.int .u8) w A3 l3.length l3) (hc3 : l3.length ≤ c3) (ra rb : List Int) (hl : oubliettelaw28_light.f k l1 = some true) (hs : s.size ≤ 300) (hs3 : l3.length ≤ 600) (he : node_Encode.f x y z l1 = some (ra, 0)) (hel : node_EncodeLeaf.f s l3 = some (rb, 0)) (hD : node_Decode.f x y z ra = some (l1, 0)) (hla : ra.length ≤ 473) (hn1 : l1.length ≤ 1000) (hx1 : ∀ x ∈ l1, x.length ≤ 1000000 ∧ x.length + 1 ≤ k) (hL : node_DecodeLeaf.f rb = some (s, l3, 0)) (hlb : rb.length ≤ 473) (hSb : oublietteref01_Same.f k l3 l3 = some true) :
    Calls Tryd.prog 5 #[.agg #[.int .i64 x, .int .i64 y, .int .i64 z], .slice A1 l1.length c1, .string s, .slice A3 l3.length c3] w fun e w' => e = .returned (.bool true) ∧ Below w.heap.size w w' := by
  have HL := Aside0.mk hl
  have HE := Aside0.mk he
  have HEL := Aside0.mk hel
  have HD := Aside0.mk hD
  have HX := Aside0.mk hx1
  have b3 : decide (473 < ra.length) = false := decide_eq_false (by omega)
  clear hD hx1
  have HLB := Aside0.mk hL
  have HSB := Aside0.mk hSb
  have b4 : decide (473 < rb.length) = false := decide_eq_false (by omega)
  clear hL hSb
  have b1 : decide (300 < s.size) = false := decide_eq_false (by omega)
  have b2 : decide (600 < l3.length) = false := decide_eq_false (by omega)
  have HR1 := Aside0.mk hr1
  have HR3 := Aside0.mk hr3
  have HB1 := Aside0.mk (below_alloc (Below.refl w.heap.size w) (.cells #[.int .i64 x, .int .i64 y, .int .i64 z] 23))
  have HH := Aside0.mk (Geo.new w x y z 23)
  clear hl he hel hr1 hr3
  go_enter Tryd.func5, Tryd.ntmps5
  go_wp2_with (fail)
  refine (oubliettelaw28_light.calls k A1 c1 l1 true _ (Kd.C_below HR1.out HB1.out) hc1 HL.out).mono ?_
  rintro e w1 ⟨rfl, hd⟩
  have HH1 := Aside0.mk (HH.out.step hd.below (by simp))
  obtain ⟨g0, g1, g2⟩ := HH1.out
  have HB2 := Aside0.mk (HB1.out.trans (hd.below.mono HB1.out.size))
  have HZ1 := Aside0.mk (show w.heap.size < w1.heap.size by have := hd.below.size; simp at this; omega)
  clear hd
  go_wp2_with (fail)
  clear g0 g1 g2
  refine (node_Encode.calls x y z A1 c1 l1 _ _ w1 (Kd.C_below HR1.out HB2.out) hc1 HE.out).mono ?_
  rintro e w2 ⟨v, rfl, hr, hb⟩
  obtain ⟨Aa, ca, rfl, hca, hCa⟩ := Kd.R_reads hr
  have HH2 := Aside0.mk (HH1.out.step hb HZ1.out)
  have HZ2 := Aside0.mk (show w.heap.size < w2.heap.size by have := hb.size; have := HZ1.out; omega)
  have HB3 := Aside0.mk (HB2.out.trans (hb.mono HB2.out.size))
  have HCA := Aside0.mk hCa
  clear hr hb hCa
  obtain ⟨g0, g1, g2⟩ := HH2.out
  go_wp2_with (fail)
  clear g0 g1 g2
  refine (node_Decode.calls x y z Aa ca ra l1 0 w2 HCA.out hca HD.out).mono ?_
  rintro e w2a ⟨v, rfl, hr, hb⟩
  obtain ⟨Ac, cc, rfl, hcc, hCc⟩ := Kd.R_reads hr
  have HB3a := Aside0.mk (HB3.out.trans (hb.mono HB3.out.size))
  have HCC := Aside0.mk hCc
  clear hr hb hCc
  go_wp2_with (fail)
  refine (Rows_same k Ac A1 cc c1 l1 w2a HCC.out (Kd.C_below HR1.out HB3a.out) hcc hc1 hn1 HX.out).mono ?_
  rintro e w2b ⟨rfl, hd⟩
  have HB3b := Aside0.mk (HB3a.out.trans (hd.below.mono HB3a.out.size))
  clear hd
  go_wp2_with (fail)
  refine (node_EncodeLeaf.calls s A3 c3 l3 _ _ w2b (HLD.below HB3b.out) (Kd.C_below HR3.out HB3b.out) hc3 HEL.out).mono ?_
  rintro e w3 ⟨v, rfl, hr, hb⟩
  obtain ⟨Ab, cb, rfl, hcb, hCb⟩ := Kd.R_reads hr
  have HB4 := Aside0.mk (HB3b.out.trans (hb.mono HB3b.out.size))
  have HCB := Aside0.mk hCb
  clear hr hb hCb
  go_wp2_with (fail)
  refine (node_DecodeLeaf.calls Ab cb rb s l3 0 w3 (HLD.below HB4.out) HCB.out hcb HLB.out).mono ?_
  rintro e w4 ⟨v, rfl, hr, hb⟩
  obtain ⟨Ad, cd, rfl, hcd, hCd⟩ := Kd.R_reads hr
  have HCD := Aside0.mk hCd
  have HB5 := Aside0.mk (HB4.out.trans (hb.mono HB4.out.size))
  clear hr hb hCd
  go_wp2_with (fail)
  refine (oublietteref01_Same.calls k Ad cd l3 A3 c3 l3 true w4 HCD.out hcd (Kd.C_below HR3.out HB5.out) hc3 HSB.out).mono ?_
  rintro e w5 ⟨rfl, hd⟩
  have HB6 := Aside0.mk (HB5.out.trans (hd.below.mono HB5.out.size))
  clear hd
  go_wp2_with (fail)
  refine (alive_calls w5).mono ?_
  rintro e w6 ⟨rfl, hb⟩
  have HB7 := Aside0.mk (HB6.out.trans (hb.mono HB6.out.size))
  clear hb
  go_wp2_with (fail)
  go_ret
  exact ⟨rfl, HB7.out⟩
set_option maxHeartbeats 1600000 in
theorem NodeBack.lit10 (k : Nat) (x y z : Int) (s : ByteArray) (A1 A3 : Option Addr) (c1 c3 : Nat) (l1 : List (List Int)) (l3 : List Int) (w : World) (HLD : Laid w) (hr1 : Kd.C (Kd.slice 5 (Kd.int .u8)) w A1 l1.length l1) (hc1 : l1.length ≤ c1) (hr3 : Kd.C (Kd.int .u8) w A3 l3.length l3) (hc3 : l3.length ≤ c3) (ra rb : List Int) (hl : oubliettelaw28_light.f k l1 = some true) (hs : s.size ≤ 300) (hs3 : l3.length ≤ 600) (he : node_Encode.f x y z l1 = some (ra, 0)) (hel : node_EncodeLeaf.f s l3 = some ([], 2)) (hD : node_Decode.f x y z ra = some (l1, 0)) (hla : ra.length ≤ 473) (hn1 : l1.length ≤ 1000) (hx1 : ∀ x ∈ l1, x.length ≤ 1000000 ∧ x.length + 1 ≤ k) :
    Calls Tryd.prog 5 #[.agg #[.int .i64 x, .int .i64 y, .int .i64 z], .slice A1 l1.length c1, .string s, .slice A3 l3.length c3] w fun e w' => e = .returned (.bool true) ∧ Below w.heap.size w w' := by
  have HL := Aside0.mk hl
  have HE := Aside0.mk he
  have HEL := Aside0.mk hel
  have HD := Aside0.mk hD
  have HX := Aside0.mk hx1
  have b3 : decide (473 < ra.length) = false := decide_eq_false (by omega)
  clear hD hx1
  have b1 : decide (300 < s.size) = false := decide_eq_false (by omega)
  have b2 : decide (600 < l3.length) = false := decide_eq_false (by omega)
  have HR1 := Aside0.mk hr1
  have HR3 := Aside0.mk hr3
  have HB1 := Aside0.mk (below_alloc (Below.refl w.heap.size w) (.cells #[.int .i64 x, .int .i64 y, .int .i64 z] 23))
  have HH := Aside0.mk (Geo.new w x y z 23)
  clear hl he hel hr1 hr3
  go_enter Tryd.func5, Tryd.ntmps5
  go_wp2_with (fail)
  refine (oubliettelaw28_light.calls k A1 c1 l1 true _ (Kd.C_below HR1.out HB1.out) hc1 HL.out).mono ?_
  rintro e w1 ⟨rfl, hd⟩
  have HH1 := Aside0.mk (HH.out.step hd.below (by simp))
  obtain ⟨g0, g1, g2⟩ := HH1.out
  have HB2 := Aside0.mk (HB1.out.trans (hd.below.mono HB1.out.size))
  have HZ1 := Aside0.mk (show w.heap.size < w1.heap.size by have := hd.below.size; simp at this; omega)
  clear hd
  go_wp2_with (fail)
  clear g0 g1 g2
  refine (node_Encode.calls x y z A1 c1 l1 _ _ w1 (Kd.C_below HR1.out HB2.out) hc1 HE.out).mono ?_
  rintro e w2 ⟨v, rfl, hr, hb⟩
  obtain ⟨Aa, ca, rfl, hca, hCa⟩ := Kd.R_reads hr
  have HH2 := Aside0.mk (HH1.out.step hb HZ1.out)
  have HZ2 := Aside0.mk (show w.heap.size < w2.heap.size by have := hb.size; have := HZ1.out; omega)
  have HB3 := Aside0.mk (HB2.out.trans (hb.mono HB2.out.size))
  have HCA := Aside0.mk hCa
  clear hr hb hCa
  obtain ⟨g0, g1, g2⟩ := HH2.out
  go_wp2_with (fail)
  clear g0 g1 g2
  refine (node_Decode.calls x y z Aa ca ra l1 0 w2 HCA.out hca HD.out).mono ?_
  rintro e w2a ⟨v, rfl, hr, hb⟩
  obtain ⟨Ac, cc, rfl, hcc, hCc⟩ := Kd.R_reads hr
  have HB3a := Aside0.mk (HB3.out.trans (hb.mono HB3.out.size))
  have HCC := Aside0.mk hCc
  clear hr hb hCc
  go_wp2_with (fail)
  refine (Rows_same k Ac A1 cc c1 l1 w2a HCC.out (Kd.C_below HR1.out HB3a.out) hcc hc1 hn1 HX.out).mono ?_
  rintro e w2b ⟨rfl, hd⟩
  have HB3b := Aside0.mk (HB3a.out.trans (hd.below.mono HB3a.out.size))
  clear hd
  go_wp2_with (fail)
  refine (node_EncodeLeaf.calls s A3 c3 l3 _ _ w2b (HLD.below HB3b.out) (Kd.C_below HR3.out HB3b.out) hc3 HEL.out).mono ?_
  rintro e w3 ⟨v, rfl, hr, hb⟩
  obtain ⟨Ab, cb, rfl, hcb, hCb⟩ := Kd.R_reads hr
  have HB4 := Aside0.mk (HB3b.out.trans (hb.mono HB3b.out.size))
  have HCB := Aside0.mk hCb
  clear hr hb hCb
  go_wp2_with (fail)
  have HB6 := HB4
  obtain ⟨w5, rfl⟩ : ∃ W, W = w3 := ⟨_, rfl⟩
  refine (alive_calls w5).mono ?_
  rintro e w6 ⟨rfl, hb⟩
  have HB7 := Aside0.mk (HB6.out.trans (hb.mono HB6.out.size))
  clear hb
  go_wp2_with (fail)
  go_ret
  exact ⟨rfl, HB7.out⟩
set_option maxHeartbeats 1600000 in
theorem NodeBack.lit01 (k : Nat) (x y z : Int) (s : ByteArray) (A1 A3 : Option Addr) (c1 c3 : Nat) (l1 : List (List Int)) (l3 : List Int) (w : World) (HLD : Laid w) (hr1 : Kd.C (Kd.slice 5 (Kd.int .u8)) w A1 l1.length l1) (hc1 : l1.length ≤ c1) (hr3 : Kd.C (Kd.int .u8) w A3 l3.length l3) (hc3 : l3.length ≤ c3) (ra rb : List Int) (hl : oubliettelaw28_light.f k l1 = some true) (hs : s.size ≤ 300) (hs3 : l3.length ≤ 600) (he : node_Encode.f x y z l1 = some ([], 2)) (hel : node_EncodeLeaf.f s l3 = some (rb, 0)) (hL : node_DecodeLeaf.f rb = some (s, l3, 0)) (hlb : rb.length ≤ 473) (hSb : oublietteref01_Same.f k l3 l3 = some true) :
    Calls Tryd.prog 5 #[.agg #[.int .i64 x, .int .i64 y, .int .i64 z], .slice A1 l1.length c1, .string s, .slice A3 l3.length c3] w fun e w' => e = .returned (.bool true) ∧ Below w.heap.size w w' := by
  have HL := Aside0.mk hl
  have HE := Aside0.mk he
  have HEL := Aside0.mk hel
  have HLB := Aside0.mk hL
  have HSB := Aside0.mk hSb
  have b4 : decide (473 < rb.length) = false := decide_eq_false (by omega)
  clear hL hSb
  have b1 : decide (300 < s.size) = false := decide_eq_false (by omega)
  have b2 : decide (600 < l3.length) = false := decide_eq_false (by omega)
  have HR1 := Aside0.mk hr1
  have HR3 := Aside0.mk hr3
  have HB1 := Aside0.mk (below_alloc (Below.refl w.heap.size w) (.cells #[.int .i64 x, .int .i64 y, .int .i64 z] 23))
  have HH := Aside0.mk (Geo.new w x y z 23)
  clear hl he hel hr1 hr3
  go_enter Tryd.func5, Tryd.ntmps5
  go_wp2_with (fail)
  refine (oubliettelaw28_light.calls k A1 c1 l1 true _ (Kd.C_below HR1.out HB1.out) hc1 HL.out).mono ?_
  rintro e w1 ⟨rfl, hd⟩
  have HH1 := Aside0.mk (HH.out.step hd.below (by simp))
  obtain ⟨g0, g1, g2⟩ := HH1.out
  have HB2 := Aside0.mk (HB1.out.trans (hd.below.mono HB1.out.size))
  have HZ1 := Aside0.mk (show w.heap.size < w1.heap.size by have := hd.below.size; simp at this; omega)
  clear hd
  go_wp2_with (fail)
  clear g0 g1 g2
  refine (node_Encode.calls x y z A1 c1 l1 _ _ w1 (Kd.C_below HR1.out HB2.out) hc1 HE.out).mono ?_
  rintro e w2 ⟨v, rfl, hr, hb⟩
  obtain ⟨Aa, ca, rfl, hca, hCa⟩ := Kd.R_reads hr
  have HH2 := Aside0.mk (HH1.out.step hb HZ1.out)
  have HZ2 := Aside0.mk (show w.heap.size < w2.heap.size by have := hb.size; have := HZ1.out; omega)
  have HB3 := Aside0.mk (HB2.out.trans (hb.mono HB2.out.size))
  have HCA := Aside0.mk hCa
  clear hr hb hCa
  have HB3b := HB3
  obtain ⟨w2b, rfl⟩ : ∃ W, W = w2 := ⟨_, rfl⟩
  go_wp2_with (fail)
  refine (node_EncodeLeaf.calls s A3 c3 l3 _ _ w2b (HLD.below HB3b.out) (Kd.C_below HR3.out HB3b.out) hc3 HEL.out).mono ?_
  rintro e w3 ⟨v, rfl, hr, hb⟩
  obtain ⟨Ab, cb, rfl, hcb, hCb⟩ := Kd.R_reads hr
  have HB4 := Aside0.mk (HB3b.out.trans (hb.mono HB3b.out.size))
  have HCB := Aside0.mk hCb
  clear hr hb hCb
  go_wp2_with (fail)
  refine (node_DecodeLeaf.calls Ab cb rb s l3 0 w3 (HLD.below HB4.out) HCB.out hcb HLB.out).mono ?_
  rintro e w4 ⟨v, rfl, hr, hb⟩
  obtain ⟨Ad, cd, rfl, hcd, hCd⟩ := Kd.R_reads hr
  have HCD := Aside0.mk hCd
  have HB5 := Aside0.mk (HB4.out.trans (hb.mono HB4.out.size))
  clear hr hb hCd
  go_wp2_with (fail)
  refine (oublietteref01_Same.calls k Ad cd l3 A3 c3 l3 true w4 HCD.out hcd (Kd.C_below HR3.out HB5.out) hc3 HSB.out).mono ?_
  rintro e w5 ⟨rfl, hd⟩
  have HB6 := Aside0.mk (HB5.out.trans (hd.below.mono HB5.out.size))
  clear hd
  go_wp2_with (fail)
  refine (alive_calls w5).mono ?_
  rintro e w6 ⟨rfl, hb⟩
  have HB7 := Aside0.mk (HB6.out.trans (hb.mono HB6.out.size))
  clear hb
  go_wp2_with (fail)
  go_ret
  exact ⟨rfl, HB7.out⟩
set_option maxHeartbeats 1600000 in
theorem NodeBack.lit00 (k : Nat) (x y z : Int) (s : ByteArray) (A1 A3 : Option Addr) (c1 c3 : Nat) (l1 : List (List Int)) (l3 : List Int) (w : World) (HLD : Laid w) (hr1 : Kd.C (Kd.slice 5 (Kd.int .u8)) w A1 l1.length l1) (hc1 : l1.length ≤ c1) (hr3 : Kd.C (Kd.int .u8) w A3 l3.length l3) (hc3 : l3.length ≤ c3) (ra rb : List Int) (hl : oubliettelaw28_light.f k l1 = some true) (hs : s.size ≤ 300) (hs3 : l3.length ≤ 600) (he : node_Encode.f x y z l1 = some ([], 2)) (hel : node_EncodeLeaf.f s l3 = some ([], 2)) :
    Calls Tryd.prog 5 #[.agg #[.int .i64 x, .int .i64 y, .int .i64 z], .slice A1 l1.length c1, .string s, .slice A3 l3.length c3] w fun e w' => e = .returned (.bool true) ∧ Below w.heap.size w w' := by
  have HL := Aside0.mk hl
  have HE := Aside0.mk he
  have HEL := Aside0.mk hel
  have b1 : decide (300 < s.size) = false := decide_eq_false (by omega)
  have b2 : decide (600 < l3.length) = false := decide_eq_false (by omega)
  have HR1 := Aside0.mk hr1
  have HR3 := Aside0.mk hr3
  have HB1 := Aside0.mk (below_alloc (Below.refl w.heap.size w) (.cells #[.int .i64 x, .int .i64 y, .int .i64 z] 23))
  have HH := Aside0.mk (Geo.new w x y z 23)
  clear hl he hel hr1 hr3
  go_enter Tryd.func5, Tryd.ntmps5
  go_wp2_with (fail)
  refine (oubliettelaw28_light.calls k A1 c1 l1 true _ (Kd.C_below HR1.out HB1.out) hc1 HL.out).mono ?_
  rintro e w1 ⟨rfl, hd⟩
  have HH1 := Aside0.mk (HH.out.step hd.below (by simp))
  obtain ⟨g0, g1, g2⟩ := HH1.out
  have HB2 := Aside0.mk (HB1.out.trans (hd.below.mono HB1.out.size))
  have HZ1 := Aside0.mk (show w.heap.size < w1.heap.size by have := hd.below.size; simp at this; omega)
  clear hd
  go_wp2_with (fail)
  clear g0 g1 g2
  refine (node_Encode.calls x y z A1 c1 l1 _ _ w1 (Kd.C_below HR1.out HB2.out) hc1 HE.out).mono ?_
  rintro e w2 ⟨v, rfl, hr, hb⟩
  obtain ⟨Aa, ca, rfl, hca, hCa⟩ := Kd.R_reads hr
  have HH2 := Aside0.mk (HH1.out.step hb HZ1.out)
  have HZ2 := Aside0.mk (show w.heap.size < w2.heap.size by have := hb.size; have := HZ1.out; omega)
  have HB3 := Aside0.mk (HB2.out.trans (hb.mono HB2.out.size))
  have HCA := Aside0.mk hCa
  clear hr hb hCa
  have HB3b := HB3
  obtain ⟨w2b, rfl⟩ : ∃ W, W = w2 := ⟨_, rfl⟩
  go_wp2_with (fail)
  refine (node_EncodeLeaf.calls s A3 c3 l3 _ _ w2b (HLD.below HB3b.out) (Kd.C_below HR3.out HB3b.out) hc3 HEL.out).mono ?_
  rintro e w3 ⟨v, rfl, hr, hb⟩
  obtain ⟨Ab, cb, rfl, hcb, hCb⟩ := Kd.R_reads hr
  have HB4 := Aside0.mk (HB3b.out.trans (hb.mono HB3b.out.size))
  have HCB := Aside0.mk hCb
  clear hr hb hCb
  go_wp2_with (fail)
  have HB6 := HB4
  obtain ⟨w5, rfl⟩ : ∃ W, W = w3 := ⟨_, rfl⟩
  refine (alive_calls w5).mono ?_
  rintro e w6 ⟨rfl, hb⟩
  have HB7 := Aside0.mk (HB6.out.trans (hb.mono HB6.out.size))
  clear hb
  go_wp2_with (fail)
  go_ret
  exact ⟨rfl, HB7.out⟩
end Go.Proofs.YtloagejeeakikaaDoor.QB
