/- The walk of NodeWrites, way by way: what the statement's function answers, of what its callees compute. -/
import Derived.Test.YtloagejeeakikaaDoorNdX
namespace Go.Proofs.YtloagejeeakikaaDoor.QB
open Go.RowKit Go.Proofs.YtloagejeeakikaaDoorW.PrintWords Go.Proofs.YtloagejeeakikaaDoorW.PrintLast Go.Proofs.YtloagejeeakikaaDoorW.PrintMore
open Go.Proofs.YtloagejeeakikaaDoor.Mem
set_option linter.unusedVariables false
set_option linter.unusedSimpArgs false
set_option maxHeartbeats 800000 in
theorem NodeWrites.dark1 (k : Nat) (x y z : Int) (s : ByteArray) (A1 A3 : Option Addr) (c1 c3 : Nat) (l1 : List (List Int)) (l3 : List Int) (w : World) (HLD : Laid w) (hr1 : Kd.C (Kd.slice 5 (Kd.int .u8)) w A1 l1.length l1) (hc1 : l1.length ≤ c1) (hr3 : Kd.C (Kd.int .u8) w A3 l3.length l3) (hc3 : l3.length ≤ c3) (hl : oubliettelaw28_light.f k l1 = some false) :
    Calls Tryd.prog 3 #[.agg #[.int .i64 x, .int .i64 y, .int .i64 z], .slice A1 l1.length c1, .string s, .slice A3 l3.length c3] w fun e w' => e = .returned (.bool true) ∧ Below w.heap.size w w' := by
  have HL := Aside0.mk hl
  have HR1 := Aside0.mk hr1
  have HB1 := Aside0.mk (below_alloc (Below.refl w.heap.size w) (.cells #[.int .i64 x, .int .i64 y, .int .i64 z] 23))
  have HC := Aside0.mk (Kd.C_below hr1 (below_alloc (Below.refl w.heap.size w) (.cells #[.int .i64 x, .int .i64 y, .int .i64 z] 23)))
  clear hl hr1 hr3
  go_enter Tryd.func3, Tryd.ntmps3
  go_wp2_with (fail)
  refine (oubliettelaw28_light.calls k A1 c1 l1 false _ HC.out hc1 HL.out).mono ?_
  rintro e w1 ⟨rfl, hd⟩
  have HB2 := Aside0.mk (HB1.out.trans (hd.below.mono HB1.out.size))
  clear hd
  go_wp2_with (fail)
  refine (alive_calls w1).mono ?_
  rintro e w2 ⟨rfl, hb⟩
  have HB3 := Aside0.mk (HB2.out.trans (hb.mono HB2.out.size))
  clear hb
  go_wp2_with (fail)
  go_ret
  exact ⟨rfl, HB3.out⟩
set_option maxHeartbeats 800000 in
theorem NodeWrites.dark2 (k : Nat) (x y z : Int) (s : ByteArray) (A1 A3 : Option Addr) (c1 c3 : Nat) (l1 : List (List Int)) (l3 : List Int) (w : World) (HLD : Laid w) (hr1 : Kd.C (Kd.slice 5 (Kd.int .u8)) w A1 l1.length l1) (hc1 : l1.length ≤ c1) (hr3 : Kd.C (Kd.int .u8) w A3 l3.length l3) (hc3 : l3.length ≤ c3) (hl : oubliettelaw28_light.f k l1 = some true) (hs : ¬ s.size ≤ 300) :
    Calls Tryd.prog 3 #[.agg #[.int .i64 x, .int .i64 y, .int .i64 z], .slice A1 l1.length c1, .string s, .slice A3 l3.length c3] w fun e w' => e = .returned (.bool true) ∧ Below w.heap.size w w' := by
  have HL := Aside0.mk hl
  have b1 : decide (300 < s.size) = true := decide_eq_true (by omega)
  have HB1 := Aside0.mk (below_alloc (Below.refl w.heap.size w) (.cells #[.int .i64 x, .int .i64 y, .int .i64 z] 23))
  have HC := Aside0.mk (Kd.C_below hr1 (below_alloc (Below.refl w.heap.size w) (.cells #[.int .i64 x, .int .i64 y, .int .i64 z] 23)))
  clear hl hr1 hr3 
  go_enter Tryd.func3, Tryd.ntmps3
  go_wp2_with (fail)
  refine (oubliettelaw28_light.calls k A1 c1 l1 true _ HC.out hc1 HL.out).mono ?_
  rintro e w1 ⟨rfl, hd⟩
  have HB2 := Aside0.mk (HB1.out.trans (hd.below.mono HB1.out.size))
  clear hd
  go_wp2_with (fail)
  refine (alive_calls w1).mono ?_
  rintro e w2 ⟨rfl, hb⟩
  have HB3 := Aside0.mk (HB2.out.trans (hb.mono HB2.out.size))
  clear hb
  go_wp2_with (fail)
  go_ret
  exact ⟨rfl, HB3.out⟩
set_option maxHeartbeats 800000 in
theorem NodeWrites.dark3 (k : Nat) (x y z : Int) (s : ByteArray) (A1 A3 : Option Addr) (c1 c3 : Nat) (l1 : List (List Int)) (l3 : List Int) (w : World) (HLD : Laid w) (hr1 : Kd.C (Kd.slice 5 (Kd.int .u8)) w A1 l1.length l1) (hc1 : l1.length ≤ c1) (hr3 : Kd.C (Kd.int .u8) w A3 l3.length l3) (hc3 : l3.length ≤ c3) (hl : oubliettelaw28_light.f k l1 = some true) (hs : s.size ≤ 300) (hs3 : ¬ l3.length ≤ 600) :
    Calls Tryd.prog 3 #[.agg #[.int .i64 x, .int .i64 y, .int .i64 z], .slice A1 l1.length c1, .string s, .slice A3 l3.length c3] w fun e w' => e = .returned (.bool true) ∧ Below w.heap.size w w' := by
  have HL := Aside0.mk hl
  have b1 : decide (300 < s.size) = false := decide_eq_false (by omega)
  have b2 : decide (600 < l3.length) = true := decide_eq_true (by omega)
  have HB1 := Aside0.mk (below_alloc (Below.refl w.heap.size w) (.cells #[.int .i64 x, .int .i64 y, .int .i64 z] 23))
  have HC := Aside0.mk (Kd.C_below hr1 (below_alloc (Below.refl w.heap.size w) (.cells #[.int .i64 x, .int .i64 y, .int .i64 z] 23)))
  clear hl hr1 hr3 
  go_enter Tryd.func3, Tryd.ntmps3
  go_wp2_with (fail)
  refine (oubliettelaw28_light.calls k A1 c1 l1 true _ HC.out hc1 HL.out).mono ?_
  rintro e w1 ⟨rfl, hd⟩
  have HB2 := Aside0.mk (HB1.out.trans (hd.below.mono HB1.out.size))
  clear hd
  go_wp2_with (fail)
  refine (alive_calls w1).mono ?_
  rintro e w2 ⟨rfl, hb⟩
  have HB3 := Aside0.mk (HB2.out.trans (hb.mono HB2.out.size))
  clear hb
  go_wp2_with (fail)
  go_ret
  exact ⟨rfl, HB3.out⟩
set_option maxHeartbeats 1600000 in
theorem NodeWrites.lit11 (k : Nat) (x y z : Int) (s : ByteArray) (A1 A3 : Option Addr) (c1 c3 : Nat) (l1 : List (List Int)) (l3 : List Int) (w : World) (HLD : Laid w) (hr1 : Kd.C (Kd.slice 5 (Kd.int .u8)) w A1 l1.length l1) (hc1 : l1.length ≤ c1) (hr3 : Kd.C (Kd.int .u8) w A3 l3.length l3) (hc3 : l3.length ≤ c3) (ra rb : List Int) (hl : oubliettelaw28_light.f k l1 = some true) (hs : s.size ≤ 300) (hs3 : l3.length ≤ 600) (he : node_Encode.f x y z l1 = some (ra, 0)) (hel : node_EncodeLeaf.f s l3 = some (rb, 0)) (ht1 : oublietteref28_Right.f k x y z l1 = some true) (ht2 : oublietteref28_RightLeaf.f k s l3 = some true) (hB : oublietteref28_Bytes.f k l1 = some ra) (hSa : oublietteref01_Same.f k ra ra = some true) (hL : ref28_LeafBytes.f s l3 = some rb) (hSb : oublietteref01_Same.f k rb rb = some true) :
    Calls Tryd.prog 3 #[.agg #[.int .i64 x, .int .i64 y, .int .i64 z], .slice A1 l1.length c1, .string s, .slice A3 l3.length c3] w fun e w' => e = .returned (.bool true) ∧ Below w.heap.size w w' := by
  have HL := Aside0.mk hl
  have HE := Aside0.mk he
  have HEL := Aside0.mk hel
  have HT1 := Aside0.mk ht1
  have HT2 := Aside0.mk ht2
  have HBY := Aside0.mk hB
  have HSA := Aside0.mk hSa
  clear hB hSa
  have HLB := Aside0.mk hL
  have HSB := Aside0.mk hSb
  clear hL hSb
  have b1 : decide (300 < s.size) = false := decide_eq_false (by omega)
  have b2 : decide (600 < l3.length) = false := decide_eq_false (by omega)
  have HR1 := Aside0.mk hr1
  have HR3 := Aside0.mk hr3
  have HB1 := Aside0.mk (below_alloc (Below.refl w.heap.size w) (.cells #[.int .i64 x, .int .i64 y, .int .i64 z] 23))
  have HH := Aside0.mk (Geo.new w x y z 23)
  clear hl he hel ht1 ht2 hr1 hr3
  go_enter Tryd.func3, Tryd.ntmps3
  go_wp2_with (fail)
  refine (oubliettelaw28_light.calls k A1 c1 l1 true _ (Kd.C_below HR1.out HB1.out) hc1 HL.out).mono ?_
  rintro e w1 ⟨rfl, hd⟩
  have HH1 := Aside0.mk (HH.out.step hd.below (by simp))
  obtain ⟨g0, g1, g2⟩ := HH1.out
  have HB2 := Aside0.mk (HB1.out.trans (hd.below.mono HB1.out.size))
  have HZ1 := Aside0.mk (show w.heap.size < w1.heap.size by have := hd.below.size; simp at this; omega)
  clear hd
  go_wp2_with (fail)
  clear g0 g1 g2
  refine (node_Encode.calls x y z A1 c1 l1 _ _ w1 (Kd.C_below HR1.out HB2.out) hc1 HE.out).mono ?_
  rintro e w2 ⟨v, rfl, hr, hb⟩
  obtain ⟨Aa, ca, rfl, hca, hCa⟩ := Kd.R_reads hr
  have HH2 := Aside0.mk (HH1.out.step hb HZ1.out)
  have HZ2 := Aside0.mk (show w.heap.size < w2.heap.size by have := hb.size; have := HZ1.out; omega)
  have HB3 := Aside0.mk (HB2.out.trans (hb.mono HB2.out.size))
  have HCA := Aside0.mk hCa
  clear hr hb hCa
  go_wp2_with (fail)
  refine (node_EncodeLeaf.calls s A3 c3 l3 _ _ w2 (HLD.below HB3.out) (Kd.C_below HR3.out HB3.out) hc3 HEL.out).mono ?_
  rintro e w3 ⟨v, rfl, hr, hb⟩
  obtain ⟨Ab, cb, rfl, hcb, hCb⟩ := Kd.R_reads hr
  have HH3 := Aside0.mk (HH2.out.step hb HZ2.out)
  obtain ⟨g0, g1, g2⟩ := HH3.out
  have HB4 := Aside0.mk (HB3.out.trans (hb.mono HB3.out.size))
  have HCB := Aside0.mk hCb
  have HCA3 := Aside0.mk (Kd.C_below HCA.out hb)
  clear hr hb hCb
  go_wp2_with (fail)
  clear g0 g1 g2
  refine (oublietteref28_Right.calls k x y z A1 c1 l1 true w3 (Kd.C_below HR1.out HB4.out) hc1 HT1.out).mono ?_
  rintro e w4 ⟨rfl, hb⟩
  have HB5 := Aside0.mk (HB4.out.trans (hb.mono HB4.out.size))
  have HCA4 := Aside0.mk (Kd.C_below HCA3.out hb)
  have HCB4 := Aside0.mk (Kd.C_below HCB.out hb)
  clear hb
  go_wp2_with (fail)
  refine (oublietteref28_Bytes.calls k A1 c1 l1 ra w4 (Kd.C_below HR1.out HB5.out) hc1 HBY.out).mono ?_
  rintro e w5 ⟨v, rfl, hr, hb⟩
  obtain ⟨Ac, cc, rfl, hcc, hCc⟩ := Kd.R_reads hr
  have HCC := Aside0.mk hCc
  have HB6 := Aside0.mk (HB5.out.trans (hb.mono HB5.out.size))
  have HCA5 := Aside0.mk (Kd.C_below HCA4.out hb)
  have HCB5 := Aside0.mk (Kd.C_below HCB4.out hb)
  clear hr hb hCc
  go_wp2_with (fail)
  refine (oublietteref01_Same.calls k Aa ca ra Ac cc ra true w5 HCA5.out hca HCC.out hcc HSA.out).mono ?_
  rintro e w6 ⟨rfl, hd⟩
  have HB7 := Aside0.mk (HB6.out.trans (hd.below.mono HB6.out.size))
  have HCB6 := Aside0.mk (Kd.C_below HCB5.out hd.below)
  clear hd
  go_wp2_with (fail)
  refine (oublietteref28_RightLeaf.calls k s A3 c3 l3 true w6 (Kd.C_below HR3.out HB7.out) hc3 HT2.out).mono ?_
  rintro e w7 ⟨rfl, hb⟩
  have HB8 := Aside0.mk (HB7.out.trans (hb.mono HB7.out.size))
  have HCB7 := Aside0.mk (Kd.C_below HCB6.out hb)
  clear hb
  go_wp2_with (fail)
  refine (ref28_LeafBytes.calls s A3 c3 l3 rb w7 (Kd.C_below HR3.out HB8.out) hc3 HLB.out).mono ?_
  rintro e w8 ⟨v, rfl, hr, hb⟩
  obtain ⟨Ad, cd, rfl, hcd, hCd⟩ := Kd.R_reads hr
  have HCD := Aside0.mk hCd
  have HB9 := Aside0.mk (HB8.out.trans (hb.mono HB8.out.size))
  have HCB8 := Aside0.mk (Kd.C_below HCB7.out hb)
  clear hr hb hCd
  go_wp2_with (fail)
  refine (oublietteref01_Same.calls k Ab cb rb Ad cd rb true w8 HCB8.out hcb HCD.out hcd HSB.out).mono ?_
  rintro e w9 ⟨rfl, hd⟩
  have HB10 := Aside0.mk (HB9.out.trans (hd.below.mono HB9.out.size))
  clear hd
  go_wp2_with (fail)
  refine (alive_calls w9).mono ?_
  rintro e w10 ⟨rfl, hb⟩
  have HB11 := Aside0.mk (HB10.out.trans (hb.mono HB10.out.size))
  clear hb
  go_wp2_with (fail)
  go_ret
  exact ⟨rfl, HB11.out⟩
set_option maxHeartbeats 1600000 in
theorem NodeWrites.lit10 (k : Nat) (x y z : Int) (s : ByteArray) (A1 A3 : Option Addr) (c1 c3 : Nat) (l1 : List (List Int)) (l3 : List Int) (w : World) (HLD : Laid w) (hr1 : Kd.C (Kd.slice 5 (Kd.int .u8)) w A1 l1.length l1) (hc1 : l1.length ≤ c1) (hr3 : Kd.C (Kd.int .u8) w A3 l3.length l3) (hc3 : l3.length ≤ c3) (ra rb : List Int) (hl : oubliettelaw28_light.f k l1 = some true) (hs : s.size ≤ 300) (hs3 : l3.length ≤ 600) (he : node_Encode.f x y z l1 = some (ra, 0)) (hel : node_EncodeLeaf.f s l3 = some ([], 2)) (ht1 : oublietteref28_Right.f k x y z l1 = some true) (ht2 : oublietteref28_RightLeaf.f k s l3 = some false) (hB : oublietteref28_Bytes.f k l1 = some ra) (hSa : oublietteref01_Same.f k ra ra = some true) :
    Calls Tryd.prog 3 #[.agg #[.int .i64 x, .int .i64 y, .int .i64 z], .slice A1 l1.length c1, .string s, .slice A3 l3.length c3] w fun e w' => e = .returned (.bool true) ∧ Below w.heap.size w w' := by
  have HL := Aside0.mk hl
  have HE := Aside0.mk he
  have HEL := Aside0.mk hel
  have HT1 := Aside0.mk ht1
  have HT2 := Aside0.mk ht2
  have HBY := Aside0.mk hB
  have HSA := Aside0.mk hSa
  clear hB hSa
  have b1 : decide (300 < s.size) = false := decide_eq_false (by omega)
  have b2 : decide (600 < l3.length) = false := decide_eq_false (by omega)
  have HR1 := Aside0.mk hr1
  have HR3 := Aside0.mk hr3
  have HB1 := Aside0.mk (below_alloc (Below.refl w.heap.size w) (.cells #[.int .i64 x, .int .i64 y, .int .i64 z] 23))
  have HH := Aside0.mk (Geo.new w x y z 23)
  clear hl he hel ht1 ht2 hr1 hr3
  go_enter Tryd.func3, Tryd.ntmps3
  go_wp2_with (fail)
  refine (oubliettelaw28_light.calls k A1 c1 l1 true _ (Kd.C_below HR1.out HB1.out) hc1 HL.out).mono ?_
  rintro e w1 ⟨rfl, hd⟩
  have HH1 := Aside0.mk (HH.out.step hd.below (by simp))
  obtain ⟨g0, g1, g2⟩ := HH1.out
  have HB2 := Aside0.mk (HB1.out.trans (hd.below.mono HB1.out.size))
  have HZ1 := Aside0.mk (show w.heap.size < w1.heap.size by have := hd.below.size; simp at this; omega)
  clear hd
  go_wp2_with (fail)
  clear g0 g1 g2
  refine (node_Encode.calls x y z A1 c1 l1 _ _ w1 (Kd.C_below HR1.out HB2.out) hc1 HE.out).mono ?_
  rintro e w2 ⟨v, rfl, hr, hb⟩
  obtain ⟨Aa, ca, rfl, hca, hCa⟩ := Kd.R_reads hr
  have HH2 := Aside0.mk (HH1.out.step hb HZ1.out)
  have HZ2 := Aside0.mk (show w.heap.size < w2.heap.size by have := hb.size; have := HZ1.out; omega)
  have HB3 := Aside0.mk (HB2.out.trans (hb.mono HB2.out.size))
  have HCA := Aside0.mk hCa
  clear hr hb hCa
  go_wp2_with (fail)
  refine (node_EncodeLeaf.calls s A3 c3 l3 _ _ w2 (HLD.below HB3.out) (Kd.C_below HR3.out HB3.out) hc3 HEL.out).mono ?_
  rintro e w3 ⟨v, rfl, hr, hb⟩
  obtain ⟨Ab, cb, rfl, hcb, hCb⟩ := Kd.R_reads hr
  have HH3 := Aside0.mk (HH2.out.step hb HZ2.out)
  obtain ⟨g0, g1, g2⟩ := HH3.out
  have HB4 := Aside0.mk (HB3.out.trans (hb.mono HB3.out.size))
  have HCB := Aside0.mk hCb
  have HCA3 := Aside0.mk (Kd.C_below HCA.out hb)
  clear hr hb hCb
  go_wp2_with (fail)
  clear g0 g1 g2
  refine (oublietteref28_Right.calls k x y z A1 c1 l1 true w3 (Kd.C_below HR1.out HB4.out) hc1 HT1.out).mono ?_
  rintro e w4 ⟨rfl, hb⟩
  have HB5 := Aside0.mk (HB4.out.trans (hb.mono HB4.out.size))
  have HCA4 := Aside0.mk (Kd.C_below HCA3.out hb)
  have HCB4 := Aside0.mk (Kd.C_below HCB.out hb)
  clear hb
  go_wp2_with (fail)
  refine (oublietteref28_Bytes.calls k A1 c1 l1 ra w4 (Kd.C_below HR1.out HB5.out) hc1 HBY.out).mono ?_
  rintro e w5 ⟨v, rfl, hr, hb⟩
  obtain ⟨Ac, cc, rfl, hcc, hCc⟩ := Kd.R_reads hr
  have HCC := Aside0.mk hCc
  have HB6 := Aside0.mk (HB5.out.trans (hb.mono HB5.out.size))
  have HCA5 := Aside0.mk (Kd.C_below HCA4.out hb)
  have HCB5 := Aside0.mk (Kd.C_below HCB4.out hb)
  clear hr hb hCc
  go_wp2_with (fail)
  refine (oublietteref01_Same.calls k Aa ca ra Ac cc ra true w5 HCA5.out hca HCC.out hcc HSA.out).mono ?_
  rintro e w6 ⟨rfl, hd⟩
  have HB7 := Aside0.mk (HB6.out.trans (hd.below.mono HB6.out.size))
  have HCB6 := Aside0.mk (Kd.C_below HCB5.out hd.below)
  clear hd
  go_wp2_with (fail)
  refine (oublietteref28_RightLeaf.calls k s A3 c3 l3 false w6 (Kd.C_below HR3.out HB7.out) hc3 HT2.out).mono ?_
  rintro e w7 ⟨rfl, hb⟩
  have HB8 := Aside0.mk (HB7.out.trans (hb.mono HB7.out.size))
  have HCB7 := Aside0.mk (Kd.C_below HCB6.out hb)
  clear hb
  go_wp2_with (fail)
  have HB10 := HB8
  obtain ⟨w9, rfl⟩ : ∃ W, W = w7 := ⟨_, rfl⟩
  refine (alive_calls w9).mono ?_
  rintro e w10 ⟨rfl, hb⟩
  have HB11 := Aside0.mk (HB10.out.trans (hb.mono HB10.out.size))
  clear hb
  go_wp2_with (fail)
  go_ret
  exact ⟨rfl, HB11.out⟩
set_option maxHeartbeats 1600000 in
theorem NodeWrites.lit01 (k : Nat) (x y z : Int) (s : ByteArray) (A1 A3 : Option Addr) (c1 c3 : Nat) (l1 : List (List Int)) (l3 : List Int) (w : World) (HLD : Laid w) (hr1 : Kd.C (Kd.slice 5 (Kd.int .u8)) w A1 l1.length l1) (hc1 : l1.length ≤ c1) (hr3 : Kd.C (Kd.int .u8) w A3 l3.length l3) (hc3 : l3.length ≤ c3) (ra rb : List Int) (hl : oubliettelaw28_light.f k l1 = some true) (hs : s.size ≤ 300) (hs3 : l3.length ≤ 600) (he : node_Encode.f x y z l1 = some ([], 2)) (hel : node_EncodeLeaf.f s l3 = some (rb, 0)) (ht1 : oublietteref28_Right.f k x y z l1 = some false) (ht2 : oublietteref28_RightLeaf.f k s l3 = some true) (hL : ref28_LeafBytes.f s l3 = some rb) (hSb : oublietteref01_Same.f k rb rb = some true) :
    Calls Tryd.prog 3 #[.agg #[.int .i64 x, .int .i64 y, .int .i64 z], .slice A1 l1.length c1, .string s, .slice A3 l3.length c3] w fun e w' => e = .returned (.bool true) ∧ Below w.heap.size w w' := by
  have HL := Aside0.mk hl
  have HE := Aside0.mk he
  have HEL := Aside0.mk hel
  have HT1 := Aside0.mk ht1
  have HT2 := Aside0.mk ht2
  have HLB := Aside0.mk hL
  have HSB := Aside0.mk hSb
  clear hL hSb
  have b1 : decide (300 < s.size) = false := decide_eq_false (by omega)
  have b2 : decide (600 < l3.length) = false := decide_eq_false (by omega)
  have HR1 := Aside0.mk hr1
  have HR3 := Aside0.mk hr3
  have HB1 := Aside0.mk (below_alloc (Below.refl w.heap.size w) (.cells #[.int .i64 x, .int .i64 y, .int .i64 z] 23))
  have HH := Aside0.mk (Geo.new w x y z 23)
  clear hl he hel ht1 ht2 hr1 hr3
  go_enter Tryd.func3, Tryd.ntmps3
  go_wp2_with (fail)
  refine (oubliettelaw28_light.calls k A1 c1 l1 true _ (Kd.C_below HR1.out HB1.out) hc1 HL.out).mono ?_
  rintro e w1 ⟨rfl, hd⟩
  have HH1 := Aside0.mk (HH.out.step hd.below (by simp))
  obtain ⟨g0, g1, g2⟩ := HH1.out
  have HB2 := Aside0.mk (HB1.out.trans (hd.below.mono HB1.out.size))
  have HZ1 := Aside0.mk (show w.heap.size < w1.heap.size by have := hd.below.size; simp at this; omega)
  clear hd
  go_wp2_with (fail)
  clear g0 g1 g2
  refine (node_Encode.calls x y z A1 c1 l1 _ _ w1 (Kd.C_below HR1.out HB2.out) hc1 HE.out).mono ?_
  rintro e w2 ⟨v, rfl, hr, hb⟩
  obtain ⟨Aa, ca, rfl, hca, hCa⟩ := Kd.R_reads hr
  have HH2 := Aside0.mk (HH1.out.step hb HZ1.out)
  have HZ2 := Aside0.mk (show w.heap.size < w2.heap.size by have := hb.size; have := HZ1.out; omega)
  have HB3 := Aside0.mk (HB2.out.trans (hb.mono HB2.out.size))
  have HCA := Aside0.mk hCa
  clear hr hb hCa
  go_wp2_with (fail)
  refine (node_EncodeLeaf.calls s A3 c3 l3 _ _ w2 (HLD.below HB3.out) (Kd.C_below HR3.out HB3.out) hc3 HEL.out).mono ?_
  rintro e w3 ⟨v, rfl, hr, hb⟩
  obtain ⟨Ab, cb, rfl, hcb, hCb⟩ := Kd.R_reads hr
  have HH3 := Aside0.mk (HH2.out.step hb HZ2.out)
  obtain ⟨g0, g1, g2⟩ := HH3.out
  have HB4 := Aside0.mk (HB3.out.trans (hb.mono HB3.out.size))
  have HCB := Aside0.mk hCb
  have HCA3 := Aside0.mk (Kd.C_below HCA.out hb)
  clear hr hb hCb
  go_wp2_with (fail)
  clear g0 g1 g2
  refine (oublietteref28_Right.calls k x y z A1 c1 l1 false w3 (Kd.C_below HR1.out HB4.out) hc1 HT1.out).mono ?_
  rintro e w4 ⟨rfl, hb⟩
  have HB5 := Aside0.mk (HB4.out.trans (hb.mono HB4.out.size))
  have HCA4 := Aside0.mk (Kd.C_below HCA3.out hb)
  have HCB4 := Aside0.mk (Kd.C_below HCB.out hb)
  clear hb
  go_wp2_with (fail)
  have HB7 := HB5
  have HCB6 := HCB4
  obtain ⟨w6, rfl⟩ : ∃ W, W = w4 := ⟨_, rfl⟩
  refine (oublietteref28_RightLeaf.calls k s A3 c3 l3 true w6 (Kd.C_below HR3.out HB7.out) hc3 HT2.out).mono ?_
  rintro e w7 ⟨rfl, hb⟩
  have HB8 := Aside0.mk (HB7.out.trans (hb.mono HB7.out.size))
  have HCB7 := Aside0.mk (Kd.C_below HCB6.out hb)
  clear hb
  go_wp2_with (fail)
  refine (ref28_LeafBytes.calls s A3 c3 l3 rb w7 (Kd.C_below HR3.out HB8.out) hc3 HLB.out).mono ?_
  rintro e w8 ⟨v, rfl, hr, hb⟩
  obtain ⟨Ad, cd, rfl, hcd, hCd⟩ := Kd.R_reads hr
  have HCD := Aside0.mk hCd
  have HB9 := Aside0.mk (HB8.out.trans (hb.mono HB8.out.size))
  have HCB8 := Aside0.mk (Kd.C_below HCB7.out hb)
  clear hr hb hCd
  go_wp2_with (fail)
  refine (oublietteref01_Same.calls k Ab cb rb Ad cd rb true w8 HCB8.out hcb HCD.out hcd HSB.out).mono ?_
  rintro e w9 ⟨rfl, hd⟩
  have HB10 := Aside0.mk (HB9.out.trans (hd.below.mono HB9.out.size))
  clear hd
  go_wp2_with (fail)
  refine (alive_calls w9).mono ?_
  rintro e w10 ⟨rfl, hb⟩
  have HB11 := Aside0.mk (HB10.out.trans (hb.mono HB10.out.size))
  clear hb
  go_wp2_with (fail)
  go_ret
  exact ⟨rfl, HB11.out⟩
set_option maxHeartbeats 1600000 in
theorem NodeWrites.lit00 (k : Nat) (x y z : Int) (s : ByteArray) (A1 A3 : Option Addr) (c1 c3 : Nat) (l1 : List (List Int)) (l3 : List Int) (w : World) (HLD : Laid w) (hr1 : Kd.C (Kd.slice 5 (Kd.int .u8)) w A1 l1.length l1) (hc1 : l1.length ≤ c1) (hr3 : Kd.C (Kd.int .u8) w A3 l3.length l3) (hc3 : l3.length ≤ c3) (ra rb : List Int) (hl : oubliettelaw28_light.f k l1 = some true) (hs : s.size ≤ 300) (hs3 : l3.length ≤ 600) (he : node_Encode.f x y z l1 = some ([], 2)) (hel : node_EncodeLeaf.f s l3 = some ([], 2)) (ht1 : oublietteref28_Right.f k x y z l1 = some false) (ht2 : oublietteref28_RightLeaf.f k s l3 = some false) :
    Calls Tryd.prog 3 #[.agg #[.int .i64 x, .int .i64 y, .int .i64 z], .slice A1 l1.length c1, .string s, .slice A3 l3.length c3] w fun e w' => e = .returned (.bool true) ∧ Below w.heap.size w w' := by
  have HL := Aside0.mk hl
  have HE := Aside0.mk he
  have HEL := Aside0.mk hel
  have HT1 := Aside0.mk ht1
  have HT2 := Aside0.mk ht2
  have b1 : decide (300 < s.size) = false := decide_eq_false (by omega)
  have b2 : decide (600 < l3.length) = false := decide_eq_false (by omega)
  have HR1 := Aside0.mk hr1
  have HR3 := Aside0.mk hr3
  have HB1 := Aside0.mk (below_alloc (Below.refl w.heap.size w) (.cells #[.int .i64 x, .int .i64 y, .int .i64 z] 23))
  have HH := Aside0.mk (Geo.new w x y z 23)
  clear hl he hel ht1 ht2 hr1 hr3
  go_enter Tryd.func3, Tryd.ntmps3
  go_wp2_with (fail)
  refine (oubliettelaw28_light.calls k A1 c1 l1 true _ (Kd.C_below HR1.out HB1.out) hc1 HL.out).mono ?_
  rintro e w1 ⟨rfl, hd⟩
  have HH1 := Aside0.mk (HH.out.step hd.below (by simp))
  obtain ⟨g0, g1, g2⟩ := HH1.out
  have HB2 := Aside0.mk (HB1.out.trans (hd.below.mono HB1.out.size))
  have HZ1 := Aside0.mk (show w.heap.size < w1.heap.size by have := hd.below.size; simp at this; omega)
  clear hd
  go_wp2_with (fail)
  clear g0 g1 g2
  refine (node_Encode.calls x y z A1 c1 l1 _ _ w1 (Kd.C_below HR1.out HB2.out) hc1 HE.out).mono ?_
  rintro e w2 ⟨v, rfl, hr, hb⟩
  obtain ⟨Aa, ca, rfl, hca, hCa⟩ := Kd.R_reads hr
  have HH2 := Aside0.mk (HH1.out.step hb HZ1.out)
  have HZ2 := Aside0.mk (show w.heap.size < w2.heap.size by have := hb.size; have := HZ1.out; omega)
  have HB3 := Aside0.mk (HB2.out.trans (hb.mono HB2.out.size))
  have HCA := Aside0.mk hCa
  clear hr hb hCa
  go_wp2_with (fail)
  refine (node_EncodeLeaf.calls s A3 c3 l3 _ _ w2 (HLD.below HB3.out) (Kd.C_below HR3.out HB3.out) hc3 HEL.out).mono ?_
  rintro e w3 ⟨v, rfl, hr, hb⟩
  obtain ⟨Ab, cb, rfl, hcb, hCb⟩ := Kd.R_reads hr
  have HH3 := Aside0.mk (HH2.out.step hb HZ2.out)
  obtain ⟨g0, g1, g2⟩ := HH3.out
  have HB4 := Aside0.mk (HB3.out.trans (hb.mono HB3.out.size))
  have HCB := Aside0.mk hCb
  have HCA3 := Aside0.mk (Kd.C_below HCA.out hb)
  clear hr hb hCb
  go_wp2_with (fail)
  clear g0 g1 g2
  refine (oublietteref28_Right.calls k x y z A1 c1 l1 false w3 (Kd.C_below HR1.out HB4.out) hc1 HT1.out).mono ?_
  rintro e w4 ⟨rfl, hb⟩
  have HB5 := Aside0.mk (HB4.out.trans (hb.mono HB4.out.size))
  have HCA4 := Aside0.mk (Kd.C_below HCA3.out hb)
  have HCB4 := Aside0.mk (Kd.C_below HCB.out hb)
  clear hb
  go_wp2_with (fail)
  have HB7 := HB5
  have HCB6 := HCB4
  obtain ⟨w6, rfl⟩ : ∃ W, W = w4 := ⟨_, rfl⟩
  refine (oublietteref28_RightLeaf.calls k s A3 c3 l3 false w6 (Kd.C_below HR3.out HB7.out) hc3 HT2.out).mono ?_
  rintro e w7 ⟨rfl, hb⟩
  have HB8 := Aside0.mk (HB7.out.trans (hb.mono HB7.out.size))
  have HCB7 := Aside0.mk (Kd.C_below HCB6.out hb)
  clear hb
  go_wp2_with (fail)
  have HB10 := HB8
  obtain ⟨w9, rfl⟩ : ∃ W, W = w7 := ⟨_, rfl⟩
  refine (alive_calls w9).mono ?_
  rintro e w10 ⟨rfl, hb⟩
  have HB11 := Aside0.mk (HB10.out.trans (hb.mono HB10.out.size))
  clear hb
  go_wp2_with (fail)
  go_ret
  exact ⟨rfl, HB11.out⟩
end Go.Proofs.YtloagejeeakikaaDoor.QB
