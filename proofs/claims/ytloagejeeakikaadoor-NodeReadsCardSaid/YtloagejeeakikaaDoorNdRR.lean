/- The walk of NodeReads, way by way: what the statement's function answers, of what its callees compute. NodeReads: what is read is what the document reads; the statement's function returns true. -/
import Derived.Test.YtloagejeeakikaaDoorNdB
import Derived.Test.YtloagejeeakikaaDoorNdKO
namespace Go.Proofs.YtloagejeeakikaaDoor.QB
open Go.RowKit Go.Proofs.YtloagejeeakikaaDoorW.PrintWords Go.Proofs.YtloagejeeakikaaDoorW.PrintLast Go.Proofs.YtloagejeeakikaaDoorW.PrintMore
open Go.Proofs.YtloagejeeakikaaDoor.Mem
set_option linter.unusedVariables false
set_option linter.unusedSimpArgs false
set_option maxHeartbeats 800000 in
set_option maxRecDepth 100000 in
theorem NodeReads.dark (k : Nat) (x y z : Int) (A : Option Addr) (c : Nat) (l : List Int) (w : World) (HLD : Laid w) (hr : Kd.C (Kd.int .u8) w A l.length l) (hc : l.length ≤ c) (hl : ¬ l.length ≤ 900) :
    Calls Tryd.prog 4 #[.agg #[.int .i64 x, .int .i64 y, .int .i64 z], .slice A l.length c] w fun e w' => e = .returned (.bool true) ∧ Below w.heap.size w w' := by
  have b1 : decide (900 < l.length) = true := decide_eq_true (by omega)
  have HB1 := Aside0.mk (below_alloc (Below.refl w.heap.size w) (.cells #[.int .i64 x, .int .i64 y, .int .i64 z] 23))
  clear hr
  go_enter Tryd.func4, Tryd.ntmps4
  go_wp2_with (fail)
  refine (alive_calls _).mono ?_
  rintro e w2 ⟨rfl, hb⟩
  have HB3 := Aside0.mk (HB1.out.trans (hb.mono HB1.out.size))
  clear hb
  go_wp2_with (fail)
  go_ret
  exact ⟨rfl, HB3.out⟩
set_option maxHeartbeats 1600000 in
set_option maxRecDepth 100000 in
theorem NodeReads.leafno (k : Nat) (x y z : Int) (A : Option Addr) (c : Nat) (l : List Int) (w : World) (HLD : Laid w) (hr : Kd.C (Kd.int .u8) w A l.length l) (hc : l.length ≤ c) (S : ByteArray) (X : List Int) (rows : List (List Int)) (hl : l.length ≤ 900) (hD : node_DecodeLeaf.f l = some (S, X, 0)) (hO : ∀ W, Below w.heap.size w W → Calls Tryd.prog 18 #[.slice A l.length c] W (OLPost W S X true)) (hSX : oublietteref01_Same.f k X X = some true) (hE : node_Decode.f x y z l = some ([], 2)) (hG : oublietteref21_Right.f x y z = some false) :
    Calls Tryd.prog 4 #[.agg #[.int .i64 x, .int .i64 y, .int .i64 z], .slice A l.length c] w fun e w' => e = .returned (.bool true) ∧ Below w.heap.size w w' := by
  have HD := Aside0.mk hD
  have HO := Aside0.mk hO
  have HSX := Aside0.mk hSX
  have HE := Aside0.mk hE
  have HG := Aside0.mk hG
  have b1 : decide (900 < l.length) = false := decide_eq_false (by omega)
  have HR := Aside0.mk hr
  have HEM := Aside0.mk (show node_Empty.f l = some ((l.length : Int) == 0) from rfl)
  have HB1 := Aside0.mk (below_alloc (Below.refl w.heap.size w) (.cells #[.int .i64 x, .int .i64 y, .int .i64 z] 23))
  have HH := Aside0.mk (Geo.new w x y z 23)
  clear hD hO hSX hE hG hr
  go_enter Tryd.func4, Tryd.ntmps4
  go_wp2_with (fail)
  refine (node_Decode.calls x y z A c l _ _ _ (Kd.C_below HR.out HB1.out) hc HE.out).mono ?_
  rintro e w1 ⟨v, rfl, hr, hb⟩
  obtain ⟨Aa, ca, rfl, hca, hCa⟩ := Kd.R_reads hr
  have HH1 := Aside0.mk (HH.out.step hb (by simp))
  have HB2 := Aside0.mk (HB1.out.trans (hb.mono HB1.out.size))
  have HZ1 := Aside0.mk (show w.heap.size < w1.heap.size by have := hb.size; simp at this; omega)
  have HCA := Aside0.mk hCa
  clear hr hb hCa
  go_wp2_with (fail)
  refine (node_DecodeLeaf.calls A c l S X 0 w1 (HLD.below HB2.out) (Kd.C_below HR.out HB2.out) hc HD.out).mono ?_
  rintro e w2 ⟨v, rfl, hr, hb⟩
  obtain ⟨Ab, cb, rfl, hcb, hCb⟩ := Kd.R_reads hr
  have HH2 := Aside0.mk (HH1.out.step hb HZ1.out)
  have HB3 := Aside0.mk (HB2.out.trans (hb.mono HB2.out.size))
  have HZ2 := Aside0.mk (show w.heap.size < w2.heap.size by have := hb.size; have := HZ1.out; omega)
  have HCB := Aside0.mk hCb
  have HCA2 := Aside0.mk (Kd.C_below HCA.out hb)
  clear hr hb hCb
  go_wp2_with (fail)
  refine (HO.out w2 HB3.out).mono ?_
  rintro e w3 ⟨Ac, cc, rfl, hcc, hCc, hb⟩
  have HH3 := Aside0.mk (HH2.out.step hb HZ2.out)
  have HB4 := Aside0.mk (HB3.out.trans (hb.mono HB3.out.size))
  have HZ3 := Aside0.mk (show w.heap.size < w3.heap.size by have := hb.size; have := HZ2.out; omega)
  have HCC := Aside0.mk (C_of hCc)
  have HCA3 := Aside0.mk (Kd.C_below HCA2.out hb)
  have HCB3 := Aside0.mk (Kd.C_below HCB.out hb)
  clear hb hCc
  go_wp2_with (fail)
  refine (node_Empty.calls A c l ((l.length : Int) == 0) w3 (Kd.C_below HR.out HB4.out) hc HEM.out).mono ?_
  rintro e w4 ⟨rfl, hd⟩
  have HH4 := Aside0.mk (HH3.out.step hd.below HZ3.out)
  have HB5 := Aside0.mk (HB4.out.trans (hd.below.mono HB4.out.size))
  have HZ4 := Aside0.mk (show w.heap.size < w4.heap.size by have := hd.below.size; have := HZ3.out; omega)
  have HCA4 := Aside0.mk (Kd.C_below HCA3.out hd.below)
  have HCB4 := Aside0.mk (Kd.C_below HCB3.out hd.below)
  have HCC4 := Aside0.mk (Kd.C_below HCC.out hd.below)
  clear hd
  go_wp2_with (fail)
  refine (oublietteref01_Same.calls k Ab cb X Ac cc X true w4 HCB4.out hcb HCC4.out hcc HSX.out).mono ?_
  rintro e w5 ⟨rfl, hd⟩
  have HH5 := Aside0.mk (HH4.out.step hd.below HZ4.out)
  have HB6 := Aside0.mk (HB5.out.trans (hd.below.mono HB5.out.size))
  have HZ5 := Aside0.mk (show w.heap.size < w5.heap.size by have := hd.below.size; have := HZ4.out; omega)
  have HCA5 := Aside0.mk (Kd.C_below HCA4.out hd.below)
  clear hd
  obtain ⟨g0, g1, g2⟩ := HH5.out
  go_wp2_with (fail)
  clear g0 g1 g2
  refine (oublietteref21_Right.calls x y z false w5 HG.out).mono ?_
  rintro e w6 ⟨rfl, hb⟩
  have HH6 := Aside0.mk (HH5.out.step hb HZ5.out)
  have HB7 := Aside0.mk (HB6.out.trans (hb.mono HB6.out.size))
  have HCA6 := Aside0.mk (Kd.C_below HCA5.out hb)
  clear hb
  go_wp2_with (fail)
  have HB9 := HB7
  obtain ⟨w9, rfl⟩ : ∃ W, W = w6 := ⟨_, rfl⟩
  refine (alive_calls w9).mono ?_
  rintro e w10 ⟨rfl, hb⟩
  have HB10 := Aside0.mk (HB9.out.trans (hb.mono HB9.out.size))
  clear hb
  go_wp2_with (fail)
  go_ret
  exact ⟨rfl, HB10.out⟩
set_option maxHeartbeats 1600000 in
set_option maxRecDepth 100000 in
theorem NodeReads.leafbad (k : Nat) (x y z : Int) (A : Option Addr) (c : Nat) (l : List Int) (w : World) (HLD : Laid w) (hr : Kd.C (Kd.int .u8) w A l.length l) (hc : l.length ≤ c) (S : ByteArray) (X : List Int) (rows : List (List Int)) (hl : l.length ≤ 900) (hD : node_DecodeLeaf.f l = some (S, X, 0)) (hO : ∀ W, Below w.heap.size w W → Calls Tryd.prog 18 #[.slice A l.length c] W (OLPost W S X true)) (hSX : oublietteref01_Same.f k X X = some true) (hE : node_Decode.f x y z l = some ([], 4)) (hG : oublietteref21_Right.f x y z = some true) (hOf : ∀ W, Below w.heap.size w W → Calls Tryd.prog 21 #[.agg #[.int .i64 x, .int .i64 y, .int .i64 z], .slice A l.length c] W (OfPost W [] false)) :
    Calls Tryd.prog 4 #[.agg #[.int .i64 x, .int .i64 y, .int .i64 z], .slice A l.length c] w fun e w' => e = .returned (.bool true) ∧ Below w.heap.size w w' := by
  have HD := Aside0.mk hD
  have HO := Aside0.mk hO
  have HSX := Aside0.mk hSX
  have HE := Aside0.mk hE
  have HG := Aside0.mk hG
  have HOF := Aside0.mk hOf
  clear hOf
  have b1 : decide (900 < l.length) = false := decide_eq_false (by omega)
  have HR := Aside0.mk hr
  have HEM := Aside0.mk (show node_Empty.f l = some ((l.length : Int) == 0) from rfl)
  have HB1 := Aside0.mk (below_alloc (Below.refl w.heap.size w) (.cells #[.int .i64 x, .int .i64 y, .int .i64 z] 23))
  have HH := Aside0.mk (Geo.new w x y z 23)
  clear hD hO hSX hE hG hr
  go_enter Tryd.func4, Tryd.ntmps4
  go_wp2_with (fail)
  refine (node_Decode.calls x y z A c l _ _ _ (Kd.C_below HR.out HB1.out) hc HE.out).mono ?_
  rintro e w1 ⟨v, rfl, hr, hb⟩
  obtain ⟨Aa, ca, rfl, hca, hCa⟩ := Kd.R_reads hr
  have HH1 := Aside0.mk (HH.out.step hb (by simp))
  have HB2 := Aside0.mk (HB1.out.trans (hb.mono HB1.out.size))
  have HZ1 := Aside0.mk (show w.heap.size < w1.heap.size by have := hb.size; simp at this; omega)
  have HCA := Aside0.mk hCa
  clear hr hb hCa
  go_wp2_with (fail)
  refine (node_DecodeLeaf.calls A c l S X 0 w1 (HLD.below HB2.out) (Kd.C_below HR.out HB2.out) hc HD.out).mono ?_
  rintro e w2 ⟨v, rfl, hr, hb⟩
  obtain ⟨Ab, cb, rfl, hcb, hCb⟩ := Kd.R_reads hr
  have HH2 := Aside0.mk (HH1.out.step hb HZ1.out)
  have HB3 := Aside0.mk (HB2.out.trans (hb.mono HB2.out.size))
  have HZ2 := Aside0.mk (show w.heap.size < w2.heap.size by have := hb.size; have := HZ1.out; omega)
  have HCB := Aside0.mk hCb
  have HCA2 := Aside0.mk (Kd.C_below HCA.out hb)
  clear hr hb hCb
  go_wp2_with (fail)
  refine (HO.out w2 HB3.out).mono ?_
  rintro e w3 ⟨Ac, cc, rfl, hcc, hCc, hb⟩
  have HH3 := Aside0.mk (HH2.out.step hb HZ2.out)
  have HB4 := Aside0.mk (HB3.out.trans (hb.mono HB3.out.size))
  have HZ3 := Aside0.mk (show w.heap.size < w3.heap.size by have := hb.size; have := HZ2.out; omega)
  have HCC := Aside0.mk (C_of hCc)
  have HCA3 := Aside0.mk (Kd.C_below HCA2.out hb)
  have HCB3 := Aside0.mk (Kd.C_below HCB.out hb)
  clear hb hCc
  go_wp2_with (fail)
  refine (node_Empty.calls A c l ((l.length : Int) == 0) w3 (Kd.C_below HR.out HB4.out) hc HEM.out).mono ?_
  rintro e w4 ⟨rfl, hd⟩
  have HH4 := Aside0.mk (HH3.out.step hd.below HZ3.out)
  have HB5 := Aside0.mk (HB4.out.trans (hd.below.mono HB4.out.size))
  have HZ4 := Aside0.mk (show w.heap.size < w4.heap.size by have := hd.below.size; have := HZ3.out; omega)
  have HCA4 := Aside0.mk (Kd.C_below HCA3.out hd.below)
  have HCB4 := Aside0.mk (Kd.C_below HCB3.out hd.below)
  have HCC4 := Aside0.mk (Kd.C_below HCC.out hd.below)
  clear hd
  go_wp2_with (fail)
  refine (oublietteref01_Same.calls k Ab cb X Ac cc X true w4 HCB4.out hcb HCC4.out hcc HSX.out).mono ?_
  rintro e w5 ⟨rfl, hd⟩
  have HH5 := Aside0.mk (HH4.out.step hd.below HZ4.out)
  have HB6 := Aside0.mk (HB5.out.trans (hd.below.mono HB5.out.size))
  have HZ5 := Aside0.mk (show w.heap.size < w5.heap.size by have := hd.below.size; have := HZ4.out; omega)
  have HCA5 := Aside0.mk (Kd.C_below HCA4.out hd.below)
  clear hd
  obtain ⟨g0, g1, g2⟩ := HH5.out
  go_wp2_with (fail)
  clear g0 g1 g2
  refine (oublietteref21_Right.calls x y z true w5 HG.out).mono ?_
  rintro e w6 ⟨rfl, hb⟩
  have HH6 := Aside0.mk (HH5.out.step hb HZ5.out)
  have HB7 := Aside0.mk (HB6.out.trans (hb.mono HB6.out.size))
  have HCA6 := Aside0.mk (Kd.C_below HCA5.out hb)
  clear hb
  obtain ⟨g0, g1, g2⟩ := HH6.out
  go_wp2_with (fail)
  clear g0 g1 g2
  refine (HOF.out w6 HB7.out).mono ?_
  rintro e w7 ⟨Ad, cd, rfl, hcd, hCd, hb⟩
  have HB8 := Aside0.mk (HB7.out.trans (hb.mono HB7.out.size))
  have HCD := Aside0.mk hCd
  have HCA7 := Aside0.mk (Kd.C_below HCA6.out hb)
  clear hb hCd
  go_wp2_with (fail)
  have HB9 := HB8
  obtain ⟨w9, rfl⟩ : ∃ W, W = w7 := ⟨_, rfl⟩
  refine (alive_calls w9).mono ?_
  rintro e w10 ⟨rfl, hb⟩
  have HB10 := Aside0.mk (HB9.out.trans (hb.mono HB9.out.size))
  clear hb
  go_wp2_with (fail)
  go_ret
  exact ⟨rfl, HB10.out⟩
set_option maxHeartbeats 1600000 in
set_option maxRecDepth 100000 in
theorem NodeReads.leaffine (k : Nat) (x y z : Int) (A : Option Addr) (c : Nat) (l : List Int) (w : World) (HLD : Laid w) (hr : Kd.C (Kd.int .u8) w A l.length l) (hc : l.length ≤ c) (S : ByteArray) (X : List Int) (rows : List (List Int)) (hl : l.length ≤ 900) (hD : node_DecodeLeaf.f l = some (S, X, 0)) (hO : ∀ W, Below w.heap.size w W → Calls Tryd.prog 18 #[.slice A l.length c] W (OLPost W S X true)) (hSX : oublietteref01_Same.f k X X = some true) (hE : node_Decode.f x y z l = some (rows, 0)) (hG : oublietteref21_Right.f x y z = some true) (hOf : ∀ W, Below w.heap.size w W → Calls Tryd.prog 21 #[.agg #[.int .i64 x, .int .i64 y, .int .i64 z], .slice A l.length c] W (OfPost W rows true)) (hrl : rows.length ≤ 1000) (hrx : ∀ x ∈ rows, x.length ≤ 1000000 ∧ x.length + 1 ≤ k) :
    Calls Tryd.prog 4 #[.agg #[.int .i64 x, .int .i64 y, .int .i64 z], .slice A l.length c] w fun e w' => e = .returned (.bool true) ∧ Below w.heap.size w w' := by
  have HD := Aside0.mk hD
  have HO := Aside0.mk hO
  have HSX := Aside0.mk hSX
  have HE := Aside0.mk hE
  have HG := Aside0.mk hG
  have HOF := Aside0.mk hOf
  clear hOf
  have HRX := Aside0.mk hrx
  clear hrx
  have b1 : decide (900 < l.length) = false := decide_eq_false (by omega)
  have HR := Aside0.mk hr
  have HEM := Aside0.mk (show node_Empty.f l = some ((l.length : Int) == 0) from rfl)
  have HB1 := Aside0.mk (below_alloc (Below.refl w.heap.size w) (.cells #[.int .i64 x, .int .i64 y, .int .i64 z] 23))
  have HH := Aside0.mk (Geo.new w x y z 23)
  clear hD hO hSX hE hG hr
  go_enter Tryd.func4, Tryd.ntmps4
  go_wp2_with (fail)
  refine (node_Decode.calls x y z A c l _ _ _ (Kd.C_below HR.out HB1.out) hc HE.out).mono ?_
  rintro e w1 ⟨v, rfl, hr, hb⟩
  obtain ⟨Aa, ca, rfl, hca, hCa⟩ := Kd.R_reads hr
  have HH1 := Aside0.mk (HH.out.step hb (by simp))
  have HB2 := Aside0.mk (HB1.out.trans (hb.mono HB1.out.size))
  have HZ1 := Aside0.mk (show w.heap.size < w1.heap.size by have := hb.size; simp at this; omega)
  have HCA := Aside0.mk hCa
  clear hr hb hCa
  go_wp2_with (fail)
  refine (node_DecodeLeaf.calls A c l S X 0 w1 (HLD.below HB2.out) (Kd.C_below HR.out HB2.out) hc HD.out).mono ?_
  rintro e w2 ⟨v, rfl, hr, hb⟩
  obtain ⟨Ab, cb, rfl, hcb, hCb⟩ := Kd.R_reads hr
  have HH2 := Aside0.mk (HH1.out.step hb HZ1.out)
  have HB3 := Aside0.mk (HB2.out.trans (hb.mono HB2.out.size))
  have HZ2 := Aside0.mk (show w.heap.size < w2.heap.size by have := hb.size; have := HZ1.out; omega)
  have HCB := Aside0.mk hCb
  have HCA2 := Aside0.mk (Kd.C_below HCA.out hb)
  clear hr hb hCb
  go_wp2_with (fail)
  refine (HO.out w2 HB3.out).mono ?_
  rintro e w3 ⟨Ac, cc, rfl, hcc, hCc, hb⟩
  have HH3 := Aside0.mk (HH2.out.step hb HZ2.out)
  have HB4 := Aside0.mk (HB3.out.trans (hb.mono HB3.out.size))
  have HZ3 := Aside0.mk (show w.heap.size < w3.heap.size by have := hb.size; have := HZ2.out; omega)
  have HCC := Aside0.mk (C_of hCc)
  have HCA3 := Aside0.mk (Kd.C_below HCA2.out hb)
  have HCB3 := Aside0.mk (Kd.C_below HCB.out hb)
  clear hb hCc
  go_wp2_with (fail)
  refine (node_Empty.calls A c l ((l.length : Int) == 0) w3 (Kd.C_below HR.out HB4.out) hc HEM.out).mono ?_
  rintro e w4 ⟨rfl, hd⟩
  have HH4 := Aside0.mk (HH3.out.step hd.below HZ3.out)
  have HB5 := Aside0.mk (HB4.out.trans (hd.below.mono HB4.out.size))
  have HZ4 := Aside0.mk (show w.heap.size < w4.heap.size by have := hd.below.size; have := HZ3.out; omega)
  have HCA4 := Aside0.mk (Kd.C_below HCA3.out hd.below)
  have HCB4 := Aside0.mk (Kd.C_below HCB3.out hd.below)
  have HCC4 := Aside0.mk (Kd.C_below HCC.out hd.below)
  clear hd
  go_wp2_with (fail)
  refine (oublietteref01_Same.calls k Ab cb X Ac cc X true w4 HCB4.out hcb HCC4.out hcc HSX.out).mono ?_
  rintro e w5 ⟨rfl, hd⟩
  have HH5 := Aside0.mk (HH4.out.step hd.below HZ4.out)
  have HB6 := Aside0.mk (HB5.out.trans (hd.below.mono HB5.out.size))
  have HZ5 := Aside0.mk (show w.heap.size < w5.heap.size by have := hd.below.size; have := HZ4.out; omega)
  have HCA5 := Aside0.mk (Kd.C_below HCA4.out hd.below)
  clear hd
  obtain ⟨g0, g1, g2⟩ := HH5.out
  go_wp2_with (fail)
  clear g0 g1 g2
  refine (oublietteref21_Right.calls x y z true w5 HG.out).mono ?_
  rintro e w6 ⟨rfl, hb⟩
  have HH6 := Aside0.mk (HH5.out.step hb HZ5.out)
  have HB7 := Aside0.mk (HB6.out.trans (hb.mono HB6.out.size))
  have HCA6 := Aside0.mk (Kd.C_below HCA5.out hb)
  clear hb
  obtain ⟨g0, g1, g2⟩ := HH6.out
  go_wp2_with (fail)
  clear g0 g1 g2
  refine (HOF.out w6 HB7.out).mono ?_
  rintro e w7 ⟨Ad, cd, rfl, hcd, hCd, hb⟩
  have HB8 := Aside0.mk (HB7.out.trans (hb.mono HB7.out.size))
  have HCD := Aside0.mk hCd
  have HCA7 := Aside0.mk (Kd.C_below HCA6.out hb)
  clear hb hCd
  go_wp2_with (fail)
  refine (Rows_same k Aa Ad ca cd rows w7 HCA7.out HCD.out hca hcd hrl HRX.out).mono ?_
  rintro e w9 ⟨rfl, hd⟩
  have HB9 := Aside0.mk (HB8.out.trans (hd.below.mono HB8.out.size))
  clear hd
  go_wp2_with (fail)
  refine (alive_calls w9).mono ?_
  rintro e w10 ⟨rfl, hb⟩
  have HB10 := Aside0.mk (HB9.out.trans (hb.mono HB9.out.size))
  clear hb
  go_wp2_with (fail)
  go_ret
  exact ⟨rfl, HB10.out⟩
set_option maxHeartbeats 1600000 in
set_option maxRecDepth 100000 in
theorem NodeReads.noneno (k : Nat) (x y z : Int) (A : Option Addr) (c : Nat) (l : List Int) (w : World) (HLD : Laid w) (hr : Kd.C (Kd.int .u8) w A l.length l) (hc : l.length ≤ c) (S : ByteArray) (X : List Int) (rows : List (List Int)) (hl : l.length ≤ 900) (hD : node_DecodeLeaf.f l = some (⟨#[]⟩, [], 4)) (hO : ∀ W, Below w.heap.size w W → Calls Tryd.prog 18 #[.slice A l.length c] W (OLPost W ⟨#[]⟩ [] false)) (hSX : oublietteref01_Same.f k [] [] = some true) (hE : node_Decode.f x y z l = some ([], 2)) (hG : oublietteref21_Right.f x y z = some false) :
    Calls Tryd.prog 4 #[.agg #[.int .i64 x, .int .i64 y, .int .i64 z], .slice A l.length c] w fun e w' => e = .returned (.bool true) ∧ Below w.heap.size w w' := by
  have HD := Aside0.mk hD
  have HO := Aside0.mk hO
  have HSX := Aside0.mk hSX
  have HE := Aside0.mk hE
  have HG := Aside0.mk hG
  have b1 : decide (900 < l.length) = false := decide_eq_false (by omega)
  have HR := Aside0.mk hr
  have HEM := Aside0.mk (show node_Empty.f l = some ((l.length : Int) == 0) from rfl)
  have HB1 := Aside0.mk (below_alloc (Below.refl w.heap.size w) (.cells #[.int .i64 x, .int .i64 y, .int .i64 z] 23))
  have HH := Aside0.mk (Geo.new w x y z 23)
  clear hD hO hSX hE hG hr
  go_enter Tryd.func4, Tryd.ntmps4
  go_wp2_with (fail)
  refine (node_Decode.calls x y z A c l _ _ _ (Kd.C_below HR.out HB1.out) hc HE.out).mono ?_
  rintro e w1 ⟨v, rfl, hr, hb⟩
  obtain ⟨Aa, ca, rfl, hca, hCa⟩ := Kd.R_reads hr
  have HH1 := Aside0.mk (HH.out.step hb (by simp))
  have HB2 := Aside0.mk (HB1.out.trans (hb.mono HB1.out.size))
  have HZ1 := Aside0.mk (show w.heap.size < w1.heap.size by have := hb.size; simp at this; omega)
  have HCA := Aside0.mk hCa
  clear hr hb hCa
  go_wp2_with (fail)
  refine (node_DecodeLeaf.calls A c l ⟨#[]⟩ [] 4 w1 (HLD.below HB2.out) (Kd.C_below HR.out HB2.out) hc HD.out).mono ?_
  rintro e w2 ⟨v, rfl, hr, hb⟩
  obtain ⟨Ab, cb, rfl, hcb, hCb⟩ := Kd.R_reads hr
  have HH2 := Aside0.mk (HH1.out.step hb HZ1.out)
  have HB3 := Aside0.mk (HB2.out.trans (hb.mono HB2.out.size))
  have HZ2 := Aside0.mk (show w.heap.size < w2.heap.size by have := hb.size; have := HZ1.out; omega)
  have HCB := Aside0.mk hCb
  have HCA2 := Aside0.mk (Kd.C_below HCA.out hb)
  clear hr hb hCb
  go_wp2_with (fail)
  refine (HO.out w2 HB3.out).mono ?_
  rintro e w3 ⟨Ac, cc, rfl, hcc, hCc, hb⟩
  have HH3 := Aside0.mk (HH2.out.step hb HZ2.out)
  have HB4 := Aside0.mk (HB3.out.trans (hb.mono HB3.out.size))
  have HZ3 := Aside0.mk (show w.heap.size < w3.heap.size by have := hb.size; have := HZ2.out; omega)
  have HCC := Aside0.mk (C_of hCc)
  have HCA3 := Aside0.mk (Kd.C_below HCA2.out hb)
  have HCB3 := Aside0.mk (Kd.C_below HCB.out hb)
  clear hb hCc
  go_wp2_with (fail)
  refine (node_Empty.calls A c l ((l.length : Int) == 0) w3 (Kd.C_below HR.out HB4.out) hc HEM.out).mono ?_
  rintro e w4 ⟨rfl, hd⟩
  have HH4 := Aside0.mk (HH3.out.step hd.below HZ3.out)
  have HB5 := Aside0.mk (HB4.out.trans (hd.below.mono HB4.out.size))
  have HZ4 := Aside0.mk (show w.heap.size < w4.heap.size by have := hd.below.size; have := HZ3.out; omega)
  have HCA4 := Aside0.mk (Kd.C_below HCA3.out hd.below)
  have HCB4 := Aside0.mk (Kd.C_below HCB3.out hd.below)
  have HCC4 := Aside0.mk (Kd.C_below HCC.out hd.below)
  clear hd
  go_wp2_with (fail)
  refine (oublietteref01_Same.calls k Ab cb [] Ac cc [] true w4 HCB4.out hcb HCC4.out hcc HSX.out).mono ?_
  rintro e w5 ⟨rfl, hd⟩
  have HH5 := Aside0.mk (HH4.out.step hd.below HZ4.out)
  have HB6 := Aside0.mk (HB5.out.trans (hd.below.mono HB5.out.size))
  have HZ5 := Aside0.mk (show w.heap.size < w5.heap.size by have := hd.below.size; have := HZ4.out; omega)
  have HCA5 := Aside0.mk (Kd.C_below HCA4.out hd.below)
  clear hd
  obtain ⟨g0, g1, g2⟩ := HH5.out
  go_wp2_with (fail)
  clear g0 g1 g2
  refine (oublietteref21_Right.calls x y z false w5 HG.out).mono ?_
  rintro e w6 ⟨rfl, hb⟩
  have HH6 := Aside0.mk (HH5.out.step hb HZ5.out)
  have HB7 := Aside0.mk (HB6.out.trans (hb.mono HB6.out.size))
  have HCA6 := Aside0.mk (Kd.C_below HCA5.out hb)
  clear hb
  go_wp2_with (fail)
  have HB9 := HB7
  obtain ⟨w9, rfl⟩ : ∃ W, W = w6 := ⟨_, rfl⟩
  refine (alive_calls w9).mono ?_
  rintro e w10 ⟨rfl, hb⟩
  have HB10 := Aside0.mk (HB9.out.trans (hb.mono HB9.out.size))
  clear hb
  go_wp2_with (fail)
  go_ret
  exact ⟨rfl, HB10.out⟩
set_option maxHeartbeats 1600000 in
set_option maxRecDepth 100000 in
theorem NodeReads.nonebad (k : Nat) (x y z : Int) (A : Option Addr) (c : Nat) (l : List Int) (w : World) (HLD : Laid w) (hr : Kd.C (Kd.int .u8) w A l.length l) (hc : l.length ≤ c) (S : ByteArray) (X : List Int) (rows : List (List Int)) (hl : l.length ≤ 900) (hD : node_DecodeLeaf.f l = some (⟨#[]⟩, [], 4)) (hO : ∀ W, Below w.heap.size w W → Calls Tryd.prog 18 #[.slice A l.length c] W (OLPost W ⟨#[]⟩ [] false)) (hSX : oublietteref01_Same.f k [] [] = some true) (hE : node_Decode.f x y z l = some ([], 4)) (hG : oublietteref21_Right.f x y z = some true) (hOf : ∀ W, Below w.heap.size w W → Calls Tryd.prog 21 #[.agg #[.int .i64 x, .int .i64 y, .int .i64 z], .slice A l.length c] W (OfPost W [] false)) :
    Calls Tryd.prog 4 #[.agg #[.int .i64 x, .int .i64 y, .int .i64 z], .slice A l.length c] w fun e w' => e = .returned (.bool true) ∧ Below w.heap.size w w' := by
  have HD := Aside0.mk hD
  have HO := Aside0.mk hO
  have HSX := Aside0.mk hSX
  have HE := Aside0.mk hE
  have HG := Aside0.mk hG
  have HOF := Aside0.mk hOf
  clear hOf
  have b1 : decide (900 < l.length) = false := decide_eq_false (by omega)
  have HR := Aside0.mk hr
  have HEM := Aside0.mk (show node_Empty.f l = some ((l.length : Int) == 0) from rfl)
  have HB1 := Aside0.mk (below_alloc (Below.refl w.heap.size w) (.cells #[.int .i64 x, .int .i64 y, .int .i64 z] 23))
  have HH := Aside0.mk (Geo.new w x y z 23)
  clear hD hO hSX hE hG hr
  go_enter Tryd.func4, Tryd.ntmps4
  go_wp2_with (fail)
  refine (node_Decode.calls x y z A c l _ _ _ (Kd.C_below HR.out HB1.out) hc HE.out).mono ?_
  rintro e w1 ⟨v, rfl, hr, hb⟩
  obtain ⟨Aa, ca, rfl, hca, hCa⟩ := Kd.R_reads hr
  have HH1 := Aside0.mk (HH.out.step hb (by simp))
  have HB2 := Aside0.mk (HB1.out.trans (hb.mono HB1.out.size))
  have HZ1 := Aside0.mk (show w.heap.size < w1.heap.size by have := hb.size; simp at this; omega)
  have HCA := Aside0.mk hCa
  clear hr hb hCa
  go_wp2_with (fail)
  refine (node_DecodeLeaf.calls A c l ⟨#[]⟩ [] 4 w1 (HLD.below HB2.out) (Kd.C_below HR.out HB2.out) hc HD.out).mono ?_
  rintro e w2 ⟨v, rfl, hr, hb⟩
  obtain ⟨Ab, cb, rfl, hcb, hCb⟩ := Kd.R_reads hr
  have HH2 := Aside0.mk (HH1.out.step hb HZ1.out)
  have HB3 := Aside0.mk (HB2.out.trans (hb.mono HB2.out.size))
  have HZ2 := Aside0.mk (show w.heap.size < w2.heap.size by have := hb.size; have := HZ1.out; omega)
  have HCB := Aside0.mk hCb
  have HCA2 := Aside0.mk (Kd.C_below HCA.out hb)
  clear hr hb hCb
  go_wp2_with (fail)
  refine (HO.out w2 HB3.out).mono ?_
  rintro e w3 ⟨Ac, cc, rfl, hcc, hCc, hb⟩
  have HH3 := Aside0.mk (HH2.out.step hb HZ2.out)
  have HB4 := Aside0.mk (HB3.out.trans (hb.mono HB3.out.size))
  have HZ3 := Aside0.mk (show w.heap.size < w3.heap.size by have := hb.size; have := HZ2.out; omega)
  have HCC := Aside0.mk (C_of hCc)
  have HCA3 := Aside0.mk (Kd.C_below HCA2.out hb)
  have HCB3 := Aside0.mk (Kd.C_below HCB.out hb)
  clear hb hCc
  go_wp2_with (fail)
  refine (node_Empty.calls A c l ((l.length : Int) == 0) w3 (Kd.C_below HR.out HB4.out) hc HEM.out).mono ?_
  rintro e w4 ⟨rfl, hd⟩
  have HH4 := Aside0.mk (HH3.out.step hd.below HZ3.out)
  have HB5 := Aside0.mk (HB4.out.trans (hd.below.mono HB4.out.size))
  have HZ4 := Aside0.mk (show w.heap.size < w4.heap.size by have := hd.below.size; have := HZ3.out; omega)
  have HCA4 := Aside0.mk (Kd.C_below HCA3.out hd.below)
  have HCB4 := Aside0.mk (Kd.C_below HCB3.out hd.below)
  have HCC4 := Aside0.mk (Kd.C_below HCC.out hd.below)
  clear hd
  go_wp2_with (fail)
  refine (oublietteref01_Same.calls k Ab cb [] Ac cc [] true w4 HCB4.out hcb HCC4.out hcc HSX.out).mono ?_
  rintro e w5 ⟨rfl, hd⟩
  have HH5 := Aside0.mk (HH4.out.step hd.below HZ4.out)
  have HB6 := Aside0.mk (HB5.out.trans (hd.below.mono HB5.out.size))
  have HZ5 := Aside0.mk (show w.heap.size < w5.heap.size by have := hd.below.size; have := HZ4.out; omega)
  have HCA5 := Aside0.mk (Kd.C_below HCA4.out hd.below)
  clear hd
  obtain ⟨g0, g1, g2⟩ := HH5.out
  go_wp2_with (fail)
  clear g0 g1 g2
  refine (oublietteref21_Right.calls x y z true w5 HG.out).mono ?_
  rintro e w6 ⟨rfl, hb⟩
  have HH6 := Aside0.mk (HH5.out.step hb HZ5.out)
  have HB7 := Aside0.mk (HB6.out.trans (hb.mono HB6.out.size))
  have HCA6 := Aside0.mk (Kd.C_below HCA5.out hb)
  clear hb
  obtain ⟨g0, g1, g2⟩ := HH6.out
  go_wp2_with (fail)
  clear g0 g1 g2
  refine (HOF.out w6 HB7.out).mono ?_
  rintro e w7 ⟨Ad, cd, rfl, hcd, hCd, hb⟩
  have HB8 := Aside0.mk (HB7.out.trans (hb.mono HB7.out.size))
  have HCD := Aside0.mk hCd
  have HCA7 := Aside0.mk (Kd.C_below HCA6.out hb)
  clear hb hCd
  go_wp2_with (fail)
  have HB9 := HB8
  obtain ⟨w9, rfl⟩ : ∃ W, W = w7 := ⟨_, rfl⟩
  refine (alive_calls w9).mono ?_
  rintro e w10 ⟨rfl, hb⟩
  have HB10 := Aside0.mk (HB9.out.trans (hb.mono HB9.out.size))
  clear hb
  go_wp2_with (fail)
  go_ret
  exact ⟨rfl, HB10.out⟩
set_option maxHeartbeats 1600000 in
set_option maxRecDepth 100000 in
theorem NodeReads.nonefine (k : Nat) (x y z : Int) (A : Option Addr) (c : Nat) (l : List Int) (w : World) (HLD : Laid w) (hr : Kd.C (Kd.int .u8) w A l.length l) (hc : l.length ≤ c) (S : ByteArray) (X : List Int) (rows : List (List Int)) (hl : l.length ≤ 900) (hD : node_DecodeLeaf.f l = some (⟨#[]⟩, [], 4)) (hO : ∀ W, Below w.heap.size w W → Calls Tryd.prog 18 #[.slice A l.length c] W (OLPost W ⟨#[]⟩ [] false)) (hSX : oublietteref01_Same.f k [] [] = some true) (hE : node_Decode.f x y z l = some (rows, 0)) (hG : oublietteref21_Right.f x y z = some true) (hOf : ∀ W, Below w.heap.size w W → Calls Tryd.prog 21 #[.agg #[.int .i64 x, .int .i64 y, .int .i64 z], .slice A l.length c] W (OfPost W rows true)) (hrl : rows.length ≤ 1000) (hrx : ∀ x ∈ rows, x.length ≤ 1000000 ∧ x.length + 1 ≤ k) :
    Calls Tryd.prog 4 #[.agg #[.int .i64 x, .int .i64 y, .int .i64 z], .slice A l.length c] w fun e w' => e = .returned (.bool true) ∧ Below w.heap.size w w' := by
  have HD := Aside0.mk hD
  have HO := Aside0.mk hO
  have HSX := Aside0.mk hSX
  have HE := Aside0.mk hE
  have HG := Aside0.mk hG
  have HOF := Aside0.mk hOf
  clear hOf
  have HRX := Aside0.mk hrx
  clear hrx
  have b1 : decide (900 < l.length) = false := decide_eq_false (by omega)
  have HR := Aside0.mk hr
  have HEM := Aside0.mk (show node_Empty.f l = some ((l.length : Int) == 0) from rfl)
  have HB1 := Aside0.mk (below_alloc (Below.refl w.heap.size w) (.cells #[.int .i64 x, .int .i64 y, .int .i64 z] 23))
  have HH := Aside0.mk (Geo.new w x y z 23)
  clear hD hO hSX hE hG hr
  go_enter Tryd.func4, Tryd.ntmps4
  go_wp2_with (fail)
  refine (node_Decode.calls x y z A c l _ _ _ (Kd.C_below HR.out HB1.out) hc HE.out).mono ?_
  rintro e w1 ⟨v, rfl, hr, hb⟩
  obtain ⟨Aa, ca, rfl, hca, hCa⟩ := Kd.R_reads hr
  have HH1 := Aside0.mk (HH.out.step hb (by simp))
  have HB2 := Aside0.mk (HB1.out.trans (hb.mono HB1.out.size))
  have HZ1 := Aside0.mk (show w.heap.size < w1.heap.size by have := hb.size; simp at this; omega)
  have HCA := Aside0.mk hCa
  clear hr hb hCa
  go_wp2_with (fail)
  refine (node_DecodeLeaf.calls A c l ⟨#[]⟩ [] 4 w1 (HLD.below HB2.out) (Kd.C_below HR.out HB2.out) hc HD.out).mono ?_
  rintro e w2 ⟨v, rfl, hr, hb⟩
  obtain ⟨Ab, cb, rfl, hcb, hCb⟩ := Kd.R_reads hr
  have HH2 := Aside0.mk (HH1.out.step hb HZ1.out)
  have HB3 := Aside0.mk (HB2.out.trans (hb.mono HB2.out.size))
  have HZ2 := Aside0.mk (show w.heap.size < w2.heap.size by have := hb.size; have := HZ1.out; omega)
  have HCB := Aside0.mk hCb
  have HCA2 := Aside0.mk (Kd.C_below HCA.out hb)
  clear hr hb hCb
  go_wp2_with (fail)
  refine (HO.out w2 HB3.out).mono ?_
  rintro e w3 ⟨Ac, cc, rfl, hcc, hCc, hb⟩
  have HH3 := Aside0.mk (HH2.out.step hb HZ2.out)
  have HB4 := Aside0.mk (HB3.out.trans (hb.mono HB3.out.size))
  have HZ3 := Aside0.mk (show w.heap.size < w3.heap.size by have := hb.size; have := HZ2.out; omega)
  have HCC := Aside0.mk (C_of hCc)
  have HCA3 := Aside0.mk (Kd.C_below HCA2.out hb)
  have HCB3 := Aside0.mk (Kd.C_below HCB.out hb)
  clear hb hCc
  go_wp2_with (fail)
  refine (node_Empty.calls A c l ((l.length : Int) == 0) w3 (Kd.C_below HR.out HB4.out) hc HEM.out).mono ?_
  rintro e w4 ⟨rfl, hd⟩
  have HH4 := Aside0.mk (HH3.out.step hd.below HZ3.out)
  have HB5 := Aside0.mk (HB4.out.trans (hd.below.mono HB4.out.size))
  have HZ4 := Aside0.mk (show w.heap.size < w4.heap.size by have := hd.below.size; have := HZ3.out; omega)
  have HCA4 := Aside0.mk (Kd.C_below HCA3.out hd.below)
  have HCB4 := Aside0.mk (Kd.C_below HCB3.out hd.below)
  have HCC4 := Aside0.mk (Kd.C_below HCC.out hd.below)
  clear hd
  go_wp2_with (fail)
  refine (oublietteref01_Same.calls k Ab cb [] Ac cc [] true w4 HCB4.out hcb HCC4.out hcc HSX.out).mono ?_
  rintro e w5 ⟨rfl, hd⟩
  have HH5 := Aside0.mk (HH4.out.step hd.below HZ4.out)
  have HB6 := Aside0.mk (HB5.out.trans (hd.below.mono HB5.out.size))
  have HZ5 := Aside0.mk (show w.heap.size < w5.heap.size by have := hd.below.size; have := HZ4.out; omega)
  have HCA5 := Aside0.mk (Kd.C_below HCA4.out hd.below)
  clear hd
  obtain ⟨g0, g1, g2⟩ := HH5.out
  go_wp2_with (fail)
  clear g0 g1 g2
  refine (oublietteref21_Right.calls x y z true w5 HG.out).mono ?_
  rintro e w6 ⟨rfl, hb⟩
  have HH6 := Aside0.mk (HH5.out.step hb HZ5.out)
  have HB7 := Aside0.mk (HB6.out.trans (hb.mono HB6.out.size))
  have HCA6 := Aside0.mk (Kd.C_below HCA5.out hb)
  clear hb
  obtain ⟨g0, g1, g2⟩ := HH6.out
  go_wp2_with (fail)
  clear g0 g1 g2
  refine (HOF.out w6 HB7.out).mono ?_
  rintro e w7 ⟨Ad, cd, rfl, hcd, hCd, hb⟩
  have HB8 := Aside0.mk (HB7.out.trans (hb.mono HB7.out.size))
  have HCD := Aside0.mk hCd
  have HCA7 := Aside0.mk (Kd.C_below HCA6.out hb)
  clear hb hCd
  go_wp2_with (fail)
  refine (Rows_same k Aa Ad ca cd rows w7 HCA7.out HCD.out hca hcd hrl HRX.out).mono ?_
  rintro e w9 ⟨rfl, hd⟩
  have HB9 := Aside0.mk (HB8.out.trans (hd.below.mono HB8.out.size))
  clear hd
  go_wp2_with (fail)
  refine (alive_calls w9).mono ?_
  rintro e w10 ⟨rfl, hb⟩
  have HB10 := Aside0.mk (HB9.out.trans (hb.mono HB9.out.size))
  clear hb
  go_wp2_with (fail)
  go_ret
  exact ⟨rfl, HB10.out⟩
end Go.Proofs.YtloagejeeakikaaDoor.QB
namespace Go.Proofs.YtloagejeeakikaaDoor.QB
open Go.RowKit Go.Proofs.YtloagejeeakikaaDoorW.PrintWords Go.Proofs.YtloagejeeakikaaDoorW.PrintLast Go.Proofs.YtloagejeeakikaaDoorW.PrintMore
open Go.Proofs.YtloagejeeakikaaDoor.Mem
set_option linter.unusedVariables false
set_option linter.unusedSimpArgs false
/-! ### Same, in general -/
theorem rd_getD (l : List Int) (i : Nat) : rd l (i : Int) = l.getD i 0 := rfl
theorem sameg_loop (l m : List Int) (hlm : l.length = m.length) (hl : l.length ≤ 1000000) : ∀ (n i k : Nat), i + n = l.length → oublietteref01_Same.l0 (k + n + 1) l m i = some (decide (l.drop i = m.drop i))
  | 0, i, k, h => by
    rw [Nat.add_zero, oublietteref01_Same.l0.eq_2, if_neg (by omega), List.drop_of_length_le (by omega), List.drop_of_length_le (by omega)]
    rfl
  | n + 1, i, k, h => by
    have hi : i < l.length := by omega
    have hj : i < m.length := by omega
    have e1 : rd l (i : Int) = l[i] := by rw [rd_getD, List.getD_eq_getElem?_getD, List.getElem?_eq_getElem hi]; rfl
    have e2 : rd m (i : Int) = m[i] := by rw [rd_getD, List.getD_eq_getElem?_getD, List.getElem?_eq_getElem hj]; rfl
    rw [show k + (n + 1) + 1 = (k + n + 1) + 1 by omega, oublietteref01_Same.l0.eq_2, if_pos (by omega), if_pos (by omega), if_pos (by omega), e1, e2, List.drop_eq_getElem_cons hi, List.drop_eq_getElem_cons hj]
    by_cases hc : l[i] = m[i]
    · rw [if_pos hc, wrap_next i (by omega), sameg_loop l m hlm hl n (i + 1) k (by omega)]
      congr 1
      rw [decide_eq_decide]
      exact ⟨fun e => by rw [hc, e], fun e => (List.cons.inj e).2⟩
    · rw [if_neg hc]
      congr 1
      symm
      rw [decide_eq_false_iff_not]
      intro e
      exact hc (List.cons.inj e).1
theorem same_f (l m : List Int) (hl : l.length ≤ 1000000) (k : Nat) (hk : l.length + 1 ≤ k) : oublietteref01_Same.f k l m = some (decide (l = m)) := by
  unfold oublietteref01_Same.f
  by_cases hlm : l.length = m.length
  · rw [if_pos (by omega)]
    have := sameg_loop l m hlm hl l.length 0 (k - l.length - 1) (by omega)
    rw [show k - l.length - 1 + l.length + 1 = k by omega] at this
    exact this
  · rw [if_neg (by omega), decide_eq_false (fun e => hlm (by rw [e]))]
/-! ### Fields, written and read -/
theorem takeB_put (lim : Int) (r t : List Int) (h : r.length ≤ 65535) (hl : (r.length : Int) ≤ lim) : takeB lim (putB r.length 2 ++ r ++ t) = (r, r.length + 2, true) := by
  rw [putB_two r.length h]
  show takeB lim ((r.length : Int) / 256 :: (r.length : Int) % 256 :: (r ++ t)) = _
  have e : (r.length : Int) / 256 * 256 + (r.length : Int) % 256 = r.length := by omega
  simp only [takeB, e]
  rw [if_pos ⟨hl, by simp; omega⟩, Int.toNat_natCast, List.take_left]
theorem put_drop (r t : List Int) : (putB r.length 2 ++ r ++ t).drop (r.length + 2) = t := by
  have hl : (putB (r.length : Int) 2 ++ r).length = r.length + 2 := by simp [putB, putFrom_len]; omega
  rw [← hl, List.drop_left]
theorem rdBytes_back {lim : Int} {l x r : List Int} (hb : byteL l) (h : rdBytes lim l = (x, r, 0)) : l = putB x.length 2 ++ x ++ r ∧ x.length ≤ 65535 := by
  match l, hb, h with
  | [], _, h => simp [rdBytes] at h
  | [a], _, h => simp [rdBytes] at h
  | a :: b :: rest, hb, h =>
    simp only [rdBytes] at h
    obtain ⟨ha, ha2⟩ := hb a (by simp)
    obtain ⟨hb1, hb2⟩ := hb b (by simp)
    by_cases hc : a * 256 + b ≤ lim ∧ a * 256 + b ≤ rest.length
    · rw [if_pos hc] at h
      simp only [Prod.mk.injEq, and_true] at h
      obtain ⟨rfl, rfl⟩ := h
      have hlen : (rest.take (a * 256 + b).toNat).length = (a * 256 + b).toNat := by simp; omega
      rw [hlen]
      refine ⟨?_, by omega⟩
      rw [putB_two _ (by omega)]
      have e1 : (((a * 256 + b).toNat : Nat) : Int) / 256 = a := by omega
      have e2 : (((a * 256 + b).toNat : Nat) : Int) % 256 = b := by omega
      rw [e1, e2]
      simp
    · rw [if_neg hc] at h
      simp at h
theorem rdBytes_f (lim : Int) (l : List Int) : (rdBytes lim l).2.2 = 0 ∨ (rdBytes lim l).2.2 = 4 := by
  unfold rdBytes
  split
  · split <;> simp
  · simp
theorem rdStep_back {lim : Int} {l : List Int} {f : Int} (hb : byteL l) (h : (rdStep lim l f).2.2 = 0) : f = 0 ∧ l = putB (rdStep lim l f).1.length 2 ++ (rdStep lim l f).1 ++ (rdStep lim l f).2.1 ∧ (rdStep lim l f).1.length ≤ 65535 := by
  unfold rdStep at h ⊢
  by_cases hf : f = 0
  · rw [if_pos hf] at h ⊢
    exact ⟨hf, rdBytes_back hb (by rw [← h])⟩
  · rw [if_neg hf] at h
    exact absurd h hf
theorem endF_zero {r : List Int} {f : Int} (h : endF r f = 0) : f = 0 ∧ r = [] := by
  unfold endF at h
  split at h
  · cases h
  · rename_i hc
    subst h
    refine ⟨rfl, ?_⟩
    cases r with
    | nil => rfl
    | cons a r => exact absurd ⟨rfl, by simp⟩ hc
theorem bytes_strOf {l : List Int} (h : byteL l) : bytesOf (strOfNums l) = l := bytesOf_strOfNums l (fun x hx => by have := h x hx; omega)
theorem byte_rd {lim : Int} {l : List Int} {f : Int} (h : byteL l) : byteL (rdStep lim l f).2.1 := by
  obtain ⟨m, hm⟩ := rdStep_rest lim l f
  rw [hm]
  exact byteL_drop h m
theorem leaf_back {l : List Int} (hb : byteL l) (h : lfE l = 0) : l = leafB (lfS l) (lf2 l) ∧ (lfS l).size ≤ 65535 ∧ (lf2 l).length ≤ 65535 := by
  obtain ⟨h1, h2⟩ := endF_zero h
  obtain ⟨h3, h4, h5⟩ := rdStep_back (byte_rd hb) h1
  obtain ⟨_, h6, h7⟩ := rdStep_back hb h3
  have hx : byteL (rdStep 65536 l 0).1 := by
    intro x hx
    apply hb
    rw [h6]
    simp [hx]
  have hS : bytesOf (lfS l) = (rdStep 65536 l 0).1 := bytes_strOf hx
  have hsz : (lfS l).size = (rdStep 65536 l 0).1.length := by rw [← bytesOf_length, hS]
  refine ⟨?_, by omega, h5⟩
  unfold leafB
  rw [hS, hsz]
  show l = _ ++ (putB (lf2 l).length 2 ++ lf2 l)
  have e : (rdStep 65536 l 0).2.1 = putB (lf2 l).length 2 ++ lf2 l := by
    have h4' := h4
    rw [h2, List.append_nil] at h4'
    exact h4'
  rw [← e]
  exact h6
theorem leaf_takes (s : ByteArray) (x : List Int) (hs : s.size ≤ 65535) (hx : x.length ≤ 65535) : olS (leafB s x) = s ∧ ol2 (leafB s x) = x := by
  have h1 : takeB 65535 (leafB s x) = (bytesOf s, (bytesOf s).length + 2, true) := by
    have := takeB_put 65535 (bytesOf s) (putB x.length 2 ++ x) (by rw [bytesOf_length]; exact hs) (by rw [bytesOf_length]; omega)
    unfold leafB
    rw [← bytesOf_length s]
    exact this
  have h2 : (leafB s x).drop ((bytesOf s).length + 2) = putB x.length 2 ++ x := by
    unfold leafB
    rw [← bytesOf_length s]
    exact put_drop (bytesOf s) _
  constructor
  · unfold olS ol1
    rw [h1]
    exact str_back s
  · unfold ol2
    rw [h1, h2]
    have := takeB_put 65535 x [] hx (by omega)
    rw [List.append_nil] at this
    rw [this]
theorem takeB_65 (l : List Int) (hb : byteL l) : (takeB 65535 l).1.length ≤ 65535 ∧ byteL (takeB 65535 l).1 ∧ (takeB 65535 l).1.length ≤ l.length := by
  unfold takeB
  split
  · rename_i a b rest
    split
    · refine ⟨by simp; omega, fun x hx => hb x (by have := List.mem_of_mem_take hx; simp [this]), by simp; omega⟩
    · exact ⟨by simp, fun x hx => by simp at hx, by simp⟩
  · exact ⟨by simp, fun x hx => by simp at hx, by simp⟩
/-! ### Rows, written and read -/
theorem takes_enc (l : List (List Int)) (hl : ∀ r ∈ l, r.length ≤ 80) : ∀ k, k ≤ l.length → takes (encB l) k = (l.take k, encB (l.drop k))
  | 0, _ => rfl
  | k + 1, h => by
    obtain ⟨x, hx⟩ : ∃ x, l[k]? = some x := ⟨_, List.getElem?_eq_getElem (by omega)⟩
    have hx80 := hl x (List.mem_of_getElem? hx)
    have ih := takes_enc l hl k (by omega)
    have hd : takes (encB l) (k + 1) = ((takes (encB l) k).1 ++ [(takeB 80 (takes (encB l) k).2).1], (takes (encB l) k).2.drop (takeB 80 (takes (encB l) k).2).2.1) := rfl
    have hst : takeB 80 (encB (l.drop k)) = (x, x.length + 2, true) := by
      rw [drop_at l k x hx, enc_cons, takeB_put 80 x _ (by omega) (by omega)]
    have hdr : (encB (l.drop k)).drop (x.length + 2) = encB (l.drop (k + 1)) := by
      rw [drop_at l k x hx, enc_cons, put_drop]
    rw [hd, ih]
    simp only [hst, hdr]
    rw [List.take_add_one, hx]
    rfl
theorem takes_nil : ∀ k, takes [] k = (List.replicate k [], [])
  | 0 => rfl
  | k + 1 => by
    have hd : takes [] (k + 1) = ((takes [] k).1 ++ [(takeB 80 (takes [] k).2).1], (takes [] k).2.drop (takeB 80 (takes [] k).2).2.1) := rfl
    rw [hd, takes_nil k]
    simp [takeB, List.replicate_succ']
theorem decS_back {l : List Int} (hb : byteL l) : ∀ k, (decS 80 l k).2.2 = 0 → l = encB (decS 80 l k).1 ++ (decS 80 l k).2.1 ∧ byteL (decS 80 l k).2.1
  | 0, _ => ⟨by simp [decS, encB], hb⟩
  | k + 1, h => by
    have h' : (rdStep 80 (decS 80 l k).2.1 (decS 80 l k).2.2).2.2 = 0 := h
    have hbk : byteL (decS 80 l k).2.1 := by
      obtain ⟨m, hm⟩ := decS_rest 80 l k
      rw [hm]
      exact byteL_drop hb m
    obtain ⟨h1, h2, h3⟩ := rdStep_back hbk h'
    obtain ⟨h4, h5⟩ := decS_back hb k h1
    refine ⟨?_, byte_rd hbk⟩
    show l = encB ((decS 80 l k).1 ++ [(rdStep 80 (decS 80 l k).2.1 (decS 80 l k).2.2).1]) ++ (rdStep 80 (decS 80 l k).2.1 (decS 80 l k).2.2).2.1
    rw [enc_snoc, List.append_assoc, ← h2]
    exact h4
/-! ### The whole -/
def IsLeaf (l : List Int) (s : ByteArray) (x : List Int) : Prop := s.size ≤ 65535 ∧ x.length ≤ 65535 ∧ ¬ s.toList = [] ∧ leafOk s x = true ∧ l = leafB s x
theorem leafB_ne (s : ByteArray) (x : List Int) : leafB s x ≠ [] := fun e => by
  have := congrArg List.length e
  simp [leafB, putB, putFrom_len] at this
theorem leaf_agree (k : Nat) (A : Option Addr) (c : Nat) (l : List Int) (w : World) (hr : Kd.C (Kd.int .u8) w A l.length l) (hc : l.length ≤ c) (hl : l.length ≤ 900) (hb : byteL l) (hk : 100000 ≤ k) :
    (∃ S X, X.length ≤ 100000 ∧ node_DecodeLeaf.f l = some (S, X, 0) ∧ ∀ W, Below w.heap.size w W → Calls Tryd.prog 18 #[.slice A l.length c] W (OLPost W S X true)) ∨
    (node_DecodeLeaf.f l = some (⟨#[]⟩, [], 4) ∧ ∀ W, Below w.heap.size w W → Calls Tryd.prog 18 #[.slice A l.length c] W (OLPost W ⟨#[]⟩ [] false)) := by
  obtain ⟨t1, t2, t3⟩ := takeB_65 l hb
  have hol1 : (ol1 l).length ≤ 900 := by unfold ol1; omega
  have hbd : byteL (l.drop (takeB 65535 l).2.1) := byteL_drop hb _
  obtain ⟨u1, u2, u3⟩ := takeB_65 (l.drop (takeB 65535 l).2.1) hbd
  have hol2 : (ol2 l).length ≤ 900 := by
    unfold ol2
    rw [List.length_drop] at u3
    omega
  have hsz : (olS l).size ≤ 900 := by
    unfold olS
    rw [← bytesOf_length, bytes_strOf (show byteL (ol1 l) from t2)]
    exact hol1
  have hT := rightLeaf_f (olS l) (ol2 l) (by omega) k (by omega)
  have hB : leafOk (olS l) (ol2 l) = true → ref28_LeafBytes.f (olS l) (ol2 l) = some (if (olS l).toList = [] then [] else leafB (olS l) (ol2 l)) := fun _ => by
    unfold ref28_LeafBytes.f
    by_cases hn : (olS l).toList = []
    · rw [if_pos hn, if_pos hn]
    · rw [if_neg hn, if_neg hn, if_pos ⟨by omega, by omega⟩, leafB_R _ _ (by omega) (by omega)]
  have hS : leafOk (olS l) (ol2 l) = true → oublietteref01_Same.f k (if (olS l).toList = [] then [] else leafB (olS l) (ol2 l)) l = some (decide ((if (olS l).toList = [] then [] else leafB (olS l) (ol2 l)) = l)) := fun _ => by
    refine same_f _ _ ?_ k ?_
    all_goals
      split
      · simp
        try omega
      · simp [leafB, putB, putFrom_len, bytesOf_length]
        omega
  have hcall := fun (W : World) (hW : Below w.heap.size w W) => OfLeaf_calls k A c l W (Kd.C_below hr hW) hc (by omega) hb _ _ _ hT hB hS
  by_cases hn : l = []
  · subst hn
    refine .inl ⟨⟨#[]⟩, [], by simp, by unfold node_DecodeLeaf.f; rw [if_pos rfl], fun W hW => ?_⟩
    have h := hcall W hW
    have e1 : olS [] = ⟨#[]⟩ := rfl
    have e2 : ol2 [] = [] := rfl
    have e3 : (⟨#[]⟩ : ByteArray).toList = [] := (bytesOf_nil_iff ⟨#[]⟩).2 rfl
    rw [e1, e2] at h
    rwa [if_pos (by unfold leafOk; rw [if_pos e3, if_pos e3]; simp)] at h
  · by_cases hy : ∃ s x, IsLeaf l s x
    · obtain ⟨s, x, h1, h2, h3, h4, h5⟩ := hy
      subst h5
      obtain ⟨p1, p2, p3⟩ := leaf_parts s x h1 h2
      obtain ⟨q1, q2⟩ := leaf_takes s x h1 h2
      have hsz2 : s.size ≤ 900 := by rw [← q1]; exact hsz
      have hx2 : x.length ≤ 900 := by rw [← q2]; exact hol2
      refine .inl ⟨s, x, by omega, ?_, fun W hW => ?_⟩
      · unfold node_DecodeLeaf.f
        rw [if_neg hn, if_pos ⟨hb, by omega⟩, p1, p2, p3, if_pos ⟨rfl, h3⟩, leaf_f s x (by omega), h4, Option.bind_some, if_pos rfl]
      · have h := hcall W hW
        rw [q1, q2] at h
        rwa [if_pos (by rw [h4, if_neg h3]; simp)] at h
    · refine .inr ⟨?_, fun W hW => ?_⟩
      · unfold node_DecodeLeaf.f
        rw [if_neg hn, if_pos ⟨hb, by omega⟩]
        by_cases hE : lfE l = 0 ∧ ¬ (lfS l).toList = []
        · rw [if_pos hE]
          obtain ⟨p1, p2, p3⟩ := leaf_back hb hE.1
          rw [leaf_f _ _ (by omega), Option.bind_some]
          cases hlo : leafOk (lfS l) (lf2 l) with
          | true => exact absurd ⟨_, _, p2, p3, hE.2, hlo, p1⟩ hy
          | false => rfl
        · rw [if_neg hE]
      · have h := hcall W hW
        rwa [if_neg (fun hc2 => by
          rw [Bool.and_eq_true, decide_eq_true_eq] at hc2
          obtain ⟨c1, c2⟩ := hc2
          by_cases hs0 : (olS l).toList = []
          · rw [if_pos hs0] at c2
            exact hn c2.symm
          · rw [if_neg hs0] at c2
            exact hy ⟨_, _, by omega, by omega, hs0, c1, c2.symm⟩)] at h
def IsNode (l : List Int) (n : Nat) (rows : List (List Int)) : Prop := rows.length = n ∧ rows.any rowBad = false ∧ rows.any rowSome = true ∧ l = encB rows
theorem decF_no {l : List Int} {n : Nat} (hb : byteL l) (h : ¬ ∃ rows, IsNode l n rows) : decF n l = ([], 4) := by
  unfold decF
  refine if_neg (fun hc => ?_)
  obtain ⟨c1, c2, c3⟩ := hc
  obtain ⟨e1, e2⟩ := endF_zero c2
  obtain ⟨d1, _⟩ := decS_back hb n e1
  rw [e2, List.append_nil] at d1
  exact h ⟨_, decS_len 80 l n, c1, c3, d1⟩
theorem node_agree (k : Nat) (x y z : Int) (A : Option Addr) (c : Nat) (l : List Int) (w : World) (hr : Kd.C (Kd.int .u8) w A l.length l) (hc : l.length ≤ c) (hl : l.length ≤ 900) (hb : byteL l) (hk : 100000 ≤ k) (hg : geom_Right.f x y z = some true) :
    (∃ rows, rows.length ≤ 1000 ∧ (∀ r ∈ rows, r.length ≤ 80) ∧ node_Decode.f x y z l = some (rows, 0) ∧ ∀ W, Below w.heap.size w W → Calls Tryd.prog 21 #[.agg #[.int .i64 x, .int .i64 y, .int .i64 z], .slice A l.length c] W (OfPost W rows true)) ∨
    (node_Decode.f x y z l = some ([], 4) ∧ ∀ W, Below w.heap.size w W → Calls Tryd.prog 21 #[.agg #[.int .i64 x, .int .i64 y, .int .i64 z], .slice A l.length c] W (OfPost W [] false)) := by
  obtain ⟨g1, g2⟩ := geom_true hg
  obtain ⟨n, hn⟩ := Int.eq_ofNat_of_zero_le (show 0 ≤ x by omega)
  have htl := takes_len l n
  have hT := refRight_f (takes l n).1 (by omega) x y z true hg k (by omega)
  have hlen : (((takes l n).1.length : Int) == x) = true := by rw [htl, hn]; simp
  rw [hlen, Bool.and_self, Bool.and_true] at hT
  have hB : (!(takes l n).1.any rowBad) = true → oublietteref28_Bytes.f k (takes l n).1 = some (if (takes l n).1.any rowSome = true then encB (takes l n).1 else []) := fun h =>
    refBytes_f _ (by omega) (by simpa using h) k (by omega)
  have hen : (!(takes l n).1.any rowBad) = true → (encB (takes l n).1).length ≤ 82 * n := fun h => by
    have hbad : (takes l n).1.any rowBad = false := by simpa using h
    have := enc_len (takes l n).1 (fun p hp => by
      cases hq : rowBad p with
      | false => rfl
      | true => rw [List.any_eq_true.2 ⟨p, hp, hq⟩] at hbad; cases hbad)
    rwa [htl] at this
  have hS : (!(takes l n).1.any rowBad) = true → oublietteref01_Same.f k (if (takes l n).1.any rowSome = true then encB (takes l n).1 else []) l = some (decide ((if (takes l n).1.any rowSome = true then encB (takes l n).1 else []) = l)) := fun h => by
    have := hen h
    refine same_f _ _ ?_ k ?_
    all_goals
      split
      · omega
      · simp
        try omega
  have hcall := fun (W : World) (hW : Below w.heap.size w W) => Of_calls k x y z A c l W n hn (by omega) (Kd.C_below hr hW) hc (by omega) hb _ _ _ hT hB hS
  have hDec : node_Decode.f x y z l = if l = [] then some (List.replicate n [], 0) else some (decF n l) := by
    unfold node_Decode.f
    have e : x.toNat = n := by omega
    rw [hg, Option.bind_some, if_pos rfl, e]
    by_cases h0 : l = []
    · rw [if_pos h0, if_pos h0]
    · rw [if_neg h0, if_neg h0, if_pos ⟨hb, by omega⟩]
  by_cases h0 : l = []
  · subst h0
    have htn : (takes [] n).1 = List.replicate n [] := by rw [takes_nil]
    have hbad : (List.replicate n ([] : List Int)).any rowBad = false := by
      rw [List.any_eq_false]
      intro r hr
      rw [List.eq_of_mem_replicate hr]
      decide
    have hsome : (List.replicate n ([] : List Int)).any rowSome = false := by
      rw [List.any_eq_false]
      intro r hr
      rw [List.eq_of_mem_replicate hr]
      decide
    refine .inl ⟨List.replicate n [], by simp; omega, fun r hr => by rw [List.eq_of_mem_replicate hr]; simp, by rw [hDec, if_pos rfl], fun W hW => ?_⟩
    have h := hcall W hW
    rw [htn, hbad, hsome] at h
    rwa [if_pos (by simp)] at h
  · by_cases hy : ∃ rows, IsNode l n rows
    · obtain ⟨rows, r1, r2, r3, r4⟩ := hy
      have h80 := bad_80 r2
      have h80' : ∀ r ∈ rows, r.length ≤ 80 := fun r hr => by have := h80 r hr; omega
      have htk : (takes l n).1 = rows := by
        rw [r4, takes_enc rows h80' n (by omega), ← r1, List.take_length]
      refine .inl ⟨rows, by omega, h80', ?_, fun W hW => ?_⟩
      · rw [hDec, if_neg h0, ← r1]
        conv => lhs; rw [r4]
        rw [decF_enc rows r2 r3]
      · have h := hcall W hW
        rw [htk, r2, r3] at h
        rwa [if_pos (by rw [if_pos rfl, ← r4]; simp)] at h
    · refine .inr ⟨by rw [hDec, if_neg h0, decF_no hb hy], fun W hW => ?_⟩
      have h := hcall W hW
      rwa [if_neg (fun hc2 => by
        rw [Bool.and_eq_true, decide_eq_true_eq] at hc2
        obtain ⟨c1, c2⟩ := hc2
        cases hs : (takes l n).1.any rowSome with
        | true =>
          rw [hs, if_pos rfl] at c2
          exact hy ⟨_, htl, by simpa using c1, hs, c2.symm⟩
        | false =>
          rw [hs, if_neg (by simp)] at c2
          exact h0 c2.symm)] at h
theorem NodeReads.calls (x y z : Int) (A : Option Addr) (c : Nat) (l : List Int) (w : World) (HLD : Laid w) (hr : Kd.C (Kd.int .u8) w A l.length l) (hc : l.length ≤ c) (hb : ∀ n ∈ l, 0 ≤ n ∧ n < 256) :
    Calls Tryd.prog 4 #[.agg #[.int .i64 x, .int .i64 y, .int .i64 z], .slice A l.length c] w fun e w' => e = .returned (.bool true) ∧ Below w.heap.size w w' := by
  obtain ⟨k, hk⟩ : ∃ k : Nat, 200000 ≤ k := ⟨_, Nat.le_refl _⟩
  by_cases hl : l.length ≤ 900
  · obtain ⟨t, ht⟩ := geom_some x y z
    have hgq : oublietteref21_Right.f x y z = some t := by rw [geom_eq]; exact ht
    have hno : t = false → node_Decode.f x y z l = some ([], 2) := fun h => by
      unfold node_Decode.f
      rw [ht, h, Option.bind_some, if_neg (by simp)]
    have hnil : oublietteref01_Same.f k [] [] = some true := same_refl [] (by simp) k (by simp; omega)
    rcases leaf_agree k A c l w hr hc hl hb (by omega) with ⟨S, X, hX, hD, hO⟩ | ⟨hD, hO⟩
    · have hSX : oublietteref01_Same.f k X X = some true := same_refl X (by omega) k (by omega)
      cases t with
      | false => exact NodeReads.leafno k x y z A c l w HLD hr hc S X [] hl hD hO hSX (hno rfl) hgq
      | true =>
        rcases node_agree k x y z A c l w hr hc hl hb (by omega) ht with ⟨rows, h1, h2, hE, hOf⟩ | ⟨hE, hOf⟩
        · exact NodeReads.leaffine k x y z A c l w HLD hr hc S X rows hl hD hO hSX hE hgq hOf h1 (fun r hr => by have := h2 r hr; omega)
        · exact NodeReads.leafbad k x y z A c l w HLD hr hc S X [] hl hD hO hSX hE hgq hOf
    · cases t with
      | false => exact NodeReads.noneno k x y z A c l w HLD hr hc ⟨#[]⟩ [] [] hl hD hO hnil (hno rfl) hgq
      | true =>
        rcases node_agree k x y z A c l w hr hc hl hb (by omega) ht with ⟨rows, h1, h2, hE, hOf⟩ | ⟨hE, hOf⟩
        · exact NodeReads.nonefine k x y z A c l w HLD hr hc ⟨#[]⟩ [] rows hl hD hO hnil hE hgq hOf h1 (fun r hr => by have := h2 r hr; omega)
        · exact NodeReads.nonebad k x y z A c l w HLD hr hc ⟨#[]⟩ [] [] hl hD hO hnil hE hgq hOf
  · exact NodeReads.dark k x y z A c l w HLD hr hc hl
end Go.Proofs.YtloagejeeakikaaDoor.QB
