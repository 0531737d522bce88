/- What the rows of the op laws share: an operation that came in, opened; a witness that holds the listed tables. An operation that came in, opened. An api.Answer that is handed in, opened. -/
import Derived.Test.YtdcknajlioalgaaDoorRows
import Derived.Test.YtdcknajlioalgaaDoorTie
import Derived.Test.YtdcknajlioalgaaDoorCards
import Derived.Test.YtdcknajlioalgaaDoorCbI
import Derived.WalkKit
import Derived.ProofKit
import Derived.OpenShut
import Derived.ShutString
import Derived.ChangeOld
import Derived.Below
import Derived.SizedLaws
import Derived.LaidMore
import Derived.Stop.Joined
import Derived.Lib.SmallJoins
import Derived.Lib.LaidU8
import Derived.Lib.LaidIn
import Derived.SevenTiedAt
namespace Go.Proofs.YtdcknajlioalgaaDoor.op
open Go.ChangeShapes Go.WideShapes Go.ChangeAt Go.RowKit Go.Lib Go.Shelf
open Go.ChangeMaps (open_string shut_string)
open Go.Joins
open Go.Proofs.YtdcknajlioalgaaDoorW.PrintWords
set_option linter.unusedVariables false
theorem own : ownKnob Tryd.prog.godebug = none := by kernel_rfl
theorem laidOut : laidOutB Tryd.prog = true := by kernel_rfl
def lit1 : DataW Unit → List Value
  | .lit (.int k z) => [.int k z]
  | _ => []
def lit2 : DataW Unit → List Value
  | .agg ds => ds.flatMap lit1
  | d => lit1 d
def lit3 : DataW Unit → List Value
  | .agg ds => ds.flatMap lit2
  | _ => []
/-- THE WITNESS: a settled world, the listed variables holding what the rows list. -/
noncomputable def laidWorld (os : Os) : World :=
  let w0 := World.holding Tryd.prog os ⟨#[], #[], []⟩
  let put (h : Array Obj) (g : Nat) (d : DataW Unit) : Array Obj := h.modify g fun
    | .cells _ t frozen => .cells (lit3 d).toArray t frozen
    | o => o
  { w0 with heap := put (put (put (put (put w0.heap 4 Rows.laid_math_bits_deBruijn32tab) 5 Rows.laid_math_bits_deBruijn64tab) 3 Rows.laid_internal_strconv_uint64pow10) 1 Rows.laid_unicode_utf8_acceptRanges) 0 Rows.laid_unicode_utf8_first }
set_option maxRecDepth 100000 in
theorem laid_met (os : Os) (args : Array Value) : laidMetH Tryd.prog Rows.opPrintsRow.laid ((laidWorld os).forCall (fun _ _ => 0) ⟨#[], args, []⟩).memory := by
  rw [MakeChecks.laidMetH_plain _ _ _ (by kernel_rfl)]
  exact laidMet_of_run' 8 (by kernel_rfl) (by kernel_rfl)
theorem firstIs : (Rows.laid_unicode_utf8_first : DataW Unit) = Lib.firstData := by kernel_rfl
theorem acceptIs : (Rows.laid_unicode_utf8_acceptRanges : DataW Unit) = Lib.acceptData := by kernel_rfl
theorem powIs : (Rows.laid_internal_strconv_uint64pow10 : DataW Unit) = Lib.tabData .u64 Lib.pow10Tab := by kernel_rfl
theorem laid_of {W : World} (h : laidMetH Tryd.prog Rows.opPrintsRow.laid W) : QD.Laid W := by
  rw [MakeChecks.laidMetH_plain _ _ _ (by kernel_rfl)] at h
  have h1 : VarReads Tryd.prog W "unicode/utf8.first" Lib.firstData := firstIs ▸ Lib.laidMet.reads h (.tail _ (.tail _ (.tail _ (.tail _ (.head _)))))
  have h2 : VarReads Tryd.prog W "unicode/utf8.acceptRanges" Lib.acceptData := acceptIs ▸ Lib.laidMet.reads h (.tail _ (.tail _ (.tail _ (.head _))))
  have h3 : VarReads Tryd.prog W "internal/strconv.uint64pow10" (Lib.tabData .u64 Lib.pow10Tab) := powIs ▸ Lib.laidMet.reads h (.tail _ (.tail _ (.head _)))
  refine ⟨utf8Tabs_of_reads Tryd.lays260 ⟨by kernel_rfl, by kernel_rfl, by kernel_rfl, by kernel_rfl, by kernel_rfl, by kernel_rfl, by kernel_rfl⟩ h1 h2, ?_⟩
  obtain ⟨g, t, cs, fuel, p, hg, hty, hvar, hd⟩ := h3
  obtain rfl := Option.some.inj ((show Tryd.prog.globalNamed "internal/strconv.uint64pow10" = some 3 by kernel_rfl).symm.trans hg)
  obtain rfl := Option.some.inj ((show (Tryd.prog.globals[3]?).map (·.type) = some 175 by kernel_rfl).symm.trans hty)
  have hcs := Lib.cells_of_tab (show Tryd.prog.underlying 175 = some (.array 20 169) by kernel_rfl) (show Tryd.prog.underlying 169 = some (.int .u64) by kernel_rfl) (by kernel_rfl) (by kernel_rfl) hd
  unfold Lib.TabIs
  rw [hvar, ← hcs]
end Go.Proofs.YtdcknajlioalgaaDoor.op
namespace Go.Proofs.YtdcknajlioalgaaDoor.op
open Go.ChangeShapes Go.WideShapes Go.ChangeAt Go.RowKit Go.Lib Go.Shelf
open Go.ChangeMaps (open_string shut_string)
open Go.Joins
open Go.Proofs.YtdcknajlioalgaaDoorW.PrintWords
set_option linter.unusedVariables false
def IsRow (k : IntKind) (w : World) (a : Option Addr) (len cap : Nat) (zs : List Int) : Prop :=
  (a = none ∧ len = 0 ∧ cap = 0 ∧ zs = []) ∨
  ∃ x, a = some x ∧ len ≤ cap ∧ cap ≤ maxLen ∧ zs.length = cap ∧ (∀ i, i < zs.length → w.cell? (x.add i) = some (.int k (zs.getD i 0))) ∧ ∀ n ∈ zs, (Lit.int k n).wf = true
/-- Bytes that came in, as a list. -/
theorem bytes_in {H : Type} {enc : TypeId × Value → H} {W : World} {a : Option Addr} {len cap : Nat} {x : DataW H × List MemPlace} {fuel : Nat}
    (hf : DataW.trod enc Tryd.prog W 0 (fun _ => true) true fuel 26 [Value.slice a len cap] = some x) : ∃ l : List Int, len = l.length ∧ Kd.C (Kd.int .u8) W a l.length l ∧ l.length ≤ cap ∧ ∀ n ∈ l, 0 ≤ n ∧ n < 256 := by
  have hz : ∃ zs, IsRow .u8 W a len cap zs := by
    rcases open_ints Tryd.underlying26 Tryd.underlying5 (by kernel_rfl) hf with ⟨hcs, _⟩ | ⟨x, l, c, zs, hcs, _, hl, hm, hz, _, hcell, hwz⟩
    · simp at hcs
      obtain ⟨rfl, rfl, rfl⟩ := hcs
      exact ⟨[], .inl ⟨rfl, rfl, rfl, rfl⟩⟩
    · simp at hcs
      obtain ⟨rfl, rfl, rfl⟩ := hcs
      exact ⟨zs, .inr ⟨_, rfl, hl, hm, by simpa using hz, hcell, hwz⟩⟩
  obtain ⟨zs, hz⟩ := hz
  obtain ⟨l, h1, h2, h3, h4, h5⟩ := ReadsInt.ofRowC hz
  exact ⟨l, h1, Kd.C_of_reads (enc := Value.int .u8) (d := (0 : Int)) (h1 := fun _ => rfl) h2, h5, fun n hn => by
    have := h4 n hn
    simp [Lit.wf, IntKind.min, IntKind.max, IntKind.bits, IntKind.signed] at this
    omega⟩
theorem array8 {α : Type} {cs : Array α} (h : cs.size = 8) : ∃ c0 c1 c2 c3 c4 c5 c6 c7, cs = #[c0, c1, c2, c3, c4, c5, c6, c7] := by
  obtain ⟨l⟩ := cs
  match l, h with
  | [c0, c1, c2, c3, c4, c5, c6, c7], _ => exact ⟨c0, c1, c2, c3, c4, c5, c6, c7, rfl⟩
theorem list8 {α : Type} {l : List α} (h : l.length = 8) : ∃ c0 c1 c2 c3 c4 c5 c6 c7, l = [c0, c1, c2, c3, c4, c5, c6, c7] := by
  match l, h with
  | [c0, c1, c2, c3, c4, c5, c6, c7], _ => exact ⟨c0, c1, c2, c3, c4, c5, c6, c7, rfl⟩
set_option maxRecDepth 100000 in
/-- An operation that came in, opened. -/
theorem open_op {H : Type} {enc : TypeId × Value → H} {W : World} {r : Reach} {b0 : Nat} {v : Value} {d : DataW H} {p : List MemPlace} (hv : Value.okWide Tryd.prog W r b0 28 v) (h : DataW.Trod enc Tryd.prog W 0 (fun _ => true) true 28 v d p) :
    ∃ (o : QD.OpV) (A : Option Addr) (c : Nat), v = .agg (o.cells (.slice A o.X.length c)) ∧ Kd.C (Kd.int .u8) W A o.X.length o.X ∧ o.X.length ≤ c ∧ QD.Bytes8 o.X := by
  have e3 : Tryd.prog.cellsOf 3 = 1 := by kernel_rfl
  have e9 : Tryd.prog.cellsOf 9 = 1 := by kernel_rfl
  have e26 : Tryd.prog.cellsOf 26 = 1 := by kernel_rfl
  have e28 : Tryd.prog.cellsOf 28 = 8 := by kernel_rfl
  obtain ⟨cs, rfl, hsz⟩ := okWide_struct Tryd.underlying28 hv
  obtain ⟨c0, c1, c2, c3, c4, c5, c6, c7, rfl⟩ := array8 (hsz.trans e28)
  obtain ⟨fuel, hf⟩ := h
  obtain ⟨xs, n, _, _, _, hlen, hg⟩ := DataW.trod_struct Tryd.underlying28 hf
  obtain ⟨y0, y1, y2, y3, y4, y5, y6, y7, rfl⟩ := list8 (hlen.trans rfl)
  have g0 : DataW.trod enc Tryd.prog W 0 (fun _ => true) true n 3 [c0] = some y0 := by simpa [Value.cells, e3] using hg 0 { name := "Kind", type := 3, offset := 0, embedded := false, tag := "", pkgPath := "", byteOffset := 0 } rfl
  have g1 : DataW.trod enc Tryd.prog W 0 (fun _ => true) true n 9 [c1] = some y1 := by simpa [Value.cells, e9] using hg 1 { name := "Group", type := 9, offset := 1, embedded := false, tag := "", pkgPath := "", byteOffset := 8 } rfl
  have g2 : DataW.trod enc Tryd.prog W 0 (fun _ => true) true n 9 [c2] = some y2 := by simpa [Value.cells, e9] using hg 2 { name := "ID", type := 9, offset := 2, embedded := false, tag := "", pkgPath := "", byteOffset := 24 } rfl
  have g3 : DataW.trod enc Tryd.prog W 0 (fun _ => true) true n 3 [c3] = some y3 := by simpa [Value.cells, e3] using hg 3 { name := "Epoch", type := 3, offset := 3, embedded := false, tag := "", pkgPath := "", byteOffset := 40 } rfl
  have g4 : DataW.trod enc Tryd.prog W 0 (fun _ => true) true n 3 [c4] = some y4 := by simpa [Value.cells, e3] using hg 4 { name := "Sender", type := 3, offset := 4, embedded := false, tag := "", pkgPath := "", byteOffset := 48 } rfl
  have g5 : DataW.trod enc Tryd.prog W 0 (fun _ => true) true n 3 [c5] = some y5 := by simpa [Value.cells, e3] using hg 5 { name := "Gen", type := 3, offset := 5, embedded := false, tag := "", pkgPath := "", byteOffset := 56 } rfl
  have g6 : DataW.trod enc Tryd.prog W 0 (fun _ => true) true n 3 [c6] = some y6 := by simpa [Value.cells, e3] using hg 6 { name := "Said", type := 3, offset := 6, embedded := false, tag := "", pkgPath := "", byteOffset := 64 } rfl
  have g7 : DataW.trod enc Tryd.prog W 0 (fun _ => true) true n 26 [c7] = some y7 := by simpa [Value.cells, e26] using hg 7 { name := "Secret", type := 26, offset := 7, embedded := false, tag := "", pkgPath := "", byteOffset := 72 } rfl
  obtain ⟨K, k0, _, _⟩ := DataW.trod_int Tryd.underlying3 g0
  obtain ⟨G, k1, _, _⟩ := DataW.trod_string Tryd.underlying9 g1
  obtain ⟨I, k2, _, _⟩ := DataW.trod_string Tryd.underlying9 g2
  obtain ⟨E, k3, _, _⟩ := DataW.trod_int Tryd.underlying3 g3
  obtain ⟨S, k4, _, _⟩ := DataW.trod_int Tryd.underlying3 g4
  obtain ⟨N, k5, _, _⟩ := DataW.trod_int Tryd.underlying3 g5
  obtain ⟨V, k6, _, _⟩ := DataW.trod_int Tryd.underlying3 g6
  obtain ⟨A, m, c, k7⟩ := slice_form Tryd.underlying26 g7
  obtain rfl := (List.cons.inj k0).1
  obtain rfl := (List.cons.inj k1).1
  obtain rfl := (List.cons.inj k2).1
  obtain rfl := (List.cons.inj k3).1
  obtain rfl := (List.cons.inj k4).1
  obtain rfl := (List.cons.inj k5).1
  obtain rfl := (List.cons.inj k6).1
  obtain rfl := (List.cons.inj k7).1
  obtain ⟨X, rfl, hr, hc, hb⟩ := bytes_in g7
  exact ⟨⟨K, G, I, E, S, N, V, X⟩, A, c, rfl, hr, hc, hb⟩
end Go.Proofs.YtdcknajlioalgaaDoor.op
namespace Go.Proofs.YtdcknajlioalgaaDoor.op
open Go.ChangeShapes Go.WideShapes Go.ChangeAt Go.RowKit Go.Lib Go.Shelf
open Go.ChangeMaps (open_string shut_string)
open Go.Joins
open Go.Proofs.YtdcknajlioalgaaDoorW.PrintWords
set_option linter.unusedVariables false
theorem ints_in {H : Type} {enc : TypeId × Value → H} {W : World} {a : Option Addr} {len cap : Nat} {x : DataW H × List MemPlace} {fuel : Nat}
    (hf : DataW.trod enc Tryd.prog W 0 (fun _ => true) true fuel 29 [Value.slice a len cap] = some x) : ∃ l : List Int, len = l.length ∧ Kd.C (Kd.int .i64) W a l.length l ∧ l.length ≤ cap := by
  have hz : ∃ zs, IsRow .i64 W a len cap zs := by
    rcases open_ints Tryd.underlying29 Tryd.underlying3 (by kernel_rfl) hf with ⟨hcs, _⟩ | ⟨x, l, c, zs, hcs, _, hl, hm, hz, _, hcell, hwz⟩
    · simp at hcs
      obtain ⟨rfl, rfl, rfl⟩ := hcs
      exact ⟨[], .inl ⟨rfl, rfl, rfl, rfl⟩⟩
    · simp at hcs
      obtain ⟨rfl, rfl, rfl⟩ := hcs
      exact ⟨zs, .inr ⟨_, rfl, hl, hm, by simpa using hz, hcell, hwz⟩⟩
  obtain ⟨zs, hz⟩ := hz
  obtain ⟨l, h1, h2, h3, h4, h5⟩ := ReadsInt.ofRowC hz
  exact ⟨l, h1, Kd.C_of_reads (enc := Value.int .i64) (d := (0 : Int)) (h1 := fun _ => rfl) h2, h5⟩
theorem array4 {α : Type} {cs : Array α} (h : cs.size = 4) : ∃ c0 c1 c2 c3, cs = #[c0, c1, c2, c3] := by
  obtain ⟨l⟩ := cs
  match l, h with
  | [c0, c1, c2, c3], _ => exact ⟨c0, c1, c2, c3, rfl⟩
theorem list4 {α : Type} {l : List α} (h : l.length = 4) : ∃ c0 c1 c2 c3, l = [c0, c1, c2, c3] := by
  match l, h with
  | [c0, c1, c2, c3], _ => exact ⟨c0, c1, c2, c3, rfl⟩
set_option maxRecDepth 100000 in
theorem open_ans {H : Type} {enc : TypeId × Value → H} {W : World} {r : Reach} {b0 : Nat} {v : Value} {d : DataW H} {p : List MemPlace} (hv : Value.okWide Tryd.prog W r b0 54 v) (h : DataW.Trod enc Tryd.prog W 0 (fun _ => true) true 54 v d p) :
    ∃ (F : Int) (B Nm : List Int) (T : ByteArray) (A D : Option Addr) (c e : Nat), v = .agg #[.int .i64 F, .slice A B.length c, .slice D Nm.length e, .string T] ∧ Kd.C (Kd.int .u8) W A B.length B ∧ B.length ≤ c ∧ QD.Bytes8 B ∧ Kd.C (Kd.int .i64) W D Nm.length Nm ∧ Nm.length ≤ e := by
  have e38 : Tryd.prog.cellsOf 38 = 1 := by kernel_rfl
  have e9 : Tryd.prog.cellsOf 9 = 1 := by kernel_rfl
  have e26 : Tryd.prog.cellsOf 26 = 1 := by kernel_rfl
  have e29 : Tryd.prog.cellsOf 29 = 1 := by kernel_rfl
  have e54 : Tryd.prog.cellsOf 54 = 4 := by kernel_rfl
  obtain ⟨cs, rfl, hsz⟩ := okWide_struct Tryd.underlying54 hv
  obtain ⟨c0, c1, c2, c3, rfl⟩ := array4 (hsz.trans e54)
  obtain ⟨fuel, hf⟩ := h
  obtain ⟨xs, n, _, _, _, hlen, hg⟩ := DataW.trod_struct Tryd.underlying54 hf
  obtain ⟨y0, y1, y2, y3, rfl⟩ := list4 (hlen.trans rfl)
  have g0 : DataW.trod enc Tryd.prog W 0 (fun _ => true) true n 38 [c0] = some y0 := by simpa [Value.cells, e38] using hg 0 _ rfl
  have g1 : DataW.trod enc Tryd.prog W 0 (fun _ => true) true n 26 [c1] = some y1 := by simpa [Value.cells, e26] using hg 1 _ rfl
  have g2 : DataW.trod enc Tryd.prog W 0 (fun _ => true) true n 29 [c2] = some y2 := by simpa [Value.cells, e29] using hg 2 _ rfl
  have g3 : DataW.trod enc Tryd.prog W 0 (fun _ => true) true n 9 [c3] = some y3 := by simpa [Value.cells, e9] using hg 3 _ rfl
  obtain ⟨F, k0, _, _⟩ := DataW.trod_int Tryd.underlying38 g0
  obtain ⟨A, m, c, k1⟩ := slice_form Tryd.underlying26 g1
  obtain ⟨D, m2, e, k2⟩ := slice_form Tryd.underlying29 g2
  obtain ⟨T, k3, _, _⟩ := DataW.trod_string Tryd.underlying9 g3
  obtain rfl := (List.cons.inj k0).1
  obtain rfl := (List.cons.inj k1).1
  obtain rfl := (List.cons.inj k2).1
  obtain rfl := (List.cons.inj k3).1
  obtain ⟨B, rfl, hr, hc, hb⟩ := bytes_in g1
  obtain ⟨Nm, rfl, hr2, hc2⟩ := ints_in g2
  exact ⟨F, B, Nm, T, A, D, c, e, rfl, hr, hc, hb, hr2, hc2⟩
end Go.Proofs.YtdcknajlioalgaaDoor.op
