/- op.Fault, op.Read walked. op.Read walked. Plain: a part of a name has no blank in it. Plain: what is told is read as it was, and what is read has just that line. Plain: operations and answers are read as they were told, and what is read has just that line. Plain: an answer is read as it was told; what the reader and the teller always have an answer to. light, Ints, Same of answers walked. OpBack walked: the statement's function answers true. -/
import Derived.Test.YtdcknajlioalgaaDoorCbI
import Derived.WalkMore
import Derived.Test.YtdcknajlioalgaaDoorCbF
namespace Go.Proofs.YtdcknajlioalgaaDoor.QD
open Go.RowKit Go.Proofs.YtdcknajlioalgaaDoorW.PrintWords Go.Proofs.YtdcknajlioalgaaDoorW.PrintLast Go.Proofs.YtdcknajlioalgaaDoorW.PrintMore Go.Proofs.YtdcknajlioalgaaDoor.Hex
set_option linter.unusedVariables false
set_option linter.unusedSimpArgs false
def idxOf (s : ByteArray) : List ByteArray → Int → Int
  | [], _ => -1
  | x :: l, i => if s = x then i else idxOf s l (i + 1)
theorem index_loop (ws : List ByteArray) (s : ByteArray) (hl : ws.length ≤ 1000000) : ∀ (n i k : Nat), i + n = ws.length → slices_Index_string_string.l0 (k + n + 1) ws s (ws.length : Int) i = some (idxOf s (ws.drop i) i)
  | 0, i, k, h => by
    rw [slices_Index_string_string.l0, if_neg (by omega), List.drop_eq_nil_of_le (by omega)]
    rfl
  | n + 1, i, k, h => by
    have hi : i < ws.length := by omega
    have hw : wrap64 ((i : Int) + 1) = ((i + 1 : Nat) : Int) := by unfold wrap64; omega
    have hx : rdOf ByteArray.empty ws ((i : Nat) : Int) = ws[i] := by
      unfold rdOf
      rw [Int.toNat_natCast, List.getD_eq_getElem?_getD, List.getElem?_eq_getElem hi]
      rfl
    rw [show k + (n + 1) + 1 = (k + n + 1) + 1 by omega, slices_Index_string_string.l0, if_pos (by omega), if_pos (by omega), if_pos (by omega), hx, List.drop_eq_getElem_cons hi, idxOf]
    by_cases c : s = ws[i]
    · rw [if_pos (by rw [← c]), if_pos c]
    · rw [if_neg (by rw [tl_iff]; exact c), if_neg c, hw]
      exact index_loop ws s hl n (i + 1) k (by omega)
def faultF (s : ByteArray) : Int × Bool := if idxOf s wordsL 0 < 0 then (0, false) else (idxOf s wordsL 0, true)
theorem faultCall (s : ByteArray) (w : World) : Calls Tryd.prog 51 #[.string s] w fun e w' => e = .returned (.tuple #[.int .i64 (faultF s).1, .bool (faultF s).2]) ∧ Below w.heap.size w w' := by
  have hu135 := Tryd.underlying135
  go_enter Tryd.func51, Tryd.ntmps51
  go_wp2_with (fail)
  refine (words _).mono ?_
  rintro _ w2 ⟨rfl, hb⟩
  have HB := Aside0.mk (below_alloc hb (.cells wordsC 135))
  have Z := heap_alloc_new w2 (.cells wordsC 135)
  clear hb
  have hC : Kd.C Kd.string (w2.alloc (.cells wordsC 135)) (some ⟨w2.heap.size, 0, none⟩) 15 wordsL := by
    refine Kd.C_of_reads (enc := Value.string) (d := ByteArray.empty) ⟨rfl, by decide, fun _ => ⟨_, rfl, fun j hj => ?_⟩⟩
    rw [add_plain]
    have h1 := wordsC_at j hj
    refine cell_of Z (h1.trans ?_)
    rcases (show j = 0 ∨ j = 1 ∨ j = 2 ∨ j = 3 ∨ j = 4 ∨ j = 5 ∨ j = 6 ∨ j = 7 ∨ j = 8 ∨ j = 9 ∨ j = 10 ∨ j = 11 ∨ j = 12 ∨ j = 13 ∨ j = 14 by omega) with rfl | rfl | rfl | rfl | rfl | rfl | rfl | rfl | rfl | rfl | rfl | rfl | rfl | rfl | rfl <;> rfl
  have hix : slices_Index_string_string.f 16 wordsL s = some (idxOf s wordsL 0) := index_loop wordsL s (by decide) 15 0 0 rfl
  obtain ⟨q, hq⟩ : ∃ q, idxOf s wordsL 0 = q := ⟨_, rfl⟩
  have hfq : faultF s = if q < 0 then (0, false) else (q, true) := by unfold faultF; rw [hq]
  rw [hq] at hix
  have IC := Aside0.mk (slices_Index_string_string.calls 16 (some ⟨w2.heap.size, 0, none⟩) 15 wordsL s q _ hC (Nat.le_refl 15) hix)
  clear hC hix Z hq
  have HFQ := Aside0.mk hfq
  clear hfq
  go_wp2_with ((with_reducible refine gate_ (.store 135 (.tmp 4) (.tmp 6)) rfl ?_); go_loud (refine wpList_store_row rfl 135 (.tmp 4) (.tmp 6) rfl w2.heap.size wordsC rfl rfl 135 _ (heap_alloc_new _ _) (by kernel_rfl) rfl (by kernel_rfl) ?_); rw [World.setRow_alloc_new])
  refine IC.out.mono ?_
  rintro _ w4 ⟨rfl, hd4⟩
  have HB4 := Aside0.mk (HB.out.trans (hd4.below.mono HB.out.size))
  clear hd4 IC
  by_cases h0 : q < 0
  · have e1 : decide (q < 0) = true := decide_eq_true h0
    have HE := Aside0.mk (HFQ.out.trans (if_pos h0))
    clear h0
    go_wp2_with (fail)
    go_ret2
    exact ⟨by rw [HE.out]; rfl, HB4.out⟩
  · have e1 : decide (q < 0) = false := decide_eq_false h0
    have HE := Aside0.mk (HFQ.out.trans (if_neg h0))
    clear h0
    go_wp2_with (fail)
    go_ret2
    exact ⟨by rw [HE.out]; rfl, HB4.out⟩
end Go.Proofs.YtdcknajlioalgaaDoor.QD
namespace Go.Proofs.YtdcknajlioalgaaDoor.QD
open Go.RowKit Go.Proofs.YtdcknajlioalgaaDoorW.PrintWords Go.Proofs.YtdcknajlioalgaaDoorW.PrintLast Go.Proofs.YtdcknajlioalgaaDoorW.PrintMore Go.Proofs.YtdcknajlioalgaaDoor.Hex
set_option linter.unusedVariables false
set_option linter.unusedSimpArgs false
theorem info3' : (Tryd.prog.info? 3).map (fun i => (i.zero, i.size, i.bytes)) = some (some (.int .i64 0), 1, 8) := by kernel_rfl
/-- An answer. -/
structure AnsV where
  F : Int
  B : List Int
  Nm : List Int
  T : ByteArray
def cut1 (p : UInt8) (x : ByteArray) : ByteArray := ⟨(Lib.trimPrefix x.data.toList [p]).toArray⟩
def has1 (p : UInt8) (x : ByteArray) : Bool := Lib.hasPrefix x.data.toList [p]
def readStep (a : AnsV) (x : ByteArray) : AnsV :=
  if (numN x).2 = 0 then { a with Nm := a.Nm ++ [(numN x).1] } else if has1 35 x = true then { a with B := (hexP (bytesOf (cut1 35 x))).1 } else { a with T := cut1 61 x }
def readWords (ws : List ByteArray) : AnsV := ws.tail.foldl readStep ⟨(faultF (ws.headD ⟨#[]⟩)).1, [], [], ⟨#[]⟩⟩
def AnsV.zero : AnsV := ⟨0, [], [], ⟨#[]⟩⟩
/-- op.Read: the answer, the fault. -/
def readP (s : ByteArray) : Option (AnsV × Int) :=
  if s.size ≤ 1000000 ∧ (splitO 32 s).length ≤ 90000 then
    if s = ⟨#[]⟩ then some (AnsV.zero, 3)
    else (tellP (readWords (splitO 32 s)).F (readWords (splitO 32 s)).B (readWords (splitO 32 s)).Nm (readWords (splitO 32 s)).T).bind fun t => if t = s then some (readWords (splitO 32 s), 0) else some (AnsV.zero, 3)
  else none
def AnsPost (w : World) (a : AnsV) (f : Int) (e : Ending) (w' : World) : Prop :=
  ∃ vB vN, e = .returned (.tuple #[.agg #[.int .i64 a.F, vB, vN, .string a.T], .int .i64 f]) ∧ Kd.R (Kd.int .u8) 5 w' w.heap.size (fun _ => True) vB a.B ∧ Kd.R (Kd.int .i64) 3 w' w.heap.size (fun _ => True) vN a.Nm ∧ Below w.heap.size w w'
theorem R_grown2 {α β : Type} {d : Kd α} {d' : Kd β} {e e' : Nat} {w w1 : World} {base base' : Nat} {ok ok' : Nat → Prop} {v v' : Value} {xs : List α} {ys : List β} (h : Kd.R d e w base ok v xs) (h' : Kd.R d' e' w base' ok' v' ys) (hg : w.grownBy w1 v'.ownBlock) (ht : ∀ q, q ∈ e :: d.E → q ≠ e') : Kd.R d e w1 base ok v xs := by
  refine Kd.R_mono (Kd.R_move (Kd.R_bound h) (fun k hk => hg.block k hk.2.2.1 ?_)) (fun k hk => hk.1)
  intro he
  obtain ⟨inner, ho⟩ := Kd.R_own h'
  obtain ⟨cells, hc⟩ := own_typed ho k he.symm
  obtain ⟨_, _, _, q, hq, cells', hc'⟩ := hk
  rw [hc] at hc'
  injection hc' with hc'
  injection hc' with _ hc'
  exact ht q hq hc'.symm
theorem R_setRowG {α : Type} {d : Kd α} {e : Nat} {w : World} {base g t : Nat} {ok : Nat → Prop} {v : Value} {X : List α} {cells : Array Value} (h : Kd.R d e w base ok v X) (hg : w.heap[g]? = some (.cells cells t (0, 0))) (ht : ∀ q, q ∈ e :: d.E → q ≠ t) (cs : Array Value) :
    Kd.R d e (w.setRow g cs) base ok v X :=
  Kd.R_mono (Kd.R_move (Kd.R_types h hg ht) (fun k hk => setRow_other w g k cs hk.2)) (fun _ hk => hk.1)
theorem q53 : ∀ q, q ∈ 5 :: (Kd.int .u8).E → q ≠ 3 := by intro q hq; have : q = 5 := by simpa [Kd.int, Kd.scalar] using hq
                                                         rw [this]; decide
theorem q554 : ∀ q, q ∈ 5 :: (Kd.int .u8).E → q ≠ 54 := by intro q hq; have : q = 5 := by simpa [Kd.int, Kd.scalar] using hq
                                                           rw [this]; decide
theorem q354 : ∀ q, q ∈ 3 :: (Kd.int .i64).E → q ≠ 54 := by intro q hq; have : q = 3 := by simpa [Kd.int, Kd.scalar] using hq
                                                            rw [this]; decide
theorem cut1_size (p : UInt8) (x : ByteArray) : (cut1 p x).size ≤ x.size := by
  unfold cut1 Lib.trimPrefix
  show (if _ then _ else _ : List UInt8).toArray.size ≤ _
  rw [List.size_toArray, ← data_length]
  split
  · rw [List.length_drop]; omega
  · exact Nat.le_refl _
set_option maxHeartbeats 2000000 in
set_option maxRecDepth 100000 in
theorem read_calls (s : ByteArray) (a : AnsV) (f : Int) (w : World) (HLD : Laid w) (h : readP s = some (a, f)) : Calls Tryd.prog 22 #[.string s] w (AnsPost w a f) := by
  unfold readP at h
  by_cases hs0 : ¬ (s.size ≤ 1000000 ∧ (splitO 32 s).length ≤ 90000)
  · rw [if_neg hs0] at h; cases h
  have hs := Decidable.not_not.mp hs0
  rw [if_pos hs] at h
  clear hs0
  have hu54 := Tryd.underlying54
  have hu84 := Tryd.underlying84
  have hu29 := Tryd.underlying29
  have hlen := splitO_len 32 s
  have hws : ∀ x ∈ splitO 32 s, x.size ≤ s.size := splitO_small 32 s
  have hsp := Split_one s 32
  generalize splitO 32 s = ws at h hlen hws hsp hs
  cases ws with
  | nil => simp at hlen
  | cons hd tl =>
  obtain ⟨r0, hr0⟩ : ∃ r0, readWords (hd :: tl) = r0 := ⟨_, rfl⟩
  rw [hr0] at h
  have HR0 := Aside0.mk (show tl.foldl readStep ⟨(faultF hd).1, [], [], ⟨#[]⟩⟩ = r0 from hr0)
  have HL := Aside0.mk HLD
  have HH := Aside0.mk h
  have HS := Aside0.mk hs
  have HW := Aside0.mk hws
  have SP := Aside0.mk (hsp (w.alloc (.cells #[.int .i64 0, .slice none 0 0, .slice none 0 0, .string ⟨#[]⟩] 54)) (Nat.lt_of_le_of_lt hs.1 (by decide)))
  have X0 := Aside0.mk ((Below.heap_alloc (w.alloc (.cells #[.int .i64 0, .slice none 0 0, .slice none 0 0, .string ⟨#[]⟩] 54)) (.cells ((hd :: tl).map Value.string).toArray 9) w.heap.size (alloc_lt w _)).trans (heap_alloc_new w _))
  have x1 := heap_alloc_new (w.alloc (.cells #[.int .i64 0, .slice none 0 0, .slice none 0 0, .string ⟨#[]⟩] 54)) (.cells ((hd :: tl).map Value.string).toArray 9)
  rw [size_alloc] at x1
  have X1 := Aside0.mk x1
  have XB := Aside0.mk (below_alloc (below_alloc (Below.refl w.heap.size w) (.cells #[.int .i64 0, .slice none 0 0, .slice none 0 0, .string ⟨#[]⟩] 54)) (.cells ((hd :: tl).map Value.string).toArray 9))
  clear HLD h hs hlen hws hsp hr0 x1
  go_enter Tryd.func22, Tryd.ntmps22
  go_wp2_with (fail)
  go_step3
  go_wp2_with (fail)
  refine SP.out.mono ?_
  rintro _ w1 ⟨rfl, rfl⟩
  clear SP
  generalize ((w.alloc (.cells #[.int .i64 0, .slice none 0 0, .slice none 0 0, .string ⟨#[]⟩] 54)).alloc (.cells ((hd :: tl).map Value.string).toArray 9)) = w1 at X0 X1 XB ⊢
  have q0 : w1.cell? ⟨w.heap.size + 1, 0, none⟩ = some (.string hd) := cell_of X1.out rfl
  go_wp2_with (fail)
  refine (faultCall hd w1).mono ?_
  rintro _ w2 ⟨rfl, hb⟩
  have Y0 := Aside0.mk (blk_below X0.out hb)
  have Y1 := Aside0.mk (blk_below X1.out hb)
  have YB := Aside0.mk (XB.out.trans (hb.mono XB.out.size))
  clear hb X0 X1 XB q0
  have q0 : w2.cell? ⟨w.heap.size, 0, none⟩ = some (.int .i64 0) := cell_of Y0.out rfl
  have z0 := frozen_of (o := 0) Y0.out
  obtain ⟨F0, hF0⟩ : ∃ F0, (faultF hd).1 = F0 := ⟨_, rfl⟩
  obtain ⟨F1, hF1⟩ : ∃ F1, (faultF hd).2 = F1 := ⟨_, rfl⟩
  rw [hF0, hF1]
  have HR1 := Aside0.mk (show tl.foldl readStep ⟨F0, [], [], ⟨#[]⟩⟩ = r0 from by rw [← hF0]; exact HR0.out)
  clear HR0 hF0 hF1
  have hk := set_block (j := 0) (x := .int .i64 F0) Y0.out
  have Z0 := Aside0.mk (show (w2.setCell ⟨w.heap.size, 0, none⟩ (.int .i64 F0)).heap[w.heap.size]? = some (.cells #[.int .i64 F0, .slice none 0 0, .slice none 0 0, .string ⟨#[]⟩] 54 (0, 0)) from hk)
  have Z1 := Aside0.mk (blk_far (p := ⟨w.heap.size, 0, none⟩) Y1.out (show w.heap.size + 1 ≠ w.heap.size by omega) (.int .i64 F0))
  have ZB := Aside0.mk (YB.out.setCell (p := ⟨w.heap.size, 0, none⟩) (Nat.le_refl _) (.int .i64 F0))
  clear hk Y0 Y1 YB
  go_wp2_with (fail)
  go_step3
  go_upto_region 3 with fail
  generalize w2.setCell ⟨w.heap.size, 0, none⟩ (.int .i64 F0) = w3 at Z0 Z1 ZB ⊢
  clear q0 z0
  go_cut [22, 23, 24] (fun s22 s23 s24 wx => ∃ o c, s22 = .slice (some ⟨w.heap.size + 1, o, none⟩) tl.length c ∧ (tl ≠ [] → o = 1) ∧ s23 = .int .i64 tl.length ∧ s24 = .int .i64 0 ∧ wx = w3)
  case first =>
    by_cases htl : tl = []
    · subst htl
      go_wp2_with (fail)
      go_meet
      case rel => exact ⟨_, _, rfl, fun h => absurd rfl h, rfl, rfl, rfl⟩
    · have hpos : 0 < tl.length := List.length_pos_iff.2 htl
      go_wp2_with (fail)
      go_meet
      case rel => exact ⟨_, _, rfl, fun _ => rfl, rfl, rfl, rfl⟩
  case rest =>
    obtain ⟨o, cc, rfl, ho, rfl, rfl, rfl⟩ := hcut
    have HO := Aside0.mk ho
    clear ho
    go_wp2_with (fail)
    go_loopw [6, 7, 8, 9, 10, 24] (fun v6 v7 v8 v9 v10 v24 wr => ∃ (i : Nat) (b : AnsV) (vB vN : Value), v24 = .int .i64 i ∧ i ≤ tl.length ∧ Aside0 (wr.heap[w.heap.size]? = some (.cells #[.int .i64 b.F, vB, vN, .string b.T] 54 (0, 0)))
        ∧ Aside0 (wr.heap[w.heap.size + 1]? = some (.cells ((hd :: tl).map Value.string).toArray 9 (0, 0))) ∧ Aside0 (Kd.R (Kd.int .u8) 5 wr w.heap.size (fun _ => True) vB b.B) ∧ Aside0 (Kd.R (Kd.int .i64) 3 wr w.heap.size (fun _ => True) vN b.Nm)
        ∧ Aside0 (Below w.heap.size w wr) ∧ Aside0 ((tl.drop i).foldl readStep b = r0) ∧ Aside0 (b.Nm.length ≤ i)) (fun _ _ _ _ _ v24 _ => tl.length - (intOf v24).toNat)
    case atStart => exact ⟨0, ⟨F0, [], [], ⟨#[]⟩⟩, .slice none 0 0, .slice none 0 0, rfl, Nat.zero_le _, Z0, Z1, ⟨Kd.R_nil _ _ _ _ _⟩, ⟨Kd.R_nil _ _ _ _ _⟩, ZB, HR1, ⟨Nat.le_refl _⟩⟩
    case round =>
      obtain ⟨i, b, vB, vN, rfl, hi, K0, K1, RB, RN, KB, HA, HN⟩ := hrel
      clear Z0 Z1 ZB
      by_cases hlt : i < tl.length
      · have i1 : decide ((i : Int) < (tl.length : Int)) = true := decide_eq_true (by omega)
        have i2 : (i : Int) < (tl.length : Int) := by omega
        have hne : tl ≠ [] := by rintro rfl; simp at hlt
        obtain rfl := HO.out hne
        obtain ⟨x, hx, hmem, hcell⟩ := word_at tl hd i hlt
        have ha := HA.out
        rw [hx, List.foldl_cons] at ha
        have HA2 := Aside0.mk ha
        have hxs : x.size ≤ 1000000 := Nat.le_trans (HW.out x hmem) HS.out.1
        have HWR := Aside0.mk (show wrap64 ((i : Int) + 1) = ((i + 1 : Nat) : Int) from by have h1 := HS.out.2; simp at h1; unfold wrap64; omega)
        have c1 : wr.cell? ⟨w.heap.size + 1, 1 + i, none⟩ = some (.string x) := cell_of K1.out (by rw [Nat.add_comm]; exact hcell)
        have c2 : wr.cell? ⟨w.heap.size + 1, i + 1, none⟩ = some (.string x) := cell_of K1.out hcell
        have NP := Aside0.mk (num_Parse.calls x 1073741824 (numN x).1 (numN x).2 wr (by unfold num_Parse.f; rw [if_pos hxs]; rfl))
        have HXS := Aside0.mk hxs
        clear hx hmem hcell ha HA hxs hne
        go_wp2_with (fail)
        refine NP.out.mono ?_
        rintro _ w4 ⟨rfl, hb4⟩
        have L0 := Aside0.mk (blk_below K0.out hb4)
        have L1 := Aside0.mk (blk_below K1.out hb4)
        have LB := Aside0.mk (Kd.R_below RB.out hb4)
        have LN := Aside0.mk (Kd.R_below RN.out hb4)
        have LW := Aside0.mk (KB.out.trans (hb4.mono KB.out.size))
        clear hb4 K0 K1 RB RN KB NP c1 c2
        by_cases hn : (numN x).2 = 0
        · have hstep : readStep b x = { b with Nm := b.Nm ++ [(numN x).1] } := by unfold readStep; rw [if_pos hn]
          have HST := Aside0.mk hstep
          have e4 : ((numN x).2 == 0) = true := by rw [hn]; rfl
          have q2 : w4.cell? ⟨w.heap.size, 2, none⟩ = some vN := cell_of L0.out rfl
          clear hn hstep
          go_wp2_with (first
            | ((with_reducible refine gate_builtin (b := .append) (xs := #[.tmp 36, .tmp 38]) rfl ?_); at_builtin; refine Kd.R_append (Kd.int .i64) (w0 := w) w.heap.size rfl (.tmp 36) (.tmp 38) 29 3 (.int .i64 0) 8 rfl Tryd.underlying29 info3' rfl (by decide) (by omega) vN b.Nm (numN x).1 [.int .i64 (numN x).1] (fun _ => True) (fun _ => False) rfl rfl ?aP (fun _ hk => hk.elim) ?aF ?aO ?aB ?aS ?aL ?_; (case aP => exact rfl); (case aB => exact LW.out); (case aF => exact (fun _ _ => trivial)); (case aO => exact LN.out); (case aS => exact LW.out.size); (case aL => have h1 := HN.out; have h2 := HS.out.2; simp at h2; omega)
               intro v39 w7 ho hb hg hat
               have M0 := Aside0.mk ((hg.block _ (Array.getElem?_eq_some_iff.1 L0.out).1 (Kd.R_ne LN.out L0.out (by decide))).trans L0.out)
               have M1 := Aside0.mk ((hg.block _ (Array.getElem?_eq_some_iff.1 L1.out).1 (Kd.R_ne LN.out L1.out (by decide))).trans L1.out)
               have MB := Aside0.mk (R_grown2 LB.out LN.out hg q53)
               have MN := Aside0.mk ho
               have MW := Aside0.mk hb
               have m2 : w7.cell? ⟨w.heap.size, 2, none⟩ = some vN := cell_of M0.out rfl
               have f2 := frozen_of (o := 2) M0.out
               obtain ⟨A9, c9, hv9⟩ := Kd.R_slice ho
               rw [List.length_append, List.length_singleton] at hv9
               subst hv9
               clear ho hb hg hat L0 L1 LB LN LW q2))
          have hk := set_block (j := 2) (x := .slice A9 (b.Nm.length + 1) c9) M0.out
          have P0 := Aside0.mk (show (w7.setCell ⟨w.heap.size, 2, none⟩ (.slice A9 (b.Nm.length + 1) c9)).heap[w.heap.size]? = some (.cells #[.int .i64 b.F, vB, .slice A9 (b.Nm.length + 1) c9, .string b.T] 54 (0, 0)) from hk)
          have P1 := Aside0.mk (blk_far (p := ⟨w.heap.size, 2, none⟩) M1.out (show w.heap.size + 1 ≠ w.heap.size by omega) (.slice A9 (b.Nm.length + 1) c9))
          have PB := Aside0.mk (Kd.R_set MB.out M0.out q554 2 (.slice A9 (b.Nm.length + 1) c9))
          have PN := Aside0.mk (Kd.R_set MN.out M0.out q354 2 (.slice A9 (b.Nm.length + 1) c9))
          have PW := Aside0.mk (MW.out.setCell (p := ⟨w.heap.size, 2, none⟩) (Nat.le_refl _) (.slice A9 (b.Nm.length + 1) c9))
          clear hk M0 M1 MB MN MW m2 f2
          exact ⟨⟨i + 1, { b with Nm := b.Nm ++ [(numN x).1] }, vB, _, by rw [HWR.out], by omega, P0, P1, PB, PN, PW, ⟨by rw [← HST.out]; exact HA2.out⟩, ⟨by have := HN.out; simp; omega⟩⟩, by show tl.length - (intOf (.int .i64 (wrap64 ((i : Int) + 1)))).toNat < _; rw [HWR.out]; simp only [intOf]; omega⟩
        · have e4 : ((numN x).2 == 0) = false := by simpa using hn
          have CP := Aside0.mk (Tryd.strings_CutPrefix x ⟨#[35]⟩ w4)
          go_wp2_with (fail)
          refine CP.out.mono ?_
          rintro _ w5 ⟨rfl, hw5⟩
          subst hw5
          clear CP
          by_cases hh : has1 35 x = true
          · have hstep : readStep b x = { b with B := (hexP (bytesOf (cut1 35 x))).1 } := by unfold readStep; rw [if_neg hn, if_pos hh]
            have HST := Aside0.mk hstep
            have hx : ∃ X1 p f, hexP (bytesOf (cut1 35 x)) = (X1, p, f) := ⟨_, _, _, rfl⟩
            obtain ⟨X1, p, f1, hx⟩ := hx
            have hcs := Nat.le_trans (cut1_size 35 x) HXS.out
            have HP := Aside0.mk (hex_Parse.calls (cut1 35 x) X1 p f1 w5 (by unfold hex_Parse.f; rw [if_pos hcs, hx]))
            have HX := Aside0.mk (show (hexP (bytesOf (cut1 35 x))).1 = X1 from by rw [hx])
            have q1 : w5.cell? ⟨w.heap.size, 1, none⟩ = some vB := cell_of L0.out rfl
            change Lib.hasPrefix x.data.toList [35] = true at hh
            rw [show Lib.hasPrefix x.data.toList (⟨#[35]⟩ : ByteArray).data.toList = true from hh]
            clear hstep hx hcs hn hh
            go_wp2_with (fail)
            refine HP.out.mono ?_
            rintro _ w6 ⟨v1, rfl, hv1, hb6⟩
            obtain ⟨A1, c1, rfl, hc1, hC1⟩ := Kd.R_reads hv1
            have J0 := Aside0.mk (blk_below L0.out hb6)
            have J1 := Aside0.mk (blk_below L1.out hb6)
            have JB := Aside0.mk (Kd.R_mono (ok' := fun _ => True) (Kd.R_lower hv1 LW.out.size) (fun _ _ => trivial))
            have JN := Aside0.mk (Kd.R_below LN.out hb6)
            have JW := Aside0.mk (LW.out.trans (hb6.mono LW.out.size))
            have g1 : w6.cell? ⟨w.heap.size, 1, none⟩ = some vB := cell_of J0.out rfl
            have g2 := frozen_of (o := 1) J0.out
            rw [HX.out] at HST
            clear hv1 hb6 hc1 hC1 L0 L1 LB LN LW q1 HP HX
            have hk := set_block (j := 1) (x := .slice A1 X1.length c1) J0.out
            have P0 := Aside0.mk (show (w6.setCell ⟨w.heap.size, 1, none⟩ (.slice A1 X1.length c1)).heap[w.heap.size]? = some (.cells #[.int .i64 b.F, .slice A1 X1.length c1, vN, .string b.T] 54 (0, 0)) from hk)
            have P1 := Aside0.mk (blk_far (p := ⟨w.heap.size, 1, none⟩) J1.out (show w.heap.size + 1 ≠ w.heap.size by omega) (.slice A1 X1.length c1))
            have PB := Aside0.mk (Kd.R_set JB.out J0.out q554 1 (.slice A1 X1.length c1))
            have PN := Aside0.mk (Kd.R_set JN.out J0.out q354 1 (.slice A1 X1.length c1))
            have PW := Aside0.mk (JW.out.setCell (p := ⟨w.heap.size, 1, none⟩) (Nat.le_refl _) (.slice A1 X1.length c1))
            clear hk
            go_wp2_with (fail)
            exact ⟨⟨i + 1, { b with B := X1 }, _, vN, by rw [HWR.out], by omega, P0, P1, PB, PN, PW, ⟨by rw [← HST.out]; exact HA2.out⟩, ⟨by have := HN.out; show b.Nm.length ≤ _; omega⟩⟩, by show tl.length - (intOf (.int .i64 (wrap64 ((i : Int) + 1)))).toNat < _; rw [HWR.out]; simp only [intOf]; omega⟩
          · have hh0 : has1 35 x = false := by simpa using hh
            have hstep : readStep b x = { b with T := cut1 61 x } := by unfold readStep; rw [if_neg hn, if_neg hh]
            have HST := Aside0.mk hstep
            change Lib.hasPrefix x.data.toList [35] = false at hh0
            rw [show Lib.hasPrefix x.data.toList (⟨#[35]⟩ : ByteArray).data.toList = false from hh0]
            have TP := Aside0.mk (Tryd.strings_TrimPrefix x ⟨#[61]⟩ w5)
            have g1 : w5.cell? ⟨w.heap.size, 3, none⟩ = some (.string b.T) := cell_of L0.out rfl
            have g2 := frozen_of (o := 3) L0.out
            clear hstep hn hh hh0
            go_wp2_with (fail)
            refine TP.out.mono ?_
            rintro _ w6 ⟨rfl, hw6⟩
            subst hw6
            have hk := set_block (j := 3) (x := .string (cut1 61 x)) L0.out
            have P0 := Aside0.mk (show (w6.setCell ⟨w.heap.size, 3, none⟩ (.string (cut1 61 x))).heap[w.heap.size]? = some (.cells #[.int .i64 b.F, vB, vN, .string (cut1 61 x)] 54 (0, 0)) from hk)
            have P1 := Aside0.mk (blk_far (p := ⟨w.heap.size, 3, none⟩) L1.out (show w.heap.size + 1 ≠ w.heap.size by omega) (.string (cut1 61 x)))
            have PB := Aside0.mk (Kd.R_set LB.out L0.out q554 3 (.string (cut1 61 x)))
            have PN := Aside0.mk (Kd.R_set LN.out L0.out q354 3 (.string (cut1 61 x)))
            have PW := Aside0.mk (LW.out.setCell (p := ⟨w.heap.size, 3, none⟩) (Nat.le_refl _) (.string (cut1 61 x)))
            clear hk
            go_wp2_with (fail)
            exact ⟨⟨i + 1, { b with T := cut1 61 x }, vB, vN, by rw [HWR.out], by omega, P0, P1, PB, PN, PW, ⟨by rw [← HST.out]; exact HA2.out⟩, ⟨by have := HN.out; show b.Nm.length ≤ _; omega⟩⟩, by show tl.length - (intOf (.int .i64 (wrap64 ((i : Int) + 1)))).toNat < _; rw [HWR.out]; simp only [intOf]; omega⟩
      · have i1 : decide ((i : Int) < (tl.length : Int)) = false := decide_eq_false (by omega)
        have ha := HA.out
        rw [List.drop_eq_nil_of_le (by omega), List.foldl_nil] at ha
        subst ha
        have hh := HH.out
        by_cases hse : s = ⟨#[]⟩
        · rw [if_pos hse] at hh
          obtain ⟨rfl, rfl⟩ := Prod.mk.inj (Option.some.inj hh)
          have e0 : s.toList.isEmpty = true := by rw [hse, Lib.toList_data]; rfl
          clear hh hse HH
          go_wp2_with ((with_reducible refine gate_ (.store 54 (.tmp 2) (.tmp 66)) rfl ?_); go_loud (refine wpList_store_row rfl 54 (.tmp 2) (.tmp 66) rfl w.heap.size #[.int .i64 0, .slice none 0 0, .slice none 0 0, .string ⟨#[]⟩] rfl rfl 54 _ K0.out (by kernel_rfl) rfl (by kernel_rfl) ?_))
          rw [Exit.noGoto_ret]
          refine bodyPost_ret (results_ct rfl _ _ w.heap.size 54 #[.int .i64 0, .slice none 0 0, .slice none 0 0, .string ⟨#[]⟩] (0, 0) _ rfl (setRow_heap _ _ _ _ _ _ K0.out) hu54 rfl (by kernel_rfl)) rfl ⟨.slice none 0 0, .slice none 0 0, rfl, Kd.R_nil _ _ _ _ _, Kd.R_nil _ _ _ _ _, below_setRow KB.out (Nat.le_refl _) _⟩
        · rw [if_neg hse] at hh
          have e0 := isEmpty_false hse
          cases hte : tellP b.F b.B b.Nm b.T with
          | none => rw [hte] at hh; cases hh
          | some t =>
          rw [hte, Option.bind_some] at hh
          obtain ⟨A1, c1, rfl, hc1, hC1⟩ := Kd.R_reads RB.out
          obtain ⟨A2, c2, rfl, hc2, hC2⟩ := Kd.R_reads RN.out
          have TC := Aside0.mk (tell_calls b.F b.B b.Nm b.T A1 A2 c1 c2 t wr (HL.out.below KB.out) hC1 hc1 hC2 hc2 hte)
          have k0 : wr.cell? ⟨w.heap.size, 0, none⟩ = some (.int .i64 b.F) := cell_of K0.out rfl
          have k1 : wr.cell? ⟨w.heap.size, 1, none⟩ = some (.slice A1 b.B.length c1) := cell_of K0.out rfl
          have k2 : wr.cell? ⟨w.heap.size, 2, none⟩ = some (.slice A2 b.Nm.length c2) := cell_of K0.out rfl
          have k3 : wr.cell? ⟨w.heap.size, 3, none⟩ = some (.string b.T) := cell_of K0.out rfl
          clear hte hc1 hC1 hc2 hC2 hse HH
          go_wp2_with (fail)
          refine TC.out.mono ?_
          rintro _ w5 ⟨rfl, hb5⟩
          have J0 := Aside0.mk (blk_below K0.out hb5)
          have JB := Aside0.mk (Kd.R_below RB.out hb5)
          have JN := Aside0.mk (Kd.R_below RN.out hb5)
          have JW := Aside0.mk (KB.out.trans (hb5.mono KB.out.size))
          clear hb5 TC k0 k1 k2 k3
          by_cases hts : t = s
          · rw [if_pos hts] at hh
            obtain ⟨rfl, rfl⟩ := Prod.mk.inj (Option.some.inj hh)
            have e5 : (t.toList != s.toList) = false := by rw [hts]; simp
            have e6 : (t.toList == s.toList) = true := by rw [tl_beq]; exact decide_eq_true hts
            clear hh hts
            go_wp2_with (first
              | ((with_reducible refine gate_ (.load 54 (.tmp 2)) rfl ?_); go_loud (refine wpList_load_row rfl 54 (.tmp 2) rfl w.heap.size rfl 54 #[.int .i64 b.F, .slice A1 b.B.length c1, .slice A2 b.Nm.length c2, .string b.T] (0, 0) _ J0.out hu54 rfl (by kernel_rfl) ?_))
              | ((with_reducible refine gate_ (.store 54 (.tmp 2) (.tmp 67)) rfl ?_); go_loud (refine wpList_store_row rfl 54 (.tmp 2) (.tmp 67) rfl w.heap.size #[.int .i64 b.F, .slice A1 b.B.length c1, .slice A2 b.Nm.length c2, .string b.T] rfl rfl 54 _ J0.out (by kernel_rfl) rfl (by kernel_rfl) ?_)))
            rw [Exit.noGoto_ret]
            refine bodyPost_ret (results_ct rfl _ _ w.heap.size 54 #[.int .i64 b.F, .slice A1 b.B.length c1, .slice A2 b.Nm.length c2, .string b.T] (0, 0) _ rfl (setRow_heap _ _ _ _ _ _ J0.out) hu54 rfl (by kernel_rfl)) rfl ⟨.slice A1 b.B.length c1, .slice A2 b.Nm.length c2, rfl, R_setRowG JB.out J0.out q554 _, R_setRowG JN.out J0.out q354 _, below_setRow JW.out (Nat.le_refl _) _⟩
          · rw [if_neg hts] at hh
            obtain ⟨rfl, rfl⟩ := Prod.mk.inj (Option.some.inj hh)
            have e5 : (t.toList != s.toList) = true := by rw [bne_iff_ne, ne_eq, tl_iff]; exact hts
            have e6 : (t.toList == s.toList) = false := by rw [tl_beq]; exact decide_eq_false hts
            clear hh hts
            go_wp2_with ((with_reducible refine gate_ (.store 54 (.tmp 2) (.tmp 66)) rfl ?_); go_loud (refine wpList_store_row rfl 54 (.tmp 2) (.tmp 66) rfl w.heap.size #[.int .i64 0, .slice none 0 0, .slice none 0 0, .string ⟨#[]⟩] rfl rfl 54 _ J0.out (by kernel_rfl) rfl (by kernel_rfl) ?_))
            rw [Exit.noGoto_ret]
            refine bodyPost_ret (results_ct rfl _ _ w.heap.size 54 #[.int .i64 0, .slice none 0 0, .slice none 0 0, .string ⟨#[]⟩] (0, 0) _ rfl (setRow_heap _ _ _ _ _ _ J0.out) hu54 rfl (by kernel_rfl)) rfl ⟨.slice none 0 0, .slice none 0 0, rfl, Kd.R_nil _ _ _ _ _, Kd.R_nil _ _ _ _ _, below_setRow JW.out (Nat.le_refl _) _⟩
end Go.Proofs.YtdcknajlioalgaaDoor.QD
namespace Go.Proofs.YtdcknajlioalgaaDoor.QD
open Go.RowKit Go.Proofs.YtdcknajlioalgaaDoorW.PrintWords Go.Proofs.YtdcknajlioalgaaDoorW.PrintLast Go.Proofs.YtdcknajlioalgaaDoorW.PrintMore
set_option linter.unusedVariables false
set_option linter.unusedSimpArgs false
/-- The runes of bytes, as a list. -/
def runesL : Nat → List Int → List Int
  | 0, _ => []
  | n + 1, l => if l = [] then [] else (decL l).1 :: runesL n (l.drop (decL l).2)
theorem runesG_list (s : ByteArray) : ∀ (n pos : Nat), pos ≤ s.size → runesG s n pos = runesL n ((bytesOf s).drop pos)
  | 0, _, _ => rfl
  | n + 1, pos, h => by
    unfold runesG runesL
    by_cases hp : pos < s.size
    · have hne : (bytesOf s).drop pos ≠ [] := by
        intro e
        have := congrArg List.length e
        rw [List.length_drop, bytesOf_length] at this
        simp at this
        omega
      rw [if_pos hp, if_neg hne, ← decode_decL s pos hp, List.drop_drop]
      simp only []
      rw [runesG_list s n _ (decode_within s pos hp)]
    · have he : (bytesOf s).drop pos = [] := List.drop_of_length_le (by rw [bytesOf_length]; omega)
      rw [if_neg hp, if_pos he]
theorem runesOf_list (s : ByteArray) : runesOf s = runesL (bytesOf s).length (bytesOf s) := by
  unfold runesOf
  rw [runesG_list s s.size 0 (Nat.zero_le _), bytesOf_length, List.drop_zero]
theorem decL_pos (l : List Int) : 1 ≤ (decL l).2 := by
  unfold decL
  repeat' split
  all_goals simp
/-- What a rune that is read takes: of a blank, only the blank's own rune. -/
theorem decL_blank (b0 : Int) (r : List Int) (h : (decL (b0 :: r)).1 ≠ 65533) (hm : (32 : Int) ∈ (b0 :: r).take (decL (b0 :: r)).2) : (decL (b0 :: r)).1 = 32 := by
  by_cases c1 : b0 < 128
  · have e : decL (b0 :: r) = (b0, 1) := by simp only [decL]; rw [if_pos c1]
    rw [e] at hm ⊢
    simp at hm
    exact hm.symm
  by_cases c2 : 192 ≤ b0 ∧ b0 < 224
  · match r, h, hm with
    | [], h, _ => exact absurd (by simp only [decL]; rw [if_neg c1, if_pos c2]) h
    | b1 :: r, h, hm =>
      have e : decL (b0 :: b1 :: r) = if 128 ≤ b1 ∧ b1 ≤ 191 ∧ 128 ≤ (b0 - 192) * 64 + (b1 - 128) then ((b0 - 192) * 64 + (b1 - 128), 2) else (65533, 1) := by simp only [decL]; rw [if_neg c1, if_pos c2]
      rw [e] at hm h ⊢
      split at hm
      · simp at hm; omega
      · rename_i hc; rw [if_neg hc] at h; exact absurd rfl h
  by_cases c3 : 224 ≤ b0 ∧ b0 < 240
  · match r, h, hm with
    | [], h, _ => exact absurd (by simp only [decL]; rw [if_neg c1, if_neg c2, if_pos c3]) h
    | [b1], h, _ => exact absurd (by simp only [decL]; rw [if_neg c1, if_neg c2, if_pos c3]) h
    | b1 :: b2 :: r, h, hm =>
      have e := decL3 b0 b1 b2 r c3.1 c3.2
      rw [e] at hm h ⊢
      split at hm
      · simp at hm; omega
      · rename_i hc; rw [if_neg hc] at h; exact absurd rfl h
  by_cases c4 : 240 ≤ b0 ∧ b0 < 248
  · match r, h, hm with
    | [], h, _ => exact absurd (by simp only [decL]; rw [if_neg c1, if_neg c2, if_neg c3, if_pos c4]) h
    | [b1], h, _ => exact absurd (by simp only [decL]; rw [if_neg c1, if_neg c2, if_neg c3, if_pos c4]) h
    | [b1, b2], h, _ => exact absurd (by simp only [decL]; rw [if_neg c1, if_neg c2, if_neg c3, if_pos c4]) h
    | b1 :: b2 :: b3 :: r, h, hm =>
      have e := decL4 b0 b1 b2 b3 r c4.1
      rw [e] at hm h ⊢
      split at hm
      · simp at hm; omega
      · rename_i hc; rw [if_neg hc] at h; exact absurd rfl h
  · exact absurd (by simp only [decL]; rw [if_neg c1, if_neg c2, if_neg c3, if_neg c4]) h
theorem runesL_blank : ∀ (n : Nat) (l : List Int), (∀ c ∈ runesL n l, c ≠ 65533 ∧ c ≠ 32) → l.length ≤ n → (32 : Int) ∉ l
  | 0, l, _, h => by
    have : l = [] := List.eq_nil_of_length_eq_zero (by omega)
    simp [this]
  | n + 1, [], _, _ => by simp
  | n + 1, b0 :: r, hv, h => by
    have e : runesL (n + 1) (b0 :: r) = (decL (b0 :: r)).1 :: runesL n ((b0 :: r).drop (decL (b0 :: r)).2) := by simp [runesL]
    have hp := decL_pos (b0 :: r)
    rw [e] at hv
    have h1 := hv _ (List.mem_cons_self ..)
    have h2 := runesL_blank n ((b0 :: r).drop (decL (b0 :: r)).2) (fun c hc => hv c (by simp [hc])) (by rw [List.length_drop]; simp at h; simp; omega)
    intro hm
    rw [← List.take_append_drop (decL (b0 :: r)).2 (b0 :: r), List.mem_append] at hm
    rcases hm with hm | hm
    · exact h1.2 (decL_blank b0 r h1.1 hm)
    · exact h2 hm
theorem small_not (c : Int) (h : smallB c = true) : c ≠ 65533 ∧ c ≠ 32 := by
  unfold smallB at h
  simp only [decide_eq_true_eq] at h
  omega
def partB (s : ByteArray) : Bool := (runesOf s).all smallB && (decide (1 ≤ (runesOf s).length) && decide ((runesOf s).length ≤ 8))
/-- A part has no blank in it. -/
theorem part_blank (p : ByteArray) (h : partB p = true) : (32 : Int) ∉ bytesOf p := by
  unfold partB at h
  simp only [Bool.and_eq_true] at h
  have h1 := List.all_eq_true.1 h.1
  rw [runesOf_list] at h1
  exact runesL_blank _ _ (fun c hc => small_not c (h1 c hc)) (Nat.le_refl _)
end Go.Proofs.YtdcknajlioalgaaDoor.QD
namespace Go.Proofs.YtdcknajlioalgaaDoor.QD
open Go.RowKit Go.Proofs.YtdcknajlioalgaaDoorW.PrintWords Go.Proofs.YtdcknajlioalgaaDoorW.PrintLast Go.Proofs.YtdcknajlioalgaaDoorW.PrintMore Go.Proofs.YtdcknajlioalgaaDoor.Hex
set_option linter.unusedVariables false
set_option linter.unusedSimpArgs false
/-! ### cuts and joins -/
def joinL (c : UInt8) : List (List UInt8) → List UInt8
  | [] => []
  | [x] => x
  | x :: y :: r => x ++ c :: joinL c (y :: r)
theorem join_joinL (c : UInt8) : ∀ xs : List (List UInt8), Lib.join xs [c] = joinL c xs
  | [] => rfl
  | [x] => Lib.join_one x [c]
  | x :: y :: r => by
    have h := join_joinL c (y :: r)
    rw [Lib.join_cons] at h ⊢
    rw [joinL, ← h]
    simp [Lib.joinTail]
theorem joinL_cons (c : UInt8) (x : List UInt8) (l : List (List UInt8)) (h : l ≠ []) : joinL c (x :: l) = x ++ c :: joinL c l := by
  cases l with
  | nil => exact absurd rfl h
  | cons y r => rfl
theorem joinL_cut (c : UInt8) : ∀ (l cur : List UInt8), joinL c (cutL c cur l) = cur ++ l
  | [], cur => by simp [cutL, joinL]
  | b :: l, cur => by
    unfold cutL
    by_cases h : b = c
    · rw [if_pos h, joinL_cons c cur _ (cutL_ne c l []), joinL_cut c l [], h]
      rfl
    · rw [if_neg h, joinL_cut c l (cur ++ [b])]
      simp
theorem cut_none (c : UInt8) : ∀ (x cur : List UInt8), c ∉ x → cutL c cur x = [cur ++ x]
  | [], cur, _ => by simp [cutL]
  | b :: x, cur, h => by
    have h1 : ¬ b = c := fun e => h (by rw [e]; simp)
    rw [cutL, if_neg h1, cut_none c x (cur ++ [b]) (fun e => h (by simp [e]))]
    simp
theorem cut_word (c : UInt8) (l : List UInt8) : ∀ (x cur : List UInt8), c ∉ x → cutL c cur (x ++ c :: l) = (cur ++ x) :: cutL c [] l
  | [], cur, _ => by simp [cutL]
  | b :: x, cur, h => by
    have h1 : ¬ b = c := fun e => h (by rw [e]; simp)
    rw [List.cons_append, cutL, if_neg h1, cut_word c l x (cur ++ [b]) (fun e => h (by simp [e]))]
    simp
theorem cut_joinL (c : UInt8) : ∀ ws : List (List UInt8), ws ≠ [] → (∀ x ∈ ws, c ∉ x) → cutL c [] (joinL c ws) = ws
  | [], h, _ => absurd rfl h
  | [x], _, h => by rw [joinL, cut_none c x [] (h x (by simp))]; rfl
  | x :: y :: r, _, h => by
    rw [joinL, cut_word c _ x [] (h x (by simp)), cut_joinL c (y :: r) (by simp) (fun z hz => h z (by simp [hz]))]
    rfl
theorem joinW_data (ws : List ByteArray) : (joinW ws).data.toList = joinL 32 (ws.map (·.data.toList)) := by
  unfold joinW
  rw [← join_joinL]
theorem join_split (s : ByteArray) : joinW (splitO 32 s) = s := by
  apply ByteArray.ext
  apply Array.toList_inj.mp
  rw [joinW_data, splitO_cut, List.map_map]
  have : ((fun x : ByteArray => x.data.toList) ∘ asText) = id := by funext l; simp [asText]
  rw [this, List.map_id, joinL_cut]
  rfl
theorem split_join (ws : List ByteArray) (hne : ws ≠ []) (h : ∀ x ∈ ws, (32 : UInt8) ∉ x.data.toList) : splitO 32 (joinW ws) = ws := by
  rw [splitO_cut, joinW_data, cut_joinL 32 _ (by simpa using hne) (fun x hx => by
    obtain ⟨y, hy, rfl⟩ := List.mem_map.1 hx
    exact h y hy), List.map_map]
  have : (asText ∘ fun x : ByteArray => x.data.toList) = id := by funext l; simp [asText]
  rw [this, List.map_id]
/-! ### numbers -/
theorem digits_byte : ∀ (u : Nat), ∀ b ∈ Lib.decDigits u, 48 ≤ b.toNat ∧ b.toNat ≤ 57 := by
  intro u
  induction u using Nat.strongRecOn with
  | _ u ih =>
    intro b hb
    rw [Lib.decDigits] at hb
    by_cases h : u < 10
    · rw [dif_pos h] at hb
      have : b = UInt8.ofNat (48 + u) := by simpa using hb
      rw [this, UInt8.toNat_ofNat']
      omega
    · rw [dif_neg h] at hb
      rcases List.mem_append.1 hb with hb | hb
      · exact ih (u / 10) (by omega) b hb
      · have : b = UInt8.ofNat (48 + u % 10) := by simpa using hb
        rw [this, UInt8.toNat_ofNat']
        omega
def nums8 (l : List UInt8) : List Int := l.map fun b => (b.toNat : Int)
theorem digV_dec : ∀ u : Nat, digV (nums8 (Lib.decDigits u)) = u := by
  intro u
  induction u using Nat.strongRecOn with
  | _ u ih =>
    rw [Lib.decDigits]
    by_cases h : u < 10
    · rw [dif_pos h]
      have e : ((UInt8.ofNat (48 + u)).toNat : Int) = 48 + u := by rw [UInt8.toNat_ofNat']; omega
      show (0 : Int) * 10 + (((UInt8.ofNat (48 + u)).toNat : Int) - 48) = u
      rw [e]; omega
    · rw [dif_neg h]
      have e : ((UInt8.ofNat (48 + u % 10)).toNat : Int) = 48 + u % 10 := by rw [UInt8.toNat_ofNat']; omega
      unfold nums8 at ih ⊢
      rw [List.map_append, List.map_cons, List.map_nil, digV_snoc, ih (u / 10) (by omega), e]
      omega
theorem dec_ne (u : Nat) : Lib.decDigits u ≠ [] := by
  rw [Lib.decDigits]
  by_cases h : u < 10
  · rw [dif_pos h]; simp
  · rw [dif_neg h]; simp
theorem dec_head : ∀ u : Nat, 1 ≤ u → (nums8 (Lib.decDigits u)).getD 0 0 ≠ 48 := by
  intro u
  induction u using Nat.strongRecOn with
  | _ u ih =>
    intro h1
    rw [Lib.decDigits]
    by_cases h : u < 10
    · rw [dif_pos h]
      have e : ((UInt8.ofNat (48 + u)).toNat : Int) = 48 + u := by rw [UInt8.toNat_ofNat']; omega
      show ((UInt8.ofNat (48 + u)).toNat : Int) ≠ 48
      rw [e]; omega
    · rw [dif_neg h]
      have h2 := ih (u / 10) (by omega) (by omega)
      unfold nums8 at h2 ⊢
      rw [List.map_append]
      cases hd : Lib.decDigits (u / 10) with
      | nil => exact absurd hd (dec_ne _)
      | cons a l =>
        rw [hd] at h2
        exact h2
theorem numP_dec (u : Nat) (M : Int) (hM : (u : Int) ≤ M) (hu : u < 1000000000000) : numP (nums8 (Lib.decDigits u)) M = ((u : Int), 0) := by
  have hl := digits_len 12 u (by omega)
  have hl' : (nums8 (Lib.decDigits u)).length = (Lib.decDigits u).length := by simp [nums8]
  have hp : (Lib.decDigits u).length ≠ 0 := fun e => dec_ne u (List.eq_nil_of_length_eq_zero e)
  have hall : (nums8 (Lib.decDigits u)).all digB = true := by
    rw [List.all_eq_true]
    intro c hc
    obtain ⟨b, hb, rfl⟩ := List.mem_map.1 hc
    have := digits_byte u b hb
    unfold digB
    rw [decide_eq_true (by omega), decide_eq_true (by omega)]
    rfl
  unfold numP
  rw [if_neg, if_pos hall, digV_dec, if_neg (by omega)]
  rintro (h | h | ⟨h, h2⟩)
  · omega
  · omega
  · by_cases h0 : u = 0
    · subst h0
      apply h2
      rw [hl', Lib.decDigits, dif_pos (by decide)]
      rfl
    · exact dec_head u (by omega) h
theorem bytesOf_text (l : List UInt8) : bytesOf (asText l) = nums8 l := by simp [bytesOf, asText, nums8]
/-- A number's text is read as the number. -/
theorem count_read {n : Int} {r : ByteArray} (h : op_count.f n = some r) (hr : ¬ r = ⟨#[]⟩) : numN r = (n, 0) ∧ (32 : UInt8) ∉ r.data.toList := by
  unfold op_count.f at h
  by_cases c : n > 1073741824
  · rw [if_pos c] at h
    exact absurd (Option.some.inj h).symm hr
  rw [if_neg c] at h
  unfold num_Print.f at h
  by_cases c2 : n < 0
  · rw [if_pos c2] at h
    exact absurd (Option.some.inj h).symm hr
  rw [if_neg c2, if_pos (by omega)] at h
  obtain ⟨u, rfl⟩ : ∃ u : Nat, n = u := ⟨n.toNat, by omega⟩
  rw [Lib.itoa_nonneg] at h
  have hr2 : r = asText (Lib.decDigits u) := (Option.some.inj h).symm
  subst hr2
  refine ⟨?_, fun hm => ?_⟩
  · unfold numN
    rw [bytesOf_text]
    exact numP_dec u _ (by omega) (by omega)
  · have hm' : (32 : UInt8) ∈ Lib.decDigits u := by simpa [asText] using hm
    have := digits_byte u _ hm'
    revert this
    decide
/-- Digits without a needless zero are the text of their number. -/
theorem dec_digV : ∀ (n : Nat) (l : List UInt8), l.length = n + 1 → n < 18 → (∀ b ∈ l, 48 ≤ b.toNat ∧ b.toNat ≤ 57) → ((nums8 l).getD 0 0 = 48 → l.length = 1) → Lib.decDigits (digV (nums8 l)).toNat = l
  | 0, l, hl, _, hd, _ => by
    match l, hl with
    | [b], _ =>
      have h := hd b (by simp)
      have e : digV (nums8 [b]) = (b.toNat : Int) - 48 := by show (0 : Int) * 10 + ((b.toNat : Int) - 48) = _; omega
      rw [e, Lib.decDigits, dif_pos (by omega)]
      congr 1
      apply UInt8.toNat.inj
      rw [UInt8.toNat_ofNat']
      omega
  | n + 1, l, hl, hn, hd, hz => by
    obtain ⟨m, b, rfl⟩ : ∃ m b, l = m ++ [b] := ⟨l.dropLast, l.getLast (by intro e; simp [e] at hl), (List.dropLast_concat_getLast _).symm⟩
    have hml : m.length = n + 1 := by simp at hl; omega
    have hb := hd b (by simp)
    have hm : ∀ c ∈ m, 48 ≤ c.toNat ∧ c.toNat ≤ 57 := fun c hc => hd c (by simp [hc])
    have e : digV (nums8 (m ++ [b])) = digV (nums8 m) * 10 + ((b.toNat : Int) - 48) := by
      unfold nums8
      rw [List.map_append, List.map_cons, List.map_nil, digV_snoc]
    have hr := digV_range (n + 1) (nums8 m) (by simp [nums8, hml]) (fun c hc => by
      obtain ⟨x, hx, rfl⟩ := List.mem_map.1 hc
      have := hm x hx
      unfold digB
      rw [decide_eq_true (by omega), decide_eq_true (by omega)]
      rfl)
    have hhead : (nums8 (m ++ [b])).getD 0 0 = (nums8 m).getD 0 0 := by
      cases m with
      | nil => simp at hml
      | cons a t => rfl
    have hnz : (nums8 m).getD 0 0 ≠ 48 := by
      intro h
      have := hz (hhead.trans h)
      simp at this
      omega
    have ih := dec_digV n m hml (by omega) hm (fun h => absurd h hnz)
    have hpos : 1 ≤ digV (nums8 m) := by
      rcases Int.lt_or_le (digV (nums8 m)) 1 with h | h
      · exfalso
        have h0 : digV (nums8 m) = 0 := by omega
        rw [h0] at ih
        have : m = [48] := by rw [← ih]; rw [show (0 : Int).toNat = 0 from rfl, Lib.decDigits, dif_pos (by decide)]; rfl
        rw [this] at hnz
        exact hnz rfl
      · exact h
    rw [e, Lib.decDigits, dif_neg (by omega), show (digV (nums8 m) * 10 + ((b.toNat : Int) - 48)).toNat / 10 = (digV (nums8 m)).toNat by omega, ih]
    congr 2
    apply UInt8.toNat.inj
    rw [UInt8.toNat_ofNat']
    omega
theorem read_count {s : ByteArray} (h : (numN s).2 = 0) : op_count.f (numN s).1 = some s := by
  unfold numN numP at h ⊢
  by_cases c1 : (bytesOf s).length = 0 ∨ 18 < (bytesOf s).length ∨ (bytesOf s).getD 0 0 = 48 ∧ (bytesOf s).length ≠ 1
  · rw [if_pos c1] at h; cases h
  rw [if_neg c1] at h ⊢
  by_cases c2 : (bytesOf s).all digB = true
  · rw [if_pos c2] at h ⊢
    by_cases c3 : digV (bytesOf s) > 1073741824
    · rw [if_pos c3] at h; cases h
    · rw [if_neg c3] at h ⊢
      have hs : asText s.data.toList = s := asText_data s
      have hb : bytesOf s = nums8 s.data.toList := rfl
      have hd : ∀ b ∈ s.data.toList, 48 ≤ b.toNat ∧ b.toNat ≤ 57 := fun b hb2 => by
        have := List.all_eq_true.1 c2 (b.toNat : Int) (by rw [hb]; exact List.mem_map.2 ⟨b, hb2, rfl⟩)
        unfold digB at this
        rw [Bool.and_eq_true, decide_eq_true_eq, decide_eq_true_eq] at this
        omega
      have hlen : (bytesOf s).length = s.data.toList.length := by rw [hb]; simp [nums8]
      have hlast := dec_digV (s.data.toList.length - 1) s.data.toList (by omega) (by omega) hd (fun e => by
        rw [← hlen]
        rcases Decidable.em ((bytesOf s).length = 1) with h1 | h1
        · exact h1
        · exact absurd (.inr (.inr ⟨by rw [hb]; exact e, h1⟩)) c1)
      have hr := digV_range (bytesOf s).length (bytesOf s) rfl (fun c hc => List.all_eq_true.1 c2 c hc)
      unfold op_count.f num_Print.f
      show (if digV (bytesOf s) > 1073741824 then _ else _) = _
      rw [if_neg c3, if_neg (by omega), if_pos (by omega)]
      obtain ⟨u, hu⟩ : ∃ u : Nat, digV (bytesOf s) = u := ⟨(digV (bytesOf s)).toNat, by omega⟩
      rw [hu, Lib.itoa_nonneg]
      rw [← hb, hu] at hlast
      have hlast' : Lib.decDigits u = s.data.toList := hlast
      rw [hlast', Option.bind_some]
  · rw [if_neg c2] at h; cases h
/-! ### bytes -/
theorem hexD_ok (x : Int) (h0 : 0 ≤ x) (h1 : x < 16) : hexOk (hexD x) = true ∧ hexVal (hexD x) = x ∧ 48 ≤ hexD x ∧ hexD x < 128 := by
  have : ∀ a : Fin 16, hexOk (hexD (a.val : Int)) = true ∧ hexVal (hexD (a.val : Int)) = (a.val : Int) ∧ 48 ≤ hexD (a.val : Int) ∧ hexD (a.val : Int) < 128 := by decide +kernel
  obtain ⟨a, rfl⟩ := Int.eq_ofNat_of_zero_le h0
  exact this ⟨a, by omega⟩
theorem hexL_all : ∀ (l : List Int), Bytes8 l → ∀ c ∈ hexL l, hexOk c = true ∧ 48 ≤ c ∧ c < 128
  | [], _, c, hc => by cases hc
  | x :: l, h, c, hc => by
    have hx := h x (by simp)
    have h1 := hexD_ok (x / 16) (by omega) (by omega)
    have h2 := hexD_ok (x % 16) (by omega) (by omega)
    have hc' : c = hexD (x / 16) ∨ c = hexD (x % 16) ∨ c ∈ hexL l := by simpa [hexL] using hc
    rcases hc' with rfl | rfl | hc'
    · exact ⟨h1.1, h1.2.2⟩
    · exact ⟨h2.1, h2.2.2⟩
    · exact hexL_all l (fun y hy => h y (by simp [hy])) c hc'
theorem hexL_bytes (l : List Int) (h : Bytes8 l) : bytesOf (hexS l) = hexL l :=
  bytesOf_strOfNums _ (fun x hx => by have := hexL_all l h x hx; omega)
theorem hexO_hexL : ∀ (l : List Int), Bytes8 l → hexO (hexL l) l.length = l
  | [], _ => rfl
  | x :: l, h => by
    have hx := h x (by simp)
    have h1 := hexD_ok (x / 16) (by omega) (by omega)
    have h2 := hexD_ok (x % 16) (by omega) (by omega)
    have ih := hexO_hexL l (fun y hy => h y (by simp [hy]))
    have e : hexL (x :: l) = hexD (x / 16) :: hexD (x % 16) :: hexL l := by simp [hexL]
    unfold hexO at ih ⊢
    rw [List.length_cons, List.range_succ_eq_map, List.map_cons, List.map_map, e]
    have e2 : ((fun j => hexVal ((hexD (x / 16) :: hexD (x % 16) :: hexL l).getD (2 * j) 0) * 16 + hexVal ((hexD (x / 16) :: hexD (x % 16) :: hexL l).getD (2 * j + 1) 0)) ∘ Nat.succ) = fun j => hexVal ((hexL l).getD (2 * j) 0) * 16 + hexVal ((hexL l).getD (2 * j + 1) 0) := by
      funext j
      show hexVal ((hexD (x / 16) :: hexD (x % 16) :: hexL l).getD (2 * (j + 1)) 0) * 16 + hexVal ((hexD (x / 16) :: hexD (x % 16) :: hexL l).getD (2 * (j + 1) + 1) 0) = _
      rw [show 2 * (j + 1) = 2 * j + 1 + 1 by omega, List.getD_cons_succ, List.getD_cons_succ, show 2 * j + 1 + 1 + 1 = (2 * j + 1) + 1 + 1 by omega, List.getD_cons_succ, List.getD_cons_succ]
    rw [e2, ih]
    congr 1
    show hexVal (hexD (x / 16)) * 16 + hexVal (hexD (x % 16)) = x
    rw [h1.2.1, h2.2.1]
    omega
theorem hexP_hexS (l : List Int) (h : Bytes8 l) : hexP (bytesOf (hexS l)) = (l, 0, 0) := by
  rw [hexL_bytes l h]
  unfold hexP
  rw [takeWhile_all hexOk _ (fun c hc => (hexL_all l h c hc).1), if_neg (Nat.lt_irrefl _), hexL_len, if_neg (by omega), show 2 * l.length / 2 = l.length by omega, hexO_hexL l h]
end Go.Proofs.YtdcknajlioalgaaDoor.QD
namespace Go.Proofs.YtdcknajlioalgaaDoor.QD
open Go.RowKit Go.Proofs.YtdcknajlioalgaaDoorW.PrintWords Go.Proofs.YtdcknajlioalgaaDoorW.PrintLast Go.Proofs.YtdcknajlioalgaaDoorW.PrintMore Go.Proofs.YtdcknajlioalgaaDoor.Hex
set_option linter.unusedVariables false
set_option linter.unusedSimpArgs false
/-! ### operations -/
theorem same_self' (a : OpV) : a.same a = true := by
  unfold OpV.same op_same.f num_Same.f bytes_Equal.f
  simp
theorem field_set_ne (o : OpV) (g g' : Int) (s : ByteArray) (h : ¬ g = g') : (o.set g' s).field g = o.field g := by
  unfold OpV.set
  by_cases c1 : g' = 103
  · subst c1; rw [if_pos rfl]; simp only [OpV.field, fieldP, if_neg h]
  rw [if_neg c1]
  by_cases c2 : g' = 105
  · subst c2; rw [if_pos rfl]; simp only [OpV.field, fieldP, if_neg h]
  rw [if_neg c2]
  by_cases c3 : g' = 101
  · subst c3; rw [if_pos rfl]; simp only [OpV.field, fieldP, if_neg h]
  rw [if_neg c3]
  by_cases c4 : g' = 115
  · subst c4; rw [if_pos rfl]; simp only [OpV.field, fieldP, if_neg h]
  rw [if_neg c4]
  by_cases c5 : g' = 110
  · subst c5; rw [if_pos rfl]; simp only [OpV.field, fieldP, if_neg h]
  rw [if_neg c5]
  by_cases c6 : g' = 118
  · subst c6; rw [if_pos rfl]; simp only [OpV.field, fieldP, if_neg h]
  rw [if_neg c6]
  by_cases c7 : g' = 120
  · subst c7; rw [if_pos rfl]; simp only [OpV.field, fieldP, if_neg h]
  rw [if_neg c7]
theorem set_K (o : OpV) (g : Int) (s : ByteArray) : (o.set g s).K = o.K := by
  unfold OpV.set
  repeat' split
  all_goals rfl
theorem fits_true {o : OpV} {g : Int} {s : ByteArray} (h : o.fits g s = some true) : (o.set g s).field g = some s := by
  by_cases c : g = 101 ∨ g = 115 ∨ g = 110
  · have hn : (numN s).2 = 0 := by
      unfold OpV.fits at h
      rw [if_pos c] at h
      exact of_decide_eq_true (Option.some.inj h)
    have hr := read_count hn
    rcases c with rfl | rfl | rfl
    · exact hr
    · exact hr
    · exact hr
  · by_cases hs : s = ⟨#[]⟩
    · subst hs
      have := fits_empty h c
      cases this
    · obtain ⟨r, hr, ht⟩ := fits_word h c hs
      have hrs : r = s := of_decide_eq_true ht.symm
      rw [← hrs]
      rw [hrs] at hr ⊢
      exact hr
theorem readAll_fields : ∀ (gs : List Int) (o : OpV) (ss : List ByteArray) (x : OpV), gs.Nodup → gs.length = ss.length → readAll o gs ss = some (x, true) →
    (∀ acc, fieldsFrom x acc gs = some (acc ++ ss)) ∧ (∀ g, g ∉ gs → x.field g = o.field g) ∧ x.K = o.K
  | [], o, [], x, _, _, h => by
    obtain ⟨rfl, _⟩ := Prod.mk.inj (Option.some.inj h)
    exact ⟨fun acc => by rw [fieldsFrom, List.append_nil], fun _ _ => rfl, rfl⟩
  | [], o, _ :: _, x, _, hl, _ => by simp at hl
  | _ :: _, o, [], x, _, hl, _ => by simp at hl
  | g :: gs, o, s :: ss, x, hn, hl, h => by
    rw [readAll] at h
    obtain ⟨t, ht, h2⟩ := Option.bind_eq_some_iff.1 h
    cases t with
    | false =>
      rw [if_neg (by decide)] at h2
      have := (Prod.mk.inj (Option.some.inj h2)).2
      cases this
    | true =>
      rw [if_pos rfl] at h2
      have hn' := List.nodup_cons.1 hn
      obtain ⟨i1, i2, i3⟩ := readAll_fields gs (o.set g s) ss x hn'.2 (by simpa using hl) h2
      have hf : x.field g = some s := (i2 g hn'.1).trans (fits_true ht)
      refine ⟨fun acc => ?_, fun g' hg' => ?_, i3.trans (set_K o g s)⟩
      · rw [fieldsFrom, hf, Option.bind_some, i1, List.append_assoc]
        rfl
      · have h3 : ¬ g' = g := fun e => hg' (by rw [e]; simp)
        rw [i2 g' (fun hm => hg' (by simp [hm])), field_set_ne o g' g s h3]
theorem nodup_all : ∀ j : Fin 10, (bytesOf (signsOf j.val)).Nodup := by decide +kernel
theorem parse_print {s : ByteArray} {x : OpV} (h : opParse s = some (x, 0)) : opPrint x = some (s, 0) := by
  have h0 := h
  unfold opParse at h
  by_cases hs0 : ¬ s.size ≤ 1000000
  · rw [if_neg hs0] at h; cases h
  have hs := Decidable.not_not.mp hs0
  rw [if_pos hs] at h
  have hj := join_split s
  generalize splitO 32 s = ws at h hj
  cases ws with
  | nil => cases h
  | cons hd tl =>
  rw [parseW] at h
  unfold parseK at h
  by_cases hc : kindOf hd < 0 ∨ tl.length ≠ (signsOf (kindOf hd).toNat).size
  · rw [if_pos hc] at h
    have := (Prod.mk.inj (Option.some.inj h)).2
    cases this
  rw [if_neg hc] at h
  rcases kindOf_word hd with ⟨m, hm, hm1, hm10, hword⟩ | ⟨hm, _⟩
  · rw [hm] at h hc
    have hmt : ((m : Int)).toNat = m := rfl
    rw [hmt] at h hc
    have hln : tl.length = (signsOf m).size := Decidable.not_not.mp (fun e => hc (.inr e))
    obtain ⟨q, hq, he⟩ := Option.map_eq_some_iff.1 h
    have hq2 : q.2 = true := by
      cases hb : q.2 with
      | true => rfl
      | false =>
        rw [hb, if_neg (by decide)] at he
        have := (Prod.mk.inj he).2
        cases this
    rw [if_pos hq2] at he
    have hq1 : q.1 = x := (Prod.mk.inj he).1
    have hq' : readAll (opZero m) (bytesOf (signsOf m)) tl = some (x, true) := by rw [hq, ← hq1, ← hq2]
    obtain ⟨i1, _, i3⟩ := readAll_fields _ _ _ _ (nodup_all ⟨m, hm10⟩) (by rw [bytesOf_length]; exact hln.symm) hq'
    have hK : x.K = m := i3
    unfold opPrint
    rw [hK, if_neg (by omega), hmt, i1, Option.bind_some]
    have hw : [wordOf m] ++ tl = hd :: tl := by rw [hword]; rfl
    rw [hw, hj, if_pos hs, h0, Option.bind_some, if_pos rfl, if_pos (same_self' x)]
  · exact absurd (.inl (by rw [hm]; decide)) hc
/-! ### answers -/
theorem nums_fold : ∀ (ns : List Int) (acc ws : List ByteArray), numsFrom acc ns = some ws → ∃ rs, ws = acc ++ rs ∧ ((∀ x ∈ rs, ¬ x = ⟨#[]⟩) → (∀ x ∈ rs, (32 : UInt8) ∉ x.data.toList) ∧ ∀ a : AnsV, rs.foldl readStep a = { a with Nm := a.Nm ++ ns })
  | [], acc, ws, h => by
    obtain rfl := Option.some.inj h
    exact ⟨[], by simp, fun _ => ⟨fun x hx => (List.not_mem_nil hx).elim, fun a => by simp⟩⟩
  | n :: ns, acc, ws, h => by
    rw [numsFrom] at h
    obtain ⟨r, hr, h2⟩ := Option.bind_eq_some_iff.1 h
    obtain ⟨rs, e, hf⟩ := nums_fold ns (acc ++ [r]) ws h2
    refine ⟨r :: rs, by rw [e]; simp, fun hne => ?_⟩
    have h3 := count_read hr (hne r (by simp))
    obtain ⟨h4, h5⟩ := hf (fun x hx => hne x (by simp [hx]))
    refine ⟨fun x hx => ?_, fun a => ?_⟩
    · rcases List.mem_cons.1 hx with rfl | hx
      · exact h3.2
      · exact h4 x hx
    · rw [List.foldl_cons, h5]
      have e1 : readStep a r = { a with Nm := a.Nm ++ [n] } := by
        unfold readStep
        rw [h3.1, if_pos rfl]
      rw [e1]
      simp
theorem head_text (c : UInt8) (x : ByteArray) : ((⟨#[c]⟩ : ByteArray) ++ x).data.toList = c :: x.data.toList := by simp
theorem numN_head (c : UInt8) (x : ByteArray) (h : ¬ (48 ≤ c.toNat ∧ c.toNat ≤ 57)) : ¬ (numN ((⟨#[c]⟩ : ByteArray) ++ x)).2 = 0 := by
  have e : bytesOf ((⟨#[c]⟩ : ByteArray) ++ x) = (c.toNat : Int) :: bytesOf x := by unfold bytesOf; rw [head_text]; rfl
  have hd : digB (c.toNat : Int) = false := by
    unfold digB
    rw [Bool.and_eq_false_iff, decide_eq_false_iff_not, decide_eq_false_iff_not]
    omega
  unfold numN numP
  rw [e]
  split
  · show ¬ (3 : Int) = 0; decide
  · rw [List.all_cons, hd, Bool.false_and, if_neg (by decide)]
    show ¬ (3 : Int) = 0
    decide
theorem has_head (c d : UInt8) (x : ByteArray) : has1 d ((⟨#[c]⟩ : ByteArray) ++ x) = (d == c) := by
  unfold has1 Lib.hasPrefix
  rw [head_text]
  simp [List.isPrefixOf]
theorem cut_head (c : UInt8) (x : ByteArray) : cut1 c ((⟨#[c]⟩ : ByteArray) ++ x) = x := by
  have h := has_head c c x
  rw [beq_self_eq_true] at h
  unfold has1 at h
  unfold cut1 Lib.trimPrefix
  rw [if_pos h, head_text]
  show asText _ = x
  exact asText_data x
theorem step_hash (a : AnsV) (B : List Int) (h : Bytes8 B) : readStep a ((⟨#[35]⟩ : ByteArray) ++ hexS B) = { a with B := B } := by
  unfold readStep
  rw [if_neg (numN_head 35 _ (by decide)), has_head, if_pos (by decide), cut_head, hexP_hexS B h]
theorem step_text (a : AnsV) (T : ByteArray) : readStep a ((⟨#[61]⟩ : ByteArray) ++ T) = { a with T := T } := by
  unfold readStep
  rw [if_neg (numN_head 61 _ (by decide)), has_head, if_neg (by decide), cut_head]
theorem hex_blank (B : List Int) (h : Bytes8 B) : (32 : UInt8) ∉ (hexS B).data.toList := by
  intro hm
  have : (32 : Int) ∈ bytesOf (hexS B) := List.mem_map.2 ⟨32, hm, rfl⟩
  rw [hexL_bytes B h] at this
  have := hexL_all B h 32 this
  omega
theorem part_blank' {T p : ByteArray} (h : op_part.f T = some p) (hp : ¬ p = ⟨#[]⟩) : (32 : UInt8) ∉ T.data.toList := by
  unfold op_part.f name_Part.f at h
  split at h
  case isFalse => cases h
  rw [Option.bind_some] at h
  by_cases c : partB T = true
  · intro hm
    exact part_blank T c (List.mem_map.2 ⟨32, hm, rfl⟩)
  · have c' : ((runesOf T).all smallB && (decide (1 ≤ (runesOf T).length) && decide ((runesOf T).length ≤ 8))) ≠ true := c
    rw [if_neg c'] at h
    exact absurd (Option.some.inj h).symm hp
end Go.Proofs.YtdcknajlioalgaaDoor.QD
namespace Go.Proofs.YtdcknajlioalgaaDoor.QD
open Go.RowKit Go.Proofs.YtdcknajlioalgaaDoorW.PrintWords Go.Proofs.YtdcknajlioalgaaDoorW.PrintLast Go.Proofs.YtdcknajlioalgaaDoorW.PrintMore Go.Proofs.YtdcknajlioalgaaDoor.Hex
set_option linter.unusedVariables false
set_option linter.unusedSimpArgs false
theorem word_size (F : Int) : (wordF F).size ≤ 200 := by
  unfold wordF
  split
  · decide
  · have h : ∀ j : Fin 15, (wordsL.getD j.val ⟨#[]⟩).size ≤ 200 := by decide +kernel
    exact h ⟨F.toNat, by omega⟩
theorem nums_total : ∀ (ns : List Int) (acc : List ByteArray), (∀ x ∈ acc, x.size ≤ 200) → ∃ ws, numsFrom acc ns = some ws ∧ ws.length = acc.length + ns.length ∧ ∀ x ∈ ws, x.size ≤ 200
  | [], acc, h => ⟨acc, rfl, rfl, h⟩
  | n :: ns, acc, h => by
    obtain ⟨r, hr, hs⟩ := count_total n
    obtain ⟨ws, h1, h2, h3⟩ := nums_total ns (acc ++ [r]) (fun x hx => by
      rcases List.mem_append.1 hx with hx | hx
      · exact h x hx
      · rw [List.mem_singleton.1 hx]; exact hs)
    refine ⟨ws, by rw [numsFrom, hr, Option.bind_some]; exact h1, ?_, h3⟩
    rw [h2]
    simp
    omega
theorem joinL_size (c : UInt8) (m : Nat) : ∀ ws : List (List UInt8), (∀ x ∈ ws, x.length ≤ m) → (joinL c ws).length ≤ ws.length * (m + 1)
  | [], _ => Nat.zero_le _
  | [x], h => by
    have := h x (by simp)
    simp [joinL]; omega
  | x :: y :: r, h => by
    have h1 := h x (by simp)
    have h2 := joinL_size c m (y :: r) (fun z hz => h z (by simp [hz]))
    rw [joinL, List.length_append, List.length_cons, List.length_cons, Nat.succ_mul]
    omega
theorem joinL_snoc (c : UInt8) : ∀ (ws : List (List UInt8)) (x : List UInt8), (joinL c (ws ++ [x])).length ≤ (joinL c ws).length + x.length + 1
  | [], x => by simp [joinL] <;> omega
  | [y], x => by simp [joinL] <;> omega
  | y :: z :: r, x => by
    have h := joinL_snoc c (z :: r) x
    rw [List.cons_append, List.cons_append, joinL, joinL, List.length_append, List.length_append, List.length_cons, List.length_cons]
    rw [List.cons_append] at h
    omega
theorem joinW_size (ws : List ByteArray) : (joinW ws).size = (joinL 32 (ws.map (·.data.toList))).length := by
  rw [← joinW_data, data_length]
theorem joinW_snoc (ws : List ByteArray) (x : ByteArray) : (joinW (ws ++ [x])).size ≤ (joinW ws).size + x.size + 1 := by
  have := joinL_snoc 32 (ws.map (·.data.toList)) x.data.toList
  rw [joinW_size, joinW_size, List.map_append, List.map_cons, List.map_nil]
  rw [data_length] at this
  exact this
theorem tellEnd_total (B : List Int) (T : ByteArray) (ws : List ByteArray) (hB : B.length ≤ 5000) (h8 : Bytes8 B) (hT : T.size ≤ 5000) (hj : (joinW ws).size ≤ 900000) : ∃ t, tellEnd B T ws = some t := by
  have key : ∀ ws1 : List ByteArray, (joinW ws1).size ≤ 920000 → ∃ t, (if (joinW (if T = ⟨#[]⟩ then ws1 else ws1 ++ [(⟨#[61]⟩ : ByteArray) ++ T])).size ≤ 1000000 then some (joinW (if T = ⟨#[]⟩ then ws1 else ws1 ++ [(⟨#[61]⟩ : ByteArray) ++ T])) else none) = some t := by
    intro ws1 h1
    have h2 := joinW_snoc ws1 ((⟨#[61]⟩ : ByteArray) ++ T)
    have h3 : ((⟨#[61]⟩ : ByteArray) ++ T).size = 1 + T.size := by rw [ByteArray.size_append]; rfl
    by_cases c : T = ⟨#[]⟩
    · rw [if_pos c, if_pos (by omega)]; exact ⟨_, rfl⟩
    · rw [if_neg c, if_pos (by omega)]; exact ⟨_, rfl⟩
  unfold tellEnd
  by_cases c : B.length = 0
  · rw [if_pos c, Option.bind_some]
    exact key ws (by omega)
  · have hp : hex_Print.f B = some (hexS B) := by unfold hex_Print.f; rw [if_pos ⟨by omega, h8⟩]
    have h4 : (hexS B).size = 2 * B.length := by unfold hexS; rw [strOf_size, hexL_len]
    have h5 := joinW_snoc ws ((⟨#[35]⟩ : ByteArray) ++ hexS B)
    have h6 : ((⟨#[35]⟩ : ByteArray) ++ hexS B).size = 1 + (hexS B).size := by rw [ByteArray.size_append]; rfl
    rw [if_neg c, hp, Option.bind_some, Option.bind_some]
    exact key _ (by omega)
theorem tell_total (F : Int) (B Nm : List Int) (T : ByteArray) (hB : B.length ≤ 5000) (h8 : Bytes8 B) (hN : Nm.length ≤ 4000) (hT : T.size ≤ 5000) : ∃ t, tellP F B Nm T = some t := by
  unfold tellP
  by_cases hF : F ≠ 0
  · rw [if_pos hF]; exact ⟨_, rfl⟩
  rw [if_neg hF, if_pos ⟨by omega, by omega, by omega⟩]
  obtain ⟨ws, h1, h2, h3⟩ := nums_total Nm [wordF F] (fun x hx => by rw [List.mem_singleton.1 hx]; exact word_size F)
  rw [h1, Option.bind_some]
  have hj : (joinW ws).size ≤ 900000 := by
    rw [joinW_size]
    have := joinL_size 32 200 (ws.map (·.data.toList)) (fun x hx => by
      obtain ⟨y, hy, rfl⟩ := List.mem_map.1 hx
      rw [data_length]
      exact h3 y hy)
    rw [List.length_map, h2] at this
    simp at this
    omega
  by_cases he : emptyIn ws = true
  · rw [if_pos he]; exact ⟨_, rfl⟩
  rw [if_neg he]
  by_cases hTe : T = ⟨#[]⟩
  · rw [if_pos hTe]; exact tellEnd_total B T ws hB h8 hT hj
  rw [if_neg hTe]
  obtain ⟨p, hp⟩ := part_total T (by omega)
  rw [hp, Option.bind_some]
  by_cases hpe : p = ⟨#[]⟩
  · rw [if_pos hpe]; exact ⟨_, rfl⟩
  · rw [if_neg hpe]; exact tellEnd_total B T ws hB h8 hT hj
/-- What the reader holds of words that are not long. -/
theorem read_bounds : ∀ (ws : List ByteArray) (a : AnsV) (k : Nat), (∀ x ∈ ws, x.size ≤ 3000) → a.B.length ≤ 3000 → Bytes8 a.B → a.Nm.length ≤ k → a.T.size ≤ 3000 →
    (ws.foldl readStep a).B.length ≤ 3000 ∧ Bytes8 (ws.foldl readStep a).B ∧ (ws.foldl readStep a).Nm.length ≤ k + ws.length ∧ (ws.foldl readStep a).T.size ≤ 3000
  | [], a, k, _, h1, h2, h3, h4 => ⟨h1, h2, h3, h4⟩
  | x :: ws, a, k, hx, h1, h2, h3, h4 => by
    have hxs := hx x (by simp)
    have hst : (readStep a x).B.length ≤ 3000 ∧ Bytes8 (readStep a x).B ∧ (readStep a x).Nm.length ≤ k + 1 ∧ (readStep a x).T.size ≤ 3000 := by
      unfold readStep
      split
      · exact ⟨h1, h2, by show (a.Nm ++ [_]).length ≤ _; rw [List.length_append, List.length_singleton]; omega, h4⟩
      · split
        · have hs := cut1_size 35 x
          refine ⟨?_, hexP_range _, by show a.Nm.length ≤ _; omega, h4⟩
          show (hexP (bytesOf (cut1 35 x))).1.length ≤ 3000
          unfold hexP
          rw [bytesOf_length]
          repeat' split
          · exact Nat.zero_le _
          · exact Nat.zero_le _
          · show (hexO _ _).length ≤ _
            rw [hexO_len]; omega
        · exact ⟨h1, h2, by show a.Nm.length ≤ _; omega, by show (cut1 61 x).size ≤ _; exact Nat.le_trans (cut1_size 61 x) hxs⟩
    have ih := read_bounds ws (readStep a x) (k + 1) (fun y hy => hx y (by simp [hy])) hst.1 hst.2.1 hst.2.2.1 hst.2.2.2
    rw [List.foldl_cons, List.length_cons]
    exact ⟨ih.1, ih.2.1, by omega, ih.2.2.2⟩
theorem readWords_bounds (s : ByteArray) (h : s.size ≤ 3000) : (readWords (splitO 32 s)).B.length ≤ 3000 ∧ Bytes8 (readWords (splitO 32 s)).B ∧ (readWords (splitO 32 s)).Nm.length ≤ 3001 ∧ (readWords (splitO 32 s)).T.size ≤ 3000 ∧ (splitO 32 s).length ≤ 3001 := by
  have hlen : (splitO 32 s).length ≤ 3001 := by
    rw [splitO_cut, List.length_map]
    have := cutL_len 32 s.data.toList []
    rw [data_length] at this
    omega
  have hw := fun x hx => Nat.le_trans (splitO_small 32 s x hx) h
  have := read_bounds (splitO 32 s).tail ⟨(faultF ((splitO 32 s).headD ⟨#[]⟩)).1, [], [], ⟨#[]⟩⟩ 0 (fun x hx => hw x (List.mem_of_mem_tail hx)) (Nat.zero_le _) (fun x hx => by cases hx) (Nat.zero_le _) (Nat.zero_le _)
  have ht : (splitO 32 s).tail.length ≤ 3001 := by rw [List.length_tail]; omega
  exact ⟨this.1, this.2.1, Nat.le_trans this.2.2.1 (by omega), this.2.2.2, hlen⟩
theorem read_total (s : ByteArray) (h : s.size ≤ 3000) : ∃ q, readP s = some q := by
  have hb := readWords_bounds s h
  unfold readP
  rw [if_pos ⟨by omega, by omega⟩]
  by_cases hs : s = ⟨#[]⟩
  · rw [if_pos hs]; exact ⟨_, rfl⟩
  rw [if_neg hs]
  obtain ⟨t, ht⟩ := tell_total (readWords (splitO 32 s)).F (readWords (splitO 32 s)).B (readWords (splitO 32 s)).Nm (readWords (splitO 32 s)).T (by omega) hb.2.1 (by omega) (by omega)
  rw [ht, Option.bind_some]
  split
  · exact ⟨_, rfl⟩
  · exact ⟨_, rfl⟩
/-- What is read has just that line. -/
theorem read_tell {s : ByteArray} {a : AnsV} (h : readP s = some (a, 0)) : tellP a.F a.B a.Nm a.T = some s := by
  unfold readP at h
  split at h
  case isFalse => cases h
  by_cases hs : s = ⟨#[]⟩
  · rw [if_pos hs] at h
    have := (Prod.mk.inj (Option.some.inj h)).2
    cases this
  rw [if_neg hs] at h
  obtain ⟨t, ht, h2⟩ := Option.bind_eq_some_iff.1 h
  by_cases hts : t = s
  · rw [if_pos hts] at h2
    have := (Prod.mk.inj (Option.some.inj h2)).1
    rw [← this, ht, hts]
  · rw [if_neg hts] at h2
    have := (Prod.mk.inj (Option.some.inj h2)).2
    cases this
/-- A line whose words are read as the answer that it tells, is read as it. -/
theorem read_of {t : ByteArray} {a : AnsV} (ht : ¬ t = ⟨#[]⟩) (hs : t.size ≤ 1000000) (hl : (splitO 32 t).length ≤ 90000) (hw : readWords (splitO 32 t) = a) (h : tellP a.F a.B a.Nm a.T = some t) : readP t = some (a, 0) := by
  unfold readP
  rw [if_pos ⟨hs, hl⟩, if_neg ht, hw, h, Option.bind_some, if_pos rfl]
theorem fault_all : ∀ j : Fin 15, faultF (wordsL.getD j.val ⟨#[]⟩) = ((j.val : Int), true) ∧ (32 : UInt8) ∉ (wordsL.getD j.val ⟨#[]⟩).data.toList := by decide +kernel
theorem tell_read {F : Int} {B Nm : List Int} {T t : ByteArray} (h8 : Bytes8 B) (hN : Nm.length ≤ 80000) (h : tellP F B Nm T = some t) (ht : ¬ t = ⟨#[]⟩) : ∃ a, readP t = some (a, 0) ∧ a.F = F ∧ (F = 0 → a = ⟨F, B, Nm, T⟩) := by
  have h0 := h
  unfold tellP at h
  by_cases hF : F ≠ 0
  · rw [if_pos hF] at h
    obtain rfl := Option.some.inj h
    have hr : ¬ (F < 0 ∨ F ≥ 15) := fun hc => ht (by unfold wordF; rw [if_pos hc])
    have hw : wordF F = wordsL.getD F.toNat ⟨#[]⟩ := by unfold wordF; rw [if_neg hr]
    have hf := fault_all ⟨F.toNat, by omega⟩
    have hsp : splitO 32 (wordF F) = [wordF F] := by
      have := split_join [wordF F] (by simp) (fun x hx => by rw [List.mem_singleton.1 hx, hw]; exact hf.2)
      have hj : joinW [wordF F] = wordF F := by unfold joinW; rw [List.map_cons, List.map_nil, Lib.join_one]
      rw [hj] at this
      exact this
    have hff : (faultF (wordF F)).1 = F := by
      rw [hw]
      have := hf.1
      show (faultF (wordsL.getD F.toNat ⟨#[]⟩)).1 = F
      rw [show faultF (wordsL.getD F.toNat ⟨#[]⟩) = ((F.toNat : Int), true) from this]
      show ((F.toNat : Nat) : Int) = F
      omega
    refine ⟨⟨F, [], [], ⟨#[]⟩⟩, read_of ht (Nat.le_trans (word_size F) (by decide)) (by rw [hsp]; simp) (by rw [hsp]; unfold readWords; show AnsV.mk (faultF (wordF F)).1 [] [] ⟨#[]⟩ = _; rw [hff]) ?_, rfl, fun e => absurd e hF⟩
    unfold tellP
    rw [if_pos hF]
  · have hF0 : F = 0 := Decidable.not_not.mp hF
    rw [if_neg hF] at h
    split at h
    case isFalse => cases h
    rename_i hb
    obtain ⟨ws, hws, h2⟩ := Option.bind_eq_some_iff.1 h
    by_cases he : emptyIn ws = true
    · rw [if_pos he] at h2
      exact absurd (Option.some.inj h2).symm ht
    rw [if_neg he] at h2
    obtain ⟨rs, e, hfold⟩ := nums_fold Nm [wordF F] ws hws
    have hrl : ws.length = 1 + Nm.length := by rw [numsFrom_len Nm _ _ hws]; rfl
    have hne : ∀ x ∈ rs, ¬ x = ⟨#[]⟩ := fun x hx hxe => he (by
      unfold emptyIn
      rw [List.any_eq_true]
      exact ⟨x, by rw [e]; simp [hx], decide_eq_true hxe⟩)
    obtain ⟨hblank, hfd⟩ := hfold hne
    have hw0 : wordF F = ⟨#[111, 107]⟩ := by rw [hF0]; rfl
    have hTd : T = ⟨#[]⟩ ∨ (¬ T = ⟨#[]⟩ ∧ (32 : UInt8) ∉ T.data.toList) := by
      by_cases c : T = ⟨#[]⟩
      · exact .inl c
      · rw [if_neg c] at h2
        obtain ⟨p, hp, h3⟩ := Option.bind_eq_some_iff.1 h2
        by_cases hpe : p = ⟨#[]⟩
        · rw [if_pos hpe] at h3
          exact absurd (Option.some.inj h3).symm ht
        · exact .inr ⟨c, part_blank' hp hpe⟩
    have hend : tellEnd B T ws = some t := by
      by_cases c : T = ⟨#[]⟩
      · rw [if_pos c] at h2; exact h2
      · rw [if_neg c] at h2
        obtain ⟨p, hp, h3⟩ := Option.bind_eq_some_iff.1 h2
        by_cases hpe : p = ⟨#[]⟩
        · rw [if_pos hpe] at h3
          exact absurd (Option.some.inj h3).symm ht
        · rw [if_neg hpe] at h3; exact h3
    -- the words behind the numbers
    obtain ⟨more, hm1, hm2, hm3, hm4⟩ : ∃ more : List ByteArray, t = joinW (ws ++ more) ∧ (∀ x ∈ more, (32 : UInt8) ∉ x.data.toList) ∧ more.length ≤ 2 ∧ ∀ a : AnsV, a.B = [] → a.T = ⟨#[]⟩ → more.foldl readStep a = { a with B := B, T := T } := by
      unfold tellEnd at hend
      have hTpart : ∀ ws1 : List ByteArray, (if (joinW (if T = ⟨#[]⟩ then ws1 else ws1 ++ [(⟨#[61]⟩ : ByteArray) ++ T])).size ≤ 1000000 then some (joinW (if T = ⟨#[]⟩ then ws1 else ws1 ++ [(⟨#[61]⟩ : ByteArray) ++ T])) else none) = some t → ∃ m2 : List ByteArray, t = joinW (ws1 ++ m2) ∧ (∀ x ∈ m2, (32 : UInt8) ∉ x.data.toList) ∧ m2.length ≤ 1 ∧ ∀ a : AnsV, a.T = ⟨#[]⟩ → m2.foldl readStep a = { a with T := T } := by
        intro ws1 hq
        rcases hTd with hTe | ⟨hTn, hTb⟩
        · rw [if_pos hTe] at hq
          split at hq
          case isFalse => cases hq
          refine ⟨[], by rw [List.append_nil]; exact (Option.some.inj hq).symm, fun x hx => (List.not_mem_nil hx).elim, Nat.zero_le _, fun a ha => ?_⟩
          rw [List.foldl_nil, hTe, ← ha]
        · rw [if_neg hTn] at hq
          split at hq
          case isFalse => cases hq
          refine ⟨[(⟨#[61]⟩ : ByteArray) ++ T], (Option.some.inj hq).symm, fun x hx => ?_, Nat.le_refl _, fun a _ => ?_⟩
          · rw [List.mem_singleton.1 hx, head_text]
            intro hm
            rcases List.mem_cons.1 hm with hm | hm
            · revert hm; decide
            · exact hTb hm
          · rw [List.foldl_cons, List.foldl_nil, step_text]
      by_cases c : B.length = 0
      · rw [if_pos c, Option.bind_some] at hend
        obtain ⟨m2, q1, q2, q3, q4⟩ := hTpart ws hend
        refine ⟨m2, q1, q2, by omega, fun a ha hT2 => ?_⟩
        rw [q4 a hT2, List.eq_nil_of_length_eq_zero c, ← ha]
      · rw [if_neg c] at hend
        obtain ⟨ws1, hw1, hend2⟩ := Option.bind_eq_some_iff.1 hend
        obtain ⟨hx, hpx, hw2⟩ := Option.bind_eq_some_iff.1 hw1
        have hxe : hx = hexS B := by
          unfold hex_Print.f at hpx
          split at hpx
          case isFalse => cases hpx
          exact (Option.some.inj hpx).symm
        subst hxe
        obtain rfl := Option.some.inj hw2
        obtain ⟨m2, q1, q2, q3, q4⟩ := hTpart _ hend2
        refine ⟨((⟨#[35]⟩ : ByteArray) ++ hexS B) :: m2, by rw [q1]; simp, fun x hx => ?_, by rw [List.length_cons]; omega, fun a ha hT2 => ?_⟩
        · rcases List.mem_cons.1 hx with rfl | hx
          · rw [head_text]
            intro hm
            rcases List.mem_cons.1 hm with hm | hm
            · revert hm; decide
            · exact hex_blank B h8 hm
          · exact q2 x hx
        · rw [List.foldl_cons, step_hash a B h8]
          exact q4 ⟨a.F, B, a.Nm, a.T⟩ hT2
    have hall : ∀ x ∈ ws ++ more, (32 : UInt8) ∉ x.data.toList := fun x hx => by
      rcases List.mem_append.1 hx with hx | hx
      · rw [e] at hx
        rcases List.mem_append.1 hx with hx | hx
        · rw [List.mem_singleton.1 hx, hw0]; decide
        · exact hblank x hx
      · exact hm2 x hx
    have hsp : splitO 32 t = ws ++ more := by rw [hm1]; exact split_join _ (by rw [e]; simp) hall
    have hts : t.size ≤ 1000000 := by
      unfold tellEnd at hend
      obtain ⟨ws1, _, hend2⟩ := Option.bind_eq_some_iff.1 hend
      have hgen : ∀ x : ByteArray, (if x.size ≤ 1000000 then some x else none) = some t → t.size ≤ 1000000 := fun x hx => by
        split at hx
        case isFalse => cases hx
        rename_i hsz
        rw [← Option.some.inj hx]
        exact hsz
      exact hgen _ hend2
    refine ⟨⟨F, B, Nm, T⟩, read_of ht hts (by rw [hsp, List.length_append]; omega) ?_ h0, rfl, fun _ => rfl⟩
    rw [hsp, e]
    unfold readWords
    show (rs ++ more).foldl readStep ⟨(faultF (wordF F)).1, [], [], ⟨#[]⟩⟩ = _
    have hf0 : (faultF (wordF F)).1 = F := by rw [hw0, hF0]; decide +kernel
    rw [List.foldl_append, hfd, hf0]
    exact hm4 _ rfl rfl
end Go.Proofs.YtdcknajlioalgaaDoor.QD
namespace Go.Proofs.YtdcknajlioalgaaDoor.QD
open Go.RowKit Go.Proofs.YtdcknajlioalgaaDoorW.PrintWords Go.Proofs.YtdcknajlioalgaaDoorW.PrintLast Go.Proofs.YtdcknajlioalgaaDoorW.PrintMore Go.Proofs.YtdcknajlioalgaaDoor.Hex
set_option linter.unusedVariables false
set_option linter.unusedSimpArgs false
theorem int_at {w : World} {A : Option Addr} {l : List Int} (h : Kd.C (Kd.int .i64) w A l.length l) (i : Nat) (hi : i < l.length) : ∃ ad, A = some ad ∧ w.cell? (ad.add i) = some (.int .i64 (l.getD i 0)) := by
  obtain ⟨ad, cs, hA, _, hK, hcell⟩ := Kd.C_get h 0 i (by omega) (by omega)
  have hK' : cs = [.int .i64 (l.getD i 0)] := hK
  subst hK'
  refine ⟨ad, hA, ?_⟩
  have := hcell 0 _ rfl
  simpa [Kd.int, Kd.scalar] using this
theorem ints_self (A0 A1 : Option Addr) (c0 c1 : Nat) (l : List Int) (w : World) (hl : l.length ≤ 100000) (h0 : Kd.C (Kd.int .i64) w A0 l.length l) (h1 : Kd.C (Kd.int .i64) w A1 l.length l) :
    Calls Tryd.prog 25 #[.slice A0 l.length c0, .slice A1 l.length c1] w fun e w' => e = .returned (.bool true) ∧ Below w.heap.size w w' := by
  have hu29 := Tryd.underlying29
  have H0 := Aside0.mk h0
  have H1 := Aside0.mk h1
  have HL := Aside0.mk hl
  clear h0 h1 hl
  have e0 : ((l.length : Int) != (l.length : Int)) = false := by simp
  go_enter Tryd.func25, Tryd.ntmps25
  go_wp2_with (fail)
  go_loopw [5] (fun v5 wr => ∃ i : Nat, v5 = .int .i64 i ∧ i ≤ l.length ∧ Aside0 (Below w.heap.size w wr)) (fun v5 _ => l.length - (intOf v5).toNat)
  case atStart => exact ⟨0, rfl, Nat.zero_le _, ⟨Below.refl _ _⟩⟩
  case round =>
    obtain ⟨i, rfl, hi, HB⟩ := hrel
    by_cases hlt : i < l.length
    · have i1 : decide ((i : Int) < (l.length : Int)) = true := decide_eq_true (by omega)
      have i2 : (i : Int) < (l.length : Int) := by omega
      obtain ⟨a0, rfl, q0⟩ := int_at (Kd.C_below H0.out HB.out) i hlt
      obtain ⟨a1, rfl, q1⟩ := int_at (Kd.C_below H1.out HB.out) i hlt
      generalize l.getD i 0 = x at q0 q1
      have HWR := Aside0.mk (show wrap64 ((i : Int) + 1) = ((i + 1 : Nat) : Int) from by have h1 := HL.out; unfold wrap64; omega)
      go_wp2_with (fail)
      go_quiet (fail)
      go_wp2_with (fail)
      exact ⟨⟨i + 1, by rw [HWR.out], by omega, ⟨pw_below_drewN HB.out _⟩⟩, by show l.length - (intOf (.int .i64 (wrap64 ((i : Int) + 1)))).toNat < _; rw [HWR.out]; simp only [intOf]; omega⟩
    · have i1 : decide ((i : Int) < (l.length : Int)) = false := decide_eq_false (by omega)
      go_wp2_with (fail)
      go_ret
      exact ⟨rfl, HB.out⟩
def ansLight (B Nm : List Int) (T : ByteArray) : Bool := decide (B.length ≤ 100 ∧ Nm.length ≤ 20 ∧ T.size ≤ 100)
theorem light_calls (F : Int) (B Nm : List Int) (T : ByteArray) (A1 A2 : Option Addr) (c1 c2 : Nat) (w : World) :
    Calls Tryd.prog 20 #[.agg #[.int .i64 F, .slice A1 B.length c1, .slice A2 Nm.length c2, .string T]] w fun e w' => e = .returned (.bool (ansLight B Nm T)) ∧ Below w.heap.size w w' := by
  have hu54 := Tryd.underlying54
  have X0 := Aside0.mk (heap_alloc_new w (.cells #[.int .i64 F, .slice A1 B.length c1, .slice A2 Nm.length c2, .string T] 54))
  have XB := Aside0.mk (below_alloc (Below.refl w.heap.size w) (.cells #[.int .i64 F, .slice A1 B.length c1, .slice A2 Nm.length c2, .string T] 54))
  have p1 : (w.alloc (.cells #[.int .i64 F, .slice A1 B.length c1, .slice A2 Nm.length c2, .string T] 54)).cell? ⟨w.heap.size, 1, none⟩ = some (.slice A1 B.length c1) := cell_of X0.out rfl
  have p2 : (w.alloc (.cells #[.int .i64 F, .slice A1 B.length c1, .slice A2 Nm.length c2, .string T] 54)).cell? ⟨w.heap.size, 2, none⟩ = some (.slice A2 Nm.length c2) := cell_of X0.out rfl
  have p3 : (w.alloc (.cells #[.int .i64 F, .slice A1 B.length c1, .slice A2 Nm.length c2, .string T] 54)).cell? ⟨w.heap.size, 3, none⟩ = some (.string T) := cell_of X0.out rfl
  by_cases b1 : B.length ≤ 100
  · have e1 : decide ((B.length : Int) ≤ 100) = true := decide_eq_true (by omega)
    have e1' : decide (B.length ≤ 100) = true := decide_eq_true b1
    by_cases b2 : Nm.length ≤ 20
    · have e2 : decide ((Nm.length : Int) ≤ 20) = true := decide_eq_true (by omega)
      have e2' : decide (Nm.length ≤ 20) = true := decide_eq_true b2
      by_cases b3 : T.size ≤ 100
      · have e3 : decide ((T.size : Int) ≤ 100) = true := decide_eq_true (by omega)
        have e3' : decide (T.size ≤ 100) = true := decide_eq_true b3
        have HE := Aside0.mk (show ansLight B Nm T = true from decide_eq_true ⟨b1, b2, b3⟩)
        clear b1 b2 b3
        go_enter Tryd.func20, Tryd.ntmps20
        go_wp2_with (fail)
        go_ret
        exact ⟨by rw [HE.out]; rfl, XB.out⟩
      · have e3 : decide ((T.size : Int) ≤ 100) = false := decide_eq_false (by omega)
        have e3' : decide (T.size ≤ 100) = false := decide_eq_false b3
        have HE := Aside0.mk (show ansLight B Nm T = false from decide_eq_false (fun h => b3 h.2.2))
        clear b1 b2 b3
        go_enter Tryd.func20, Tryd.ntmps20
        go_wp2_with (fail)
        go_ret
        exact ⟨by rw [HE.out]; rfl, XB.out⟩
    · have e2 : decide ((Nm.length : Int) ≤ 20) = false := decide_eq_false (by omega)
      have e2' : decide (Nm.length ≤ 20) = false := decide_eq_false b2
      have HE := Aside0.mk (show ansLight B Nm T = false from decide_eq_false (fun h => b2 h.2.1))
      clear b1 b2
      go_enter Tryd.func20, Tryd.ntmps20
      go_wp2_with (fail)
      go_ret
      exact ⟨by rw [HE.out]; rfl, XB.out⟩
  · have e1 : decide ((B.length : Int) ≤ 100) = false := decide_eq_false (by omega)
    have e1' : decide (B.length ≤ 100) = false := decide_eq_false b1
    have HE := Aside0.mk (show ansLight B Nm T = false from decide_eq_false (fun h => b1 h.1))
    clear b1
    go_enter Tryd.func20, Tryd.ntmps20
    go_wp2_with (fail)
    go_ret
    exact ⟨by rw [HE.out]; rfl, XB.out⟩
theorem same37_self (F : Int) (B Nm : List Int) (T : ByteArray) (A1 A2 A3 A4 : Option Addr) (c1 c2 c3 c4 : Nat) (w : World) (hB : B.length ≤ 100000) (h8 : Bytes8 B) (hN : Nm.length ≤ 100000) (b1 : B.length ≤ c1) (b3 : B.length ≤ c3)
    (g1 : Kd.C (Kd.int .u8) w A1 B.length B) (g2 : Kd.C (Kd.int .i64) w A2 Nm.length Nm) (g3 : Kd.C (Kd.int .u8) w A3 B.length B) (g4 : Kd.C (Kd.int .i64) w A4 Nm.length Nm) :
    Calls Tryd.prog 23 #[.agg #[.int .i64 F, .slice A1 B.length c1, .slice A2 Nm.length c2, .string T], .agg #[.int .i64 F, .slice A3 B.length c3, .slice A4 Nm.length c4, .string T]] w fun e w' => e = .returned (.bool true) ∧ Below w.heap.size w w' := by
  have hu54 := Tryd.underlying54
  obtain ⟨o1, ho1⟩ : ∃ o : Obj, o = .cells #[.int .i64 F, .slice A1 B.length c1, .slice A2 Nm.length c2, .string T] 54 := ⟨_, rfl⟩
  have YB := Aside0.mk (below_alloc (below_alloc (Below.refl w.heap.size w) (.cells #[.int .i64 F, .slice A1 B.length c1, .slice A2 Nm.length c2, .string T] 54)) (.cells #[.int .i64 F, .slice A3 B.length c3, .slice A4 Nm.length c4, .string T] 54))
  have y0 := (Below.heap_alloc (w.alloc (.cells #[.int .i64 F, .slice A1 B.length c1, .slice A2 Nm.length c2, .string T] 54)) (.cells #[.int .i64 F, .slice A3 B.length c3, .slice A4 Nm.length c4, .string T] 54) w.heap.size (alloc_lt w _)).trans (heap_alloc_new w _)
  have y1 := heap_alloc_new (w.alloc (.cells #[.int .i64 F, .slice A1 B.length c1, .slice A2 Nm.length c2, .string T] 54)) (.cells #[.int .i64 F, .slice A3 B.length c3, .slice A4 Nm.length c4, .string T] 54)
  rw [size_alloc] at y1
  generalize hW : ((w.alloc (.cells #[.int .i64 F, .slice A1 B.length c1, .slice A2 Nm.length c2, .string T] 54)).alloc (.cells #[.int .i64 F, .slice A3 B.length c3, .slice A4 Nm.length c4, .string T] 54)) = W at YB y0 y1
  have SC := Aside0.mk (oublietteref01_Same.calls (0 + B.length + 1) A1 c1 B A3 c3 B true W (Kd.C_below g1 YB.out) b1 (Kd.C_below g3 YB.out) b3 ((ref_same2 B B h8 h8 (by omega) 0).trans (congrArg some (beq_self_eq_true _))))
  have Y0 := Aside0.mk y0
  have Y1 := Aside0.mk y1
  have G2 := Aside0.mk (Kd.C_below g2 YB.out)
  have G4 := Aside0.mk (Kd.C_below g4 YB.out)
  have HN := Aside0.mk hN
  subst hW
  have p0 := cell_of (o := 0) Y0.out rfl
  have p1 := cell_of (o := 1) Y0.out rfl
  have p2 := cell_of (o := 2) Y0.out rfl
  have p3 := cell_of (o := 3) Y0.out rfl
  have q0 := cell_of (o := 0) Y1.out rfl
  have q1 := cell_of (o := 1) Y1.out rfl
  have q2 := cell_of (o := 2) Y1.out rfl
  have q3 := cell_of (o := 3) Y1.out rfl
  have e0 : (F == F) = true := by simp
  clear y0 y1 g1 g2 g3 g4 b1 b3 hB h8 hN ho1
  go_enter Tryd.func23, Tryd.ntmps23
  go_wp2_with (fail)
  refine SC.out.mono ?_
  rintro _ w4 ⟨rfl, hd4⟩
  have hb4 := hd4.below
  clear hd4 p0 p1 p2 p3 q0 q1 q2 q3 SC
  have Z0 := Aside0.mk (blk_below Y0.out hb4)
  have Z1 := Aside0.mk (blk_below Y1.out hb4)
  have ZB := Aside0.mk (YB.out.trans (hb4.mono YB.out.size))
  have IC := Aside0.mk (ints_self A2 A4 c2 c4 Nm w4 HN.out (Kd.C_below G2.out hb4) (Kd.C_below G4.out hb4))
  clear hb4 Y0 Y1 YB G2 G4
  have p2 := cell_of (o := 2) Z0.out rfl
  have q2 := cell_of (o := 2) Z1.out rfl
  go_wp2_with (fail)
  refine IC.out.mono ?_
  rintro _ w5 ⟨rfl, hb5⟩
  have V0 := Aside0.mk (blk_below Z0.out hb5)
  have V1 := Aside0.mk (blk_below Z1.out hb5)
  have VB := Aside0.mk (ZB.out.trans (hb5.mono ZB.out.size))
  clear hb5 p2 q2 Z0 Z1 ZB IC
  have p3 := cell_of (o := 3) V0.out rfl
  have q3 := cell_of (o := 3) V1.out rfl
  go_wp2_with (fail)
  go_ret
  exact ⟨by simp, VB.out⟩
end Go.Proofs.YtdcknajlioalgaaDoor.QD
namespace Go.Proofs.YtdcknajlioalgaaDoor.QD
open Go.RowKit Go.Proofs.YtdcknajlioalgaaDoorW.PrintWords Go.Proofs.YtdcknajlioalgaaDoorW.PrintLast Go.Proofs.YtdcknajlioalgaaDoorW.PrintMore Go.Proofs.YtdcknajlioalgaaDoor.Hex
set_option linter.unusedVariables false
set_option linter.unusedSimpArgs false
theorem eq_of_same {a b : OpV} (ha : Bytes8 a.X) (hb : Bytes8 b.X) (h : a.same b = true) : a = b := by
  have h1 := OpV.same_eq a b
  rw [h] at h1
  obtain ⟨K, G, I, E, S, N, V, X⟩ := a
  obtain ⟨K', G', I', E', S', N', V', X'⟩ := b
  have hx := same_bytes X X' ha hb
  unfold op_same.f num_Same.f bytes_Equal.f at h1
  rw [show ((strOfNums X).toList == (strOfNums X').toList) = decide (X = X') from hx] at h1
  by_cases c1 : K = K'
  case neg => rw [if_neg c1] at h1; cases h1
  rw [if_pos c1] at h1
  by_cases c2 : G.toList = G'.toList
  case neg => rw [if_neg c2] at h1; cases h1
  rw [if_pos c2] at h1
  by_cases c3 : I.toList = I'.toList
  case neg => rw [if_neg c3] at h1; cases h1
  rw [if_pos c3] at h1
  by_cases c4 : E = E'
  case neg => rw [if_neg c4] at h1; cases h1
  rw [if_pos c4] at h1
  by_cases c5 : S = S'
  case neg => rw [if_neg c5] at h1; cases h1
  rw [if_pos c5] at h1
  by_cases c6 : N = N'
  case neg => rw [if_neg c6] at h1; cases h1
  rw [if_pos c6] at h1
  by_cases c7 : V = V'
  case neg => rw [if_neg c7] at h1; cases h1
  rw [if_pos c7] at h1
  have c8 : X = X' := of_decide_eq_true (Option.some.inj h1)
  rw [tl_iff] at c2 c3
  subst c1 c2 c3 c4 c5 c6 c7 c8
  rfl
theorem print_parse {o : OpV} {t : ByteArray} (h8 : Bytes8 o.X) (h : opPrint o = some (t, 0)) : opParse t = some (o, 0) := by
  unfold opPrint at h
  split at h
  · have := (Prod.mk.inj (Option.some.inj h)).2; cases this
  obtain ⟨ws, _, h2⟩ := Option.bind_eq_some_iff.1 h
  split at h2
  case isFalse => cases h2
  obtain ⟨r, hr, h3⟩ := Option.bind_eq_some_iff.1 h2
  split at h3
  case isFalse => have := (Prod.mk.inj (Option.some.inj h3)).2; cases this
  rename_i hz
  split at h3
  case isFalse => have := (Prod.mk.inj (Option.some.inj h3)).2; cases this
  rename_i hs
  obtain ⟨rfl, _⟩ := Prod.mk.inj (Option.some.inj h3)
  have he := eq_of_same h8 (opParse_bytes _ _ hr) hs
  rw [hr, he, ← hz]
set_option maxHeartbeats 4000000 in
set_option maxRecDepth 100000 in
theorem opBack_calls (o : OpV) (A : Option Addr) (c : Nat) (F : Int) (B Nm : List Int) (T : ByteArray) (A1 A2 : Option Addr) (c1 c2 : Nat) (s : ByteArray) (w : World) (HLD : Laid w) (hr : Kd.C (Kd.int .u8) w A o.X.length o.X) (hc : o.X.length ≤ c) (h8 : Bytes8 o.X)
    (hr1 : Kd.C (Kd.int .u8) w A1 B.length B) (hc1 : B.length ≤ c1) (h81 : Bytes8 B) (hr2 : Kd.C (Kd.int .i64) w A2 Nm.length Nm) (hc2 : Nm.length ≤ c2) :
    Calls Tryd.prog 5 #[.agg (o.cells (.slice A o.X.length c)), .agg #[.int .i64 F, .slice A1 B.length c1, .slice A2 Nm.length c2, .string T], .string s] w fun e w' => e = .returned (.bool true) ∧ Below w.heap.size w w' := by
  have hu28 := Tryd.underlying28
  have hu47 := Tryd.underlying47
  have hu54 := Tryd.underlying54
  have HL := Aside0.mk HLD
  have HR := Aside0.mk hr
  have HC := Aside0.mk hc
  have H8 := Aside0.mk h8
  have HR1 := Aside0.mk hr1
  have HC1 := Aside0.mk hc1
  have H81 := Aside0.mk h81
  have HR2 := Aside0.mk hr2
  have HC2 := Aside0.mk hc2
  clear HLD hr hc h8 hr1 hc1 h81 hr2 hc2
  obtain ⟨K, G, I, E, S, N, V, X⟩ := o
  change Aside0 (Kd.C (Kd.int .u8) w A X.length X) at HR
  change Aside0 (X.length ≤ c) at HC
  change Aside0 (Bytes8 X) at H8
  have x0 := (Below.heap_alloc (w.alloc (.cells #[.int .i64 K, .string G, .string I, .int .i64 E, .int .i64 S, .int .i64 N, .int .i64 V, .slice A X.length c] 28)) (.cells #[.int .i64 F, .slice A1 B.length c1, .slice A2 Nm.length c2, .string T] 54) w.heap.size (alloc_lt w _)).trans (heap_alloc_new w (.cells #[.int .i64 K, .string G, .string I, .int .i64 E, .int .i64 S, .int .i64 N, .int .i64 V, .slice A X.length c] 28))
  have x1 := heap_alloc_new (w.alloc (.cells #[.int .i64 K, .string G, .string I, .int .i64 E, .int .i64 S, .int .i64 N, .int .i64 V, .slice A X.length c] 28)) (.cells #[.int .i64 F, .slice A1 B.length c1, .slice A2 Nm.length c2, .string T] 54)
  rw [size_alloc] at x1
  have X0 := Aside0.mk x0
  have Y0 := Aside0.mk ((Below.heap_alloc ((w.alloc (.cells #[.int .i64 K, .string G, .string I, .int .i64 E, .int .i64 S, .int .i64 N, .int .i64 V, .slice A X.length c] 28)).alloc (.cells #[.int .i64 F, .slice A1 B.length c1, .slice A2 Nm.length c2, .string T] 54)) (.cells #[.int .i64 K, .string G, .string I, .int .i64 E, .int .i64 S, .int .i64 N, .int .i64 V, .slice A X.length c] 28) w.heap.size (blk_lt x0)).trans x0)
  have Y1 := Aside0.mk ((Below.heap_alloc ((w.alloc (.cells #[.int .i64 K, .string G, .string I, .int .i64 E, .int .i64 S, .int .i64 N, .int .i64 V, .slice A X.length c] 28)).alloc (.cells #[.int .i64 F, .slice A1 B.length c1, .slice A2 Nm.length c2, .string T] 54)) (.cells #[.int .i64 K, .string G, .string I, .int .i64 E, .int .i64 S, .int .i64 N, .int .i64 V, .slice A X.length c] 28) (w.heap.size + 1) (blk_lt x1)).trans x1)
  have YB := Aside0.mk (below_alloc (below_alloc (below_alloc (Below.refl w.heap.size w) (.cells #[.int .i64 K, .string G, .string I, .int .i64 E, .int .i64 S, .int .i64 N, .int .i64 V, .slice A X.length c] 28)) (.cells #[.int .i64 F, .slice A1 B.length c1, .slice A2 Nm.length c2, .string T] 54)) (.cells #[.int .i64 K, .string G, .string I, .int .i64 E, .int .i64 S, .int .i64 N, .int .i64 V, .slice A X.length c] 28))
  have y2 := heap_alloc_new ((w.alloc (.cells #[.int .i64 K, .string G, .string I, .int .i64 E, .int .i64 S, .int .i64 N, .int .i64 V, .slice A X.length c] 28)).alloc (.cells #[.int .i64 F, .slice A1 B.length c1, .slice A2 Nm.length c2, .string T] 54)) (.cells #[.int .i64 K, .string G, .string I, .int .i64 E, .int .i64 S, .int .i64 N, .int .i64 V, .slice A X.length c] 28)
  rw [size_alloc, size_alloc] at y2
  have LT := Aside0.mk (oubliettelaw37_Light.calls 3 (some ⟨w.heap.size + 1 + 1, 0, none⟩) 1 [OpV.rec28 ⟨K, G, I, E, S, N, V, X⟩] (OpV.light ⟨K, G, I, E, S, N, V, X⟩) (((w.alloc (.cells #[.int .i64 K, .string G, .string I, .int .i64 E, .int .i64 S, .int .i64 N, .int .i64 V, .slice A X.length c] 28)).alloc (.cells #[.int .i64 F, .slice A1 B.length c1, .slice A2 Nm.length c2, .string T] 54)).alloc (.cells #[.int .i64 K, .string G, .string I, .int .i64 E, .int .i64 S, .int .i64 N, .int .i64 V, .slice A X.length c] 28)) (one28 _ ⟨K, G, I, E, S, N, V, X⟩ A c (w.heap.size + 1 + 1) HC.out (Kd.C_below HR.out YB.out) y2) (Nat.le_refl _) (light_eq ⟨K, G, I, E, S, N, V, X⟩))
  clear x0 x1 y2
  go_enter Tryd.func5, Tryd.ntmps5
  go_wp2_with (first
    | ((with_reducible refine gate_ (.load 28 (.tmp 3)) rfl ?_); go_loud (refine wpList_load_row rfl 28 (.tmp 3) rfl w.heap.size rfl 28 #[.int .i64 K, .string G, .string I, .int .i64 E, .int .i64 S, .int .i64 N, .int .i64 V, .slice A X.length c] (0, 0) _ X0.out hu28 rfl (by kernel_rfl) ?_)))
  refine LT.out.mono ?_
  rintro _ w2 ⟨rfl, hd⟩
  have hb := hd.below
  have Z0P := Aside0.mk (blk_below Y0.out hb)
  have Z1P := Aside0.mk (blk_below Y1.out hb)
  have ZBP := Aside0.mk (YB.out.trans (hb.mono YB.out.size))
  clear hd hb X0 Y0 Y1 YB LT
  by_cases hlt : OpV.light ⟨K, G, I, E, S, N, V, X⟩ = true
  case neg =>
    have ZBQ := ZBP
    have AL := Aside0.mk (alive_calls w2 (HL.out.below ZBQ.out))
    have hl0 : OpV.light ⟨K, G, I, E, S, N, V, X⟩ = false := by simpa using hlt
    rw [hl0]
    clear hlt
    go_wp2_with (fail)
    refine AL.out.mono ?_
    rintro _ wE ⟨rfl, hbE⟩
    have MB := Aside0.mk (ZBQ.out.trans (hbE.mono ZBQ.out.size))
    clear hbE
    go_wp2_with (fail)
    go_ret
    exact ⟨rfl, MB.out⟩
  rw [hlt]
  unfold OpV.light at hlt
  have hlt2 : G.size ≤ 100 ∧ I.size ≤ 100 ∧ X.length ≤ 100 := of_decide_eq_true hlt
  have HLT := Aside0.mk hlt2
  clear hlt hlt2
  have LC := Aside0.mk (light_calls F B Nm T A1 A2 c1 c2 w2)
  have p0 : (w2).cell? ⟨(w.heap.size + 1), 0, none⟩ = some (.int .i64 F) := cell_of Z1P.out rfl
  have p1 : (w2).cell? ⟨(w.heap.size + 1), 1, none⟩ = some (.slice A1 B.length c1) := cell_of Z1P.out rfl
  have p2 : (w2).cell? ⟨(w.heap.size + 1), 2, none⟩ = some (.slice A2 Nm.length c2) := cell_of Z1P.out rfl
  have p3 : (w2).cell? ⟨(w.heap.size + 1), 3, none⟩ = some (.string T) := cell_of Z1P.out rfl
  go_wp2_with (fail)
  refine LC.out.mono ?_
  rintro _ w3 ⟨rfl, hb3⟩
  have Z0Q := Aside0.mk (blk_below Z0P.out hb3)
  have Z1Q := Aside0.mk (blk_below Z1P.out hb3)
  have ZBQ := Aside0.mk (ZBP.out.trans (hb3.mono ZBP.out.size))
  clear hb3 Z0P Z1P ZBP p0 p1 p2 p3 LC
  have AL := Aside0.mk (alive_calls w3 (HL.out.below ZBQ.out))
  by_cases hlt : ansLight B Nm T = true
  case neg =>
    have hl0 : ansLight B Nm T = false := by simpa using hlt
    rw [hl0]
    clear hlt
    go_wp2_with (fail)
    refine AL.out.mono ?_
    rintro _ wE ⟨rfl, hbE⟩
    have MB := Aside0.mk (ZBQ.out.trans (hbE.mono ZBQ.out.size))
    clear hbE
    go_wp2_with (fail)
    go_ret
    exact ⟨rfl, MB.out⟩
  rw [hlt]
  unfold ansLight at hlt
  have hlt2 : B.length ≤ 100 ∧ Nm.length ≤ 20 ∧ T.size ≤ 100 := of_decide_eq_true hlt
  have HLA := Aside0.mk hlt2
  clear hlt hlt2
  by_cases hs : s.size ≤ 300
  case neg =>
    have e1 : decide ((s.size : Int) > 300) = true := decide_eq_true (by omega)
    have e2 : decide (300 < (s.size : Int)) = true := e1
    have e3 : decide (300 < s.size) = true := decide_eq_true (by omega)
    go_wp2_with (fail)
    refine AL.out.mono ?_
    rintro _ wE ⟨rfl, hbE⟩
    have MB := Aside0.mk (ZBQ.out.trans (hbE.mono ZBQ.out.size))
    clear hbE
    go_wp2_with (fail)
    go_ret
    exact ⟨rfl, MB.out⟩
  have e1 : decide ((s.size : Int) > 300) = false := decide_eq_false (by omega)
  have e2 : decide (300 < (s.size : Int)) = false := e1
  have e3 : decide (300 < s.size) = false := decide_eq_false (by omega)
  have HS := Aside0.mk hs
  clear hs
  obtain ⟨⟨rp, fp⟩, hp, _⟩ := ref_opPrint ⟨K, G, I, E, S, N, V, X⟩ (by have := HLT.out; show G.size ≤ 200; omega) (by have := HLT.out; show I.size ≤ 200; omega) H8.out (by have := HLT.out; show X.length ≤ 1000; omega) 0
  have P1 := Aside0.mk (opPrint_calls ⟨K, G, I, E, S, N, V, X⟩ A c rp fp w3 (HL.out.below ZBQ.out) (Kd.C_below HR.out ZBQ.out) HC.out hp)
  have HP := Aside0.mk hp
  clear hp AL
  go_wp2_with (first
    | ((with_reducible refine gate_ (.load 28 (.tmp 3)) rfl ?_); go_loud (refine wpList_load_row rfl 28 (.tmp 3) rfl w.heap.size rfl 28 #[.int .i64 K, .string G, .string I, .int .i64 E, .int .i64 S, .int .i64 N, .int .i64 V, .slice A X.length c] (0, 0) _ Z0Q.out hu28 rfl (by kernel_rfl) ?_)))
  refine P1.out.mono ?_
  rintro _ w4 ⟨rfl, hb4⟩
  have Z0R := Aside0.mk (blk_below Z0Q.out hb4)
  have Z1R := Aside0.mk (blk_below Z1Q.out hb4)
  have ZBR := Aside0.mk (ZBQ.out.trans (hb4.mono ZBQ.out.size))
  clear hb4 Z0Q Z1Q ZBQ P1 e1 e2 e3
  go_upto_if 41 with (fail)
  go_cut [6] (fun s6 wx => s6 = .bool false ∧ Aside0 (wx.heap[w.heap.size]? = some (.cells #[.int .i64 K, .string G, .string I, .int .i64 E, .int .i64 S, .int .i64 N, .int .i64 V, .slice A X.length c] 28 (0, 0))) ∧ Aside0 (wx.heap[w.heap.size + 1]? = some (.cells #[.int .i64 F, .slice A1 B.length c1, .slice A2 Nm.length c2, .string T] 54 (0, 0))) ∧ Aside0 (Below w.heap.size w wx))
  case first =>
    by_cases hf : fp = 0
    case neg =>
      have e1 : (fp == 0) = false := by simpa using hf
      clear hf
      go_wp2_with (fail)
      go_meet
      case rel => exact ⟨rfl, Z0R, Z1R, ZBR⟩
    have e1 : (fp == 0) = true := by simpa using hf
    have hq : opParse rp = some (⟨K, G, I, E, S, N, V, X⟩, 0) := print_parse H8.out (by rw [← hf]; exact HP.out)
    have P4 := Aside0.mk (opParse_calls rp ⟨K, G, I, E, S, N, V, X⟩ 0 w4 (HL.out.below ZBR.out) hq)
    clear hf hq
    go_wp2_with (fail)
    refine P4.out.mono ?_
    rintro _ w5 ⟨v5, rfl, hr5, hb5⟩
    obtain ⟨A5, c5, rfl, hc5, hC5⟩ := Kd.R_reads hr5
    change X.length ≤ c5 at hc5
    change Kd.C (Kd.int .u8) w5 A5 X.length X at hC5
    have HC5 := Aside0.mk hc5
    have C5 := Aside0.mk (Kd.C_alloc hC5 (.cells #[.int .i64 K, .string G, .string I, .int .i64 E, .int .i64 S, .int .i64 N, .int .i64 V, .slice A5 X.length c5] 28))
    have D5 := Aside0.mk (heap_alloc_new w5 (.cells #[.int .i64 K, .string G, .string I, .int .i64 E, .int .i64 S, .int .i64 N, .int .i64 V, .slice A5 X.length c5] 28))
    have Z05 := Aside0.mk ((Below.heap_alloc w5 (.cells #[.int .i64 K, .string G, .string I, .int .i64 E, .int .i64 S, .int .i64 N, .int .i64 V, .slice A5 X.length c5] 28) _ (blk_lt (blk_below Z0R.out hb5))).trans (blk_below Z0R.out hb5))
    have Z15 := Aside0.mk ((Below.heap_alloc w5 (.cells #[.int .i64 K, .string G, .string I, .int .i64 E, .int .i64 S, .int .i64 N, .int .i64 V, .slice A5 X.length c5] 28) _ (blk_lt (blk_below Z1R.out hb5))).trans (blk_below Z1R.out hb5))
    have ZB5 := Aside0.mk (below_alloc (ZBR.out.trans (hb5.mono ZBR.out.size)) (.cells #[.int .i64 K, .string G, .string I, .int .i64 E, .int .i64 S, .int .i64 N, .int .i64 V, .slice A5 X.length c5] 28))
    clear hr5 hb5 hc5 hC5 P4 Z0R Z1R ZBR
    have SM := Aside0.mk (oublietteref39_Same.calls _ K G I E S N V A5 c5 X K G I E S N V A c X true (w5.alloc (.cells #[.int .i64 K, .string G, .string I, .int .i64 E, .int .i64 S, .int .i64 N, .int .i64 V, .slice A5 X.length c5] 28)) C5.out HC5.out (Kd.C_below HR.out ZB5.out) HC.out
      ((ref_same ⟨K, G, I, E, S, N, V, X⟩ ⟨K, G, I, E, S, N, V, X⟩ H8.out H8.out (by have := HLT.out; show X.length ≤ 1000000; omega) 0).trans (congrArg some (same_self ⟨K, G, I, E, S, N, V, X⟩))))
    have p0 : ((w5.alloc (.cells #[.int .i64 K, .string G, .string I, .int .i64 E, .int .i64 S, .int .i64 N, .int .i64 V, .slice A5 X.length c5] 28))).cell? ⟨w5.heap.size, 0, none⟩ = some (.int .i64 K) := cell_of D5.out rfl
    have p1 : ((w5.alloc (.cells #[.int .i64 K, .string G, .string I, .int .i64 E, .int .i64 S, .int .i64 N, .int .i64 V, .slice A5 X.length c5] 28))).cell? ⟨w5.heap.size, 1, none⟩ = some (.string G) := cell_of D5.out rfl
    have p2 : ((w5.alloc (.cells #[.int .i64 K, .string G, .string I, .int .i64 E, .int .i64 S, .int .i64 N, .int .i64 V, .slice A5 X.length c5] 28))).cell? ⟨w5.heap.size, 2, none⟩ = some (.string I) := cell_of D5.out rfl
    have p3 : ((w5.alloc (.cells #[.int .i64 K, .string G, .string I, .int .i64 E, .int .i64 S, .int .i64 N, .int .i64 V, .slice A5 X.length c5] 28))).cell? ⟨w5.heap.size, 3, none⟩ = some (.int .i64 E) := cell_of D5.out rfl
    have p4 : ((w5.alloc (.cells #[.int .i64 K, .string G, .string I, .int .i64 E, .int .i64 S, .int .i64 N, .int .i64 V, .slice A5 X.length c5] 28))).cell? ⟨w5.heap.size, 4, none⟩ = some (.int .i64 S) := cell_of D5.out rfl
    have p5 : ((w5.alloc (.cells #[.int .i64 K, .string G, .string I, .int .i64 E, .int .i64 S, .int .i64 N, .int .i64 V, .slice A5 X.length c5] 28))).cell? ⟨w5.heap.size, 5, none⟩ = some (.int .i64 N) := cell_of D5.out rfl
    have p6 : ((w5.alloc (.cells #[.int .i64 K, .string G, .string I, .int .i64 E, .int .i64 S, .int .i64 N, .int .i64 V, .slice A5 X.length c5] 28))).cell? ⟨w5.heap.size, 6, none⟩ = some (.int .i64 V) := cell_of D5.out rfl
    have p7 : ((w5.alloc (.cells #[.int .i64 K, .string G, .string I, .int .i64 E, .int .i64 S, .int .i64 N, .int .i64 V, .slice A5 X.length c5] 28))).cell? ⟨w5.heap.size, 7, none⟩ = some (.slice A5 X.length c5) := cell_of D5.out rfl
    have q0 : ((w5.alloc (.cells #[.int .i64 K, .string G, .string I, .int .i64 E, .int .i64 S, .int .i64 N, .int .i64 V, .slice A5 X.length c5] 28))).cell? ⟨w.heap.size, 0, none⟩ = some (.int .i64 K) := cell_of Z05.out rfl
    have q1 : ((w5.alloc (.cells #[.int .i64 K, .string G, .string I, .int .i64 E, .int .i64 S, .int .i64 N, .int .i64 V, .slice A5 X.length c5] 28))).cell? ⟨w.heap.size, 1, none⟩ = some (.string G) := cell_of Z05.out rfl
    have q2 : ((w5.alloc (.cells #[.int .i64 K, .string G, .string I, .int .i64 E, .int .i64 S, .int .i64 N, .int .i64 V, .slice A5 X.length c5] 28))).cell? ⟨w.heap.size, 2, none⟩ = some (.string I) := cell_of Z05.out rfl
    have q3 : ((w5.alloc (.cells #[.int .i64 K, .string G, .string I, .int .i64 E, .int .i64 S, .int .i64 N, .int .i64 V, .slice A5 X.length c5] 28))).cell? ⟨w.heap.size, 3, none⟩ = some (.int .i64 E) := cell_of Z05.out rfl
    have q4 : ((w5.alloc (.cells #[.int .i64 K, .string G, .string I, .int .i64 E, .int .i64 S, .int .i64 N, .int .i64 V, .slice A5 X.length c5] 28))).cell? ⟨w.heap.size, 4, none⟩ = some (.int .i64 S) := cell_of Z05.out rfl
    have q5 : ((w5.alloc (.cells #[.int .i64 K, .string G, .string I, .int .i64 E, .int .i64 S, .int .i64 N, .int .i64 V, .slice A5 X.length c5] 28))).cell? ⟨w.heap.size, 5, none⟩ = some (.int .i64 N) := cell_of Z05.out rfl
    have q6 : ((w5.alloc (.cells #[.int .i64 K, .string G, .string I, .int .i64 E, .int .i64 S, .int .i64 N, .int .i64 V, .slice A5 X.length c5] 28))).cell? ⟨w.heap.size, 6, none⟩ = some (.int .i64 V) := cell_of Z05.out rfl
    have q7 : ((w5.alloc (.cells #[.int .i64 K, .string G, .string I, .int .i64 E, .int .i64 S, .int .i64 N, .int .i64 V, .slice A5 X.length c5] 28))).cell? ⟨w.heap.size, 7, none⟩ = some (.slice A X.length c) := cell_of Z05.out rfl
    go_wp2_with (first
      | ((with_reducible refine gate_ (.store 28 (.tmp 9) (.tmp 45)) rfl ?_); go_loud (refine wpList_store_row rfl 28 (.tmp 9) (.tmp 45) rfl w5.heap.size #[.int .i64 K, .string G, .string I, .int .i64 E, .int .i64 S, .int .i64 N, .int .i64 V, .slice A5 X.length c5] rfl rfl 28 _ (heap_alloc_new _ _) (by kernel_rfl) rfl (by kernel_rfl) ?_); rw [World.setRow_alloc_new]))
    refine SM.out.mono ?_
    rintro _ w6 ⟨rfl, hb6⟩
    have Z06 := Aside0.mk (blk_below Z05.out hb6)
    have Z16 := Aside0.mk (blk_below Z15.out hb6)
    have ZB6 := Aside0.mk (ZB5.out.trans (hb6.mono ZB5.out.size))
    clear hb6 Z05 Z15 ZB5 SM D5 C5 p0 q0 p1 q1 p2 q2 p3 q3 p4 q4 p5 q5 p6 q6 p7 q7
    go_wp2_with (fail)
    go_meet
    case rel => exact ⟨rfl, Z06, Z16, ZB6⟩
  case rest =>
  clear Z0R Z1R ZBR
  obtain ⟨rfl, Z0A, Z1A, ZBA⟩ := hcut
  obtain ⟨t, ht⟩ := tell_total F B Nm T (by have := HLA.out; omega) H81.out (by have := HLA.out; omega) (by have := HLA.out; omega)
  have TC := Aside0.mk (tell_calls F B Nm T A1 A2 c1 c2 t wc (HL.out.below ZBA.out) (Kd.C_below HR1.out ZBA.out) HC1.out (Kd.C_below HR2.out ZBA.out) HC2.out ht)
  have HT := Aside0.mk ht
  clear ht
  go_wp2_with (first
    | ((with_reducible refine gate_ (.load 54 (.tmp 4)) rfl ?_); go_loud (refine wpList_load_row rfl 54 (.tmp 4) rfl (w.heap.size + 1) rfl 54 #[.int .i64 F, .slice A1 B.length c1, .slice A2 Nm.length c2, .string T] (0, 0) _ Z1A.out hu54 rfl (by kernel_rfl) ?_)))
  refine TC.out.mono ?_
  rintro _ w7 ⟨rfl, hb7⟩
  have Z0B := Aside0.mk (blk_below Z0A.out hb7)
  have Z1B := Aside0.mk (blk_below Z1A.out hb7)
  have ZBB := Aside0.mk (ZBA.out.trans (hb7.mono ZBA.out.size))
  clear hb7 Z0A Z1A ZBA TC HP
  go_upto_if 58 with (fail)
  go_cut [6] (fun s6 wx => s6 = .bool false ∧ Aside0 (wx.heap[w.heap.size]? = some (.cells #[.int .i64 K, .string G, .string I, .int .i64 E, .int .i64 S, .int .i64 N, .int .i64 V, .slice A X.length c] 28 (0, 0))) ∧ Aside0 (wx.heap[w.heap.size + 1]? = some (.cells #[.int .i64 F, .slice A1 B.length c1, .slice A2 Nm.length c2, .string T] 54 (0, 0))) ∧ Aside0 (Below w.heap.size w wx))
  case first =>
    by_cases hte : t = ⟨#[]⟩
    case pos =>
      have e0 : t.toList.isEmpty = true := by rw [hte, Lib.toList_data]; rfl
      have e00 : (!t.toList.isEmpty) = false := by rw [e0]; rfl
      clear hte
      rw [e00]
      go_wp2_with (fail)
      go_meet
      case rel => exact ⟨rfl, Z0B, Z1B, ZBB⟩
    have e0 := isEmpty_false hte
    have e00 : (!t.toList.isEmpty) = true := by rw [e0]; rfl
    obtain ⟨a, hra, haF, ha0⟩ := tell_read H81.out (by have := HLA.out; omega) HT.out hte
    have RC := Aside0.mk (read_calls t a 0 w7 (HL.out.below ZBB.out) hra)
    clear hte hra
    rw [e00]
    go_wp2_with (fail)
    refine RC.out.mono ?_
    rintro _ w8 ⟨vB, vN, rfl, hrB, hrN, hb8⟩
    obtain ⟨F3, B3, N3, T3⟩ := a
    obtain rfl : F3 = F := haF
    obtain ⟨A3, c3, rfl, hc3, hC3⟩ := Kd.R_reads hrB
    obtain ⟨A4, c4, rfl, hc4, hC4⟩ := Kd.R_reads hrN
    change B3.length ≤ c3 at hc3
    change Kd.C (Kd.int .u8) w8 A3 B3.length B3 at hC3
    change Kd.C (Kd.int .i64) w8 A4 N3.length N3 at hC4
    have D8 := Aside0.mk (heap_alloc_new w8 (.cells #[.int .i64 F3, .slice A3 B3.length c3, .slice A4 N3.length c4, .string T3] 54))
    have Z08 := Aside0.mk ((Below.heap_alloc w8 (.cells #[.int .i64 F3, .slice A3 B3.length c3, .slice A4 N3.length c4, .string T3] 54) _ (blk_lt (blk_below Z0B.out hb8))).trans (blk_below Z0B.out hb8))
    have Z18 := Aside0.mk ((Below.heap_alloc w8 (.cells #[.int .i64 F3, .slice A3 B3.length c3, .slice A4 N3.length c4, .string T3] 54) _ (blk_lt (blk_below Z1B.out hb8))).trans (blk_below Z1B.out hb8))
    have ZB8 := Aside0.mk (below_alloc (ZBB.out.trans (hb8.mono ZBB.out.size)) (.cells #[.int .i64 F3, .slice A3 B3.length c3, .slice A4 N3.length c4, .string T3] 54))
    have G3 := Aside0.mk (Kd.C_alloc hC3 (.cells #[.int .i64 F3, .slice A3 B3.length c3, .slice A4 N3.length c4, .string T3] 54))
    have G4 := Aside0.mk (Kd.C_alloc hC4 (.cells #[.int .i64 F3, .slice A3 B3.length c3, .slice A4 N3.length c4, .string T3] 54))
    have HC3 := Aside0.mk hc3
    clear hrB hrN hb8 hc3 hc4 hC3 hC4 RC Z0B Z1B ZBB e0 e00
    have en : (F3 != F3) = false := by simp
    have p0 : ((w8.alloc (.cells #[.int .i64 F3, .slice A3 B3.length c3, .slice A4 N3.length c4, .string T3] 54))).cell? ⟨w8.heap.size, 0, none⟩ = some (.int .i64 F3) := cell_of D8.out rfl
    have p1 : ((w8.alloc (.cells #[.int .i64 F3, .slice A3 B3.length c3, .slice A4 N3.length c4, .string T3] 54))).cell? ⟨w8.heap.size, 1, none⟩ = some (.slice A3 B3.length c3) := cell_of D8.out rfl
    have p2 : ((w8.alloc (.cells #[.int .i64 F3, .slice A3 B3.length c3, .slice A4 N3.length c4, .string T3] 54))).cell? ⟨w8.heap.size, 2, none⟩ = some (.slice A4 N3.length c4) := cell_of D8.out rfl
    have p3 : ((w8.alloc (.cells #[.int .i64 F3, .slice A3 B3.length c3, .slice A4 N3.length c4, .string T3] 54))).cell? ⟨w8.heap.size, 3, none⟩ = some (.string T3) := cell_of D8.out rfl
    have q0 : ((w8.alloc (.cells #[.int .i64 F3, .slice A3 B3.length c3, .slice A4 N3.length c4, .string T3] 54))).cell? ⟨(w.heap.size + 1), 0, none⟩ = some (.int .i64 F3) := cell_of Z18.out rfl
    have q1 : ((w8.alloc (.cells #[.int .i64 F3, .slice A3 B3.length c3, .slice A4 N3.length c4, .string T3] 54))).cell? ⟨(w.heap.size + 1), 1, none⟩ = some (.slice A1 B.length c1) := cell_of Z18.out rfl
    have q2 : ((w8.alloc (.cells #[.int .i64 F3, .slice A3 B3.length c3, .slice A4 N3.length c4, .string T3] 54))).cell? ⟨(w.heap.size + 1), 2, none⟩ = some (.slice A2 Nm.length c2) := cell_of Z18.out rfl
    have q3 : ((w8.alloc (.cells #[.int .i64 F3, .slice A3 B3.length c3, .slice A4 N3.length c4, .string T3] 54))).cell? ⟨(w.heap.size + 1), 3, none⟩ = some (.string T) := cell_of Z18.out rfl
    by_cases hF : F3 = 0
    case neg =>
      have e1 : (F3 == 0) = false := by simpa using hF
      clear hF ha0
      go_wp2_with (first
        | ((with_reducible refine gate_ (.store 54 (.tmp 12) (.tmp 62)) rfl ?_); go_loud (refine wpList_store_row rfl 54 (.tmp 12) (.tmp 62) rfl w8.heap.size #[.int .i64 F3, .slice A3 B3.length c3, .slice A4 N3.length c4, .string T3] rfl rfl 54 _ (heap_alloc_new _ _) (by kernel_rfl) rfl (by kernel_rfl) ?_); rw [World.setRow_alloc_new]))
      go_meet
      case rel => exact ⟨rfl, Z08, Z18, ZB8⟩
    have e1 : (F3 == 0) = true := by simpa using hF
    obtain ⟨_, rfl, rfl, rfl⟩ := AnsV.mk.inj (ha0 hF)
    have SM := Aside0.mk (same37_self F3 B3 N3 T3 A3 A4 A1 A2 c3 c4 c1 c2 (w8.alloc (.cells #[.int .i64 F3, .slice A3 B3.length c3, .slice A4 N3.length c4, .string T3] 54)) (by have := HLA.out; omega) H81.out (by have := HLA.out; omega) HC3.out HC1.out G3.out G4.out (Kd.C_below HR1.out ZB8.out) (Kd.C_below HR2.out ZB8.out))
    clear hF ha0
    go_wp2_with (first
      | ((with_reducible refine gate_ (.store 54 (.tmp 12) (.tmp 62)) rfl ?_); go_loud (refine wpList_store_row rfl 54 (.tmp 12) (.tmp 62) rfl w8.heap.size #[.int .i64 F3, .slice A3 B3.length c3, .slice A4 N3.length c4, .string T3] rfl rfl 54 _ (heap_alloc_new _ _) (by kernel_rfl) rfl (by kernel_rfl) ?_); rw [World.setRow_alloc_new]))
    refine SM.out.mono ?_
    rintro _ w9 ⟨rfl, hb9⟩
    have Z09 := Aside0.mk (blk_below Z08.out hb9)
    have Z19 := Aside0.mk (blk_below Z18.out hb9)
    have ZB9 := Aside0.mk (ZB8.out.trans (hb9.mono ZB8.out.size))
    clear hb9 Z08 Z18 ZB8 SM D8 G3 G4 p0 q0 p1 q1 p2 q2 p3 q3
    go_wp2_with (fail)
    go_meet
    case rel => exact ⟨rfl, Z09, Z19, ZB9⟩
  case rest =>
  clear Z0B Z1B ZBB HT
  obtain ⟨rfl, Z0A, Z1A, ZBA⟩ := hcut
  obtain ⟨⟨o2, f2⟩, hq, _⟩ := ref_parse s (by have := HS.out; omega) 0
  have P4 := Aside0.mk (opParse_calls s o2 f2 wc (HL.out.below ZBA.out) hq)
  have HQ := Aside0.mk hq
  clear hq
  go_wp2_with (fail)
  refine P4.out.mono ?_
  rintro _ w5 ⟨v5, rfl, hr5, hb5⟩
  obtain ⟨A5, c5, rfl, hc5, hC5⟩ := Kd.R_reads hr5
  have HC5 := Aside0.mk hc5
  have C5 := Aside0.mk (Kd.C_alloc hC5 (.cells (o2.cells (.slice A5 o2.X.length c5)) 28))
  have D5 := Aside0.mk (heap_alloc_new w5 (.cells (o2.cells (.slice A5 o2.X.length c5)) 28))
  have Z0C := Aside0.mk ((Below.heap_alloc w5 (.cells (o2.cells (.slice A5 o2.X.length c5)) 28) _ (blk_lt (blk_below Z0A.out hb5))).trans (blk_below Z0A.out hb5))
  have Z1C := Aside0.mk ((Below.heap_alloc w5 (.cells (o2.cells (.slice A5 o2.X.length c5)) 28) _ (blk_lt (blk_below Z1A.out hb5))).trans (blk_below Z1A.out hb5))
  have ZBC := Aside0.mk (below_alloc (ZBA.out.trans (hb5.mono ZBA.out.size)) (.cells (o2.cells (.slice A5 o2.X.length c5)) 28))
  clear hr5 hb5 hc5 hC5 P4 Z0A Z1A ZBA
  go_upto_if 90 with (first
    | ((with_reducible refine gate_ (.store 28 (.tmp 14) (.tmp 87)) rfl ?_); go_loud (refine wpList_store_row rfl 28 (.tmp 14) (.tmp 87) rfl w5.heap.size (o2.cells (.slice A5 o2.X.length c5)) rfl rfl 28 _ (heap_alloc_new _ _) (by kernel_rfl) rfl (by kernel_rfl) ?_); rw [World.setRow_alloc_new]))
  go_cut [6] (fun s6 wx => s6 = .bool false ∧ Aside0 (wx.heap[w.heap.size]? = some (.cells #[.int .i64 K, .string G, .string I, .int .i64 E, .int .i64 S, .int .i64 N, .int .i64 V, .slice A X.length c] 28 (0, 0))) ∧ Aside0 (wx.heap[w.heap.size + 1]? = some (.cells #[.int .i64 F, .slice A1 B.length c1, .slice A2 Nm.length c2, .string T] 54 (0, 0))) ∧ Aside0 (Below w.heap.size w wx))
  case first =>
    by_cases hf : f2 = 0
    case neg =>
      have e1 : (f2 == 0) = false := by simpa using hf
      clear hf
      go_wp2_with (fail)
      go_meet
      case rel => exact ⟨rfl, Z0C, Z1C, ZBC⟩
    have e1 : (f2 == 0) = true := by simpa using hf
    have P6 := Aside0.mk (opPrint_calls o2 A5 c5 s 0 _ (HL.out.below ZBC.out) C5.out HC5.out (parse_print (by rw [← hf]; exact HQ.out)))
    have e5 : (s.toList != s.toList) = false := by simp
    clear hf
    go_wp2_with (first
      | ((with_reducible refine gate_ (.load 28 (.tmp 14)) rfl ?_); go_loud (refine wpList_load_row rfl 28 (.tmp 14) rfl w5.heap.size rfl 28 (o2.cells (.slice A5 o2.X.length c5)) (0, 0) _ D5.out hu28 rfl (by kernel_rfl) ?_)))
    refine P6.out.mono ?_
    rintro _ w6 ⟨rfl, hb6⟩
    have Z0D := Aside0.mk (blk_below Z0C.out hb6)
    have Z1D := Aside0.mk (blk_below Z1C.out hb6)
    have ZBD := Aside0.mk (ZBC.out.trans (hb6.mono ZBC.out.size))
    clear hb6 Z0C Z1C ZBC P6 D5 C5
    go_wp2_with (fail)
    go_meet
    case rel => exact ⟨rfl, Z0D, Z1D, ZBD⟩
  case rest =>
  clear Z0C Z1C ZBC C5 D5 HC5 HQ
  obtain ⟨rfl, Z0A, Z1A, ZBA⟩ := hcut
  obtain ⟨⟨a, fa⟩, hq⟩ := read_total s (by have := HS.out; omega)
  have RC := Aside0.mk (read_calls s a fa wc (HL.out.below ZBA.out) hq)
  have HQ := Aside0.mk hq
  clear hq
  go_wp2_with (fail)
  refine RC.out.mono ?_
  rintro _ w8 ⟨vB, vN, rfl, hrB, hrN, hb8⟩
  obtain ⟨F3, B3, N3, T3⟩ := a
  obtain ⟨A3, c3, rfl, hc3, hC3⟩ := Kd.R_reads hrB
  obtain ⟨A4, c4, rfl, hc4, hC4⟩ := Kd.R_reads hrN
  change B3.length ≤ c3 at hc3
  change N3.length ≤ c4 at hc4
  change Kd.C (Kd.int .u8) w8 A3 B3.length B3 at hC3
  change Kd.C (Kd.int .i64) w8 A4 N3.length N3 at hC4
  have D8 := Aside0.mk (heap_alloc_new w8 (.cells #[.int .i64 F3, .slice A3 B3.length c3, .slice A4 N3.length c4, .string T3] 54))
  have ZB8 := Aside0.mk (below_alloc (ZBA.out.trans (hb8.mono ZBA.out.size)) (.cells #[.int .i64 F3, .slice A3 B3.length c3, .slice A4 N3.length c4, .string T3] 54))
  have G3 := Aside0.mk (Kd.C_alloc hC3 (.cells #[.int .i64 F3, .slice A3 B3.length c3, .slice A4 N3.length c4, .string T3] 54))
  have G4 := Aside0.mk (Kd.C_alloc hC4 (.cells #[.int .i64 F3, .slice A3 B3.length c3, .slice A4 N3.length c4, .string T3] 54))
  have HC3 := Aside0.mk hc3
  have HC4 := Aside0.mk hc4
  clear hrB hrN hb8 hc3 hc4 hC3 hC4 RC Z0A Z1A ZBA
  have p0 : ((w8.alloc (.cells #[.int .i64 F3, .slice A3 B3.length c3, .slice A4 N3.length c4, .string T3] 54))).cell? ⟨w8.heap.size, 0, none⟩ = some (.int .i64 F3) := cell_of D8.out rfl
  have p1 : ((w8.alloc (.cells #[.int .i64 F3, .slice A3 B3.length c3, .slice A4 N3.length c4, .string T3] 54))).cell? ⟨w8.heap.size, 1, none⟩ = some (.slice A3 B3.length c3) := cell_of D8.out rfl
  have p2 : ((w8.alloc (.cells #[.int .i64 F3, .slice A3 B3.length c3, .slice A4 N3.length c4, .string T3] 54))).cell? ⟨w8.heap.size, 2, none⟩ = some (.slice A4 N3.length c4) := cell_of D8.out rfl
  have p3 : ((w8.alloc (.cells #[.int .i64 F3, .slice A3 B3.length c3, .slice A4 N3.length c4, .string T3] 54))).cell? ⟨w8.heap.size, 3, none⟩ = some (.string T3) := cell_of D8.out rfl
  by_cases hf : fa = 0
  case neg =>
    have e1 : (fa != 0) = true := bne_iff_ne.mpr hf
    have AL := Aside0.mk (alive_calls (w8.alloc (.cells #[.int .i64 F3, .slice A3 B3.length c3, .slice A4 N3.length c4, .string T3] 54)) (HL.out.below ZB8.out))
    clear hf
    go_wp2_with (first
      | ((with_reducible refine gate_ (.store 54 (.tmp 18) (.tmp 106)) rfl ?_); go_loud (refine wpList_store_row rfl 54 (.tmp 18) (.tmp 106) rfl w8.heap.size #[.int .i64 F3, .slice A3 B3.length c3, .slice A4 N3.length c4, .string T3] rfl rfl 54 _ (heap_alloc_new _ _) (by kernel_rfl) rfl (by kernel_rfl) ?_); rw [World.setRow_alloc_new]))
    refine AL.out.mono ?_
    rintro _ w9 ⟨rfl, hb9⟩
    have E9 := Aside0.mk (ZB8.out.trans (hb9.mono ZB8.out.size))
    clear hb9
    go_wp2_with (fail)
    go_ret
    exact ⟨rfl, E9.out⟩
  have e1 : (fa != 0) = false := by simpa using hf
  have hte := read_tell (a := ⟨F3, B3, N3, T3⟩) (by rw [← hf]; exact HQ.out)
  change tellP F3 B3 N3 T3 = some s at hte
  have TC := Aside0.mk (tell_calls F3 B3 N3 T3 A3 A4 c3 c4 s (w8.alloc (.cells #[.int .i64 F3, .slice A3 B3.length c3, .slice A4 N3.length c4, .string T3] 54)) (HL.out.below ZB8.out) G3.out HC3.out G4.out HC4.out hte)
  have e5 : (s.toList == s.toList) = true := by simp
  clear hte hf HQ
  go_wp2_with (first
    | ((with_reducible refine gate_ (.store 54 (.tmp 18) (.tmp 106)) rfl ?_); go_loud (refine wpList_store_row rfl 54 (.tmp 18) (.tmp 106) rfl w8.heap.size #[.int .i64 F3, .slice A3 B3.length c3, .slice A4 N3.length c4, .string T3] rfl rfl 54 _ (heap_alloc_new _ _) (by kernel_rfl) rfl (by kernel_rfl) ?_); rw [World.setRow_alloc_new]))
  refine TC.out.mono ?_
  rintro _ w9 ⟨rfl, hb9⟩
  have E9 := Aside0.mk (ZB8.out.trans (hb9.mono ZB8.out.size))
  clear hb9 TC G3 G4 p0 p1 p2 p3 D8
  have AL := Aside0.mk (alive_calls w9 (HL.out.below E9.out))
  go_wp2_with (fail)
  refine AL.out.mono ?_
  rintro _ wE ⟨rfl, hbE⟩
  have EE := Aside0.mk (E9.out.trans (hbE.mono E9.out.size))
  clear hbE AL
  go_wp2_with (fail)
  go_ret
  exact ⟨rfl, EE.out⟩
end Go.Proofs.YtdcknajlioalgaaDoor.QD
