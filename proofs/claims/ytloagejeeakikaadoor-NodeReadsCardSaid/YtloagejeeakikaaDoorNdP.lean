/- NodeWrites: what its callees compute agrees; the statement's function returns true. -/
import Derived.Test.YtloagejeeakikaaDoorNdW
import Derived.Test.YtloagejeeakikaaDoorNdQ
namespace Go.Proofs.YtloagejeeakikaaDoor.QB
open Go.RowKit Go.Proofs.YtloagejeeakikaaDoorW.PrintWords Go.Proofs.YtloagejeeakikaaDoorW.PrintLast Go.Proofs.YtloagejeeakikaaDoorW.PrintMore
open Go.Proofs.YtloagejeeakikaaDoor.Mem
set_option linter.unusedVariables false
set_option linter.unusedSimpArgs false
theorem wrap_next (i : Nat) (h : i ≤ 100000000) : wrap64 ((i : Int) + 1) = ((i + 1 : Nat) : Int) := by unfold wrap64; omega
theorem rd_row (l : List (List Int)) (i : Nat) (x : List Int) (h : l[i]? = some x) : rd_L1 l (i : Int) = x := by simp [rd_L1, List.getD_eq_getElem?_getD, h]
theorem drop_at (l : List (List Int)) (i : Nat) (x : List Int) (h : l[i]? = some x) : l.drop i = x :: l.drop (i + 1) := by
  obtain ⟨hi, e⟩ := List.getElem?_eq_some_iff.1 h
  rw [List.drop_eq_getElem_cons hi, e]
/-! ### light -/
def lightB (l : List (List Int)) : Bool := decide (l.length ≤ 20) && l.all fun r => decide (r.length ≤ 600)
theorem light_loop (l : List (List Int)) (hl : l.length ≤ 20) : ∀ (n i k : Nat), i + n = l.length → oubliettelaw28_light.l0 (k + n + 1) l i = some ((l.drop i).all fun r => decide (r.length ≤ 600))
  | 0, i, k, h => by
    rw [Nat.add_zero, oubliettelaw28_light.l0.eq_2, if_neg (by omega), List.drop_of_length_le (by omega)]
    rfl
  | n + 1, i, k, h => by
    obtain ⟨x, hx⟩ : ∃ x, l[i]? = some x := ⟨_, List.getElem?_eq_getElem (by omega)⟩
    rw [show k + (n + 1) + 1 = (k + n + 1) + 1 by omega, oubliettelaw28_light.l0.eq_2, if_pos (by omega), if_pos (by omega), rd_row l i x hx, drop_at l i x hx, List.all_cons]
    by_cases hb : x.length ≤ 600
    · rw [if_neg (by omega), wrap_next i (by omega), light_loop l hl n (i + 1) k (by omega), decide_eq_true hb, Bool.true_and]
    · rw [if_pos (by omega), decide_eq_false hb, Bool.false_and]
theorem light_f (l : List (List Int)) (k : Nat) (hk : 22 ≤ k) : oubliettelaw28_light.f k l = some (lightB l) := by
  unfold oubliettelaw28_light.f lightB
  by_cases hl : l.length ≤ 20
  · rw [if_neg (by omega), decide_eq_true hl, Bool.true_and]
    have := light_loop l hl l.length 0 (k - l.length - 1) (by omega)
    rw [show k - l.length - 1 + l.length + 1 = k by omega, List.drop_zero] at this
    exact this
  · rw [if_pos (by omega), decide_eq_false hl, Bool.false_and]
/-! ### Same -/
theorem same_loop (l : List Int) (hl : l.length ≤ 1000000) : ∀ (n i k : Nat), i + n = l.length → oublietteref01_Same.l0 (k + n + 1) l l i = some true
  | 0, i, k, h => by
    rw [Nat.add_zero, oublietteref01_Same.l0.eq_2, if_neg (by omega)]
  | n + 1, i, k, h => by
    rw [show k + (n + 1) + 1 = (k + n + 1) + 1 by omega, oublietteref01_Same.l0.eq_2, if_pos (by omega), if_pos (by omega), if_pos (by omega), if_pos rfl, wrap_next i (by omega), same_loop l hl n (i + 1) k (by omega)]
theorem same_refl (l : List Int) (hl : l.length ≤ 1000000) (k : Nat) (hk : l.length + 1 ≤ k) : oublietteref01_Same.f k l l = some true := by
  unfold oublietteref01_Same.f
  rw [if_pos rfl]
  have := same_loop l hl l.length 0 (k - l.length - 1) (by omega)
  rw [show k - l.length - 1 + l.length + 1 = k by omega] at this
  exact this
/-! ### Geometries -/
theorem least_eq (a b c : Int) : oublietteref21_Least.f a b c = geom_Least.f a b c := rfl
theorem geom_eq (a b c : Int) : oublietteref21_Right.f a b c = geom_Right.f a b c := by
  unfold oublietteref21_Right.f geom_Right.f
  rw [least_eq]
  obtain ⟨t, ht⟩ : ∃ t, geom_Least.f a b c = some t := by
    unfold geom_Least.f
    repeat' split
    all_goals exact ⟨_, rfl⟩
  rw [ht]
  rfl
theorem geom_some (a b c : Int) : ∃ t, geom_Right.f a b c = some t := by
  unfold geom_Right.f
  obtain ⟨t, ht⟩ : ∃ t, geom_Least.f a b c = some t := by
    unfold geom_Least.f
    repeat' split
    all_goals exact ⟨_, rfl⟩
  rw [ht, Option.bind_some]
  repeat' split
  all_goals exact ⟨_, rfl⟩
/-! ### Right and Bytes of the document -/
theorem rowBad_false {x : List Int} : rowBad x = false ↔ x.length = 0 ∨ x.length = 80 := by
  unfold rowBad
  rw [Bool.not_eq_false', Bool.or_eq_true, decide_eq_true_eq, decide_eq_true_eq]
theorem refRight_loop (l : List (List Int)) (hl : l.length ≤ 1000) (x y z : Int) (t : Bool) (ht : geom_Right.f x y z = some t) : ∀ (n i k : Nat), i + n = l.length →
    oublietteref28_Right.l0 (k + n + 1) l i x y z = some (!(l.drop i).any rowBad && (t && ((l.length : Int) == x)))
  | 0, i, k, h => by
    rw [Nat.add_zero, oublietteref28_Right.l0.eq_2, if_neg (by omega), List.drop_of_length_le (by omega), geom_eq, ht, Option.bind_some]
    cases t <;> simp
  | n + 1, i, k, h => by
    obtain ⟨r, hr⟩ : ∃ r, l[i]? = some r := ⟨_, List.getElem?_eq_getElem (by omega)⟩
    rw [show k + (n + 1) + 1 = (k + n + 1) + 1 by omega, oublietteref28_Right.l0.eq_2, if_pos (by omega), if_pos (by omega), rd_row l i r hr, drop_at l i r hr, List.any_cons]
    by_cases h0 : r.length = 0
    · rw [if_pos (by omega), wrap_next i (by omega), refRight_loop l hl x y z t ht n (i + 1) k (by omega), rowBad_false.2 (.inl h0), Bool.false_or]
    · rw [if_neg (by omega)]
      by_cases h1 : r.length = 80
      · rw [if_pos (by omega), wrap_next i (by omega), refRight_loop l hl x y z t ht n (i + 1) k (by omega), rowBad_false.2 (.inr h1), Bool.false_or]
      · rw [if_neg (by omega)]
        have : rowBad r = true := by
          cases hb : rowBad r with
          | true => rfl
          | false => rcases rowBad_false.1 hb with h | h <;> contradiction
        rw [this]
        simp
theorem refRight_f (l : List (List Int)) (hl : l.length ≤ 1000) (x y z : Int) (t : Bool) (ht : geom_Right.f x y z = some t) (k : Nat) (hk : 1002 ≤ k) : oublietteref28_Right.f k x y z l = some (!l.any rowBad && (t && ((l.length : Int) == x))) := by
  unfold oublietteref28_Right.f
  have := refRight_loop l hl x y z t ht l.length 0 (k - l.length - 1) (by omega)
  rw [show k - l.length - 1 + l.length + 1 = k by omega, List.drop_zero] at this
  exact this
theorem putB_two (n : Nat) (h : n ≤ 65535) : putB (n : Int) 2 = [(n : Int) / 256, (n : Int) % 256] := by
  have e : putB (n : Int) 2 = [(n : Int) / 2 ^ 8 % 256, (n : Int) / 2 ^ 0 % 256] := rfl
  rw [e]
  congr 1
  · omega
  · congr 1
    omega
theorem refBytes_loop (l : List (List Int)) (hl : l.length ≤ 1000) (hb : l.any rowBad = false) : ∀ (n i k : Nat) (acc : List Int) (b : Bool), i + n = l.length → acc.length ≤ 100 * i →
    oublietteref28_Bytes.l0 (k + n + 1) l acc b i = some (if (b || (l.drop i).any rowSome) = true then acc ++ encB (l.drop i) else [])
  | 0, i, k, acc, b, h, ha => by
    rw [Nat.add_zero, oublietteref28_Bytes.l0.eq_2, if_neg (by omega), List.drop_of_length_le (by omega)]
    cases b <;> simp [encB]
  | n + 1, i, k, acc, b, h, ha => by
    obtain ⟨r, hr⟩ : ∃ r, l[i]? = some r := ⟨_, List.getElem?_eq_getElem (by omega)⟩
    have hr80 : r.length = 0 ∨ r.length = 80 := by
      apply rowBad_false.1
      cases hq : rowBad r with
      | false => rfl
      | true => rw [List.any_eq_true.2 ⟨r, List.mem_of_getElem? hr, hq⟩] at hb; cases hb
    have hf := ref28_field.f_eq r (by omega)
    have hput := putB_two r.length (by omega)
    have henc : encB (r :: l.drop (i + 1)) = [(r.length : Int) / 256, (r.length : Int) % 256] ++ r ++ encB (l.drop (i + 1)) := by
      unfold encB
      rw [List.flatMap_cons, hput]
    rw [show k + (n + 1) + 1 = (k + n + 1) + 1 by omega, oublietteref28_Bytes.l0.eq_2, if_pos (by omega), if_pos (by omega), rd_row l i r hr, drop_at l i r hr, hf, Option.bind_some, if_pos (by simp; omega), Option.bind_some, wrap_next i (by omega)]
    have hlen : (acc ++ ([(r.length : Int) / 256, (r.length : Int) % 256] ++ r)).length ≤ 100 * (i + 1) := by simp; omega
    rw [henc, List.any_cons]
    cases b with
    | true =>
      rw [if_pos rfl, refBytes_loop l hl hb n (i + 1) k _ true (by omega) hlen]
      simp [List.append_assoc]
    | false =>
      rw [if_neg (by simp), refBytes_loop l hl hb n (i + 1) k _ _ (by omega) hlen]
      have : decide ((r.length : Int) > 0) = rowSome r := by unfold rowSome; rw [decide_eq_decide]; omega
      rw [this]
      simp [List.append_assoc]
theorem refBytes_f (l : List (List Int)) (hl : l.length ≤ 1000) (hb : l.any rowBad = false) (k : Nat) (hk : 1002 ≤ k) : oublietteref28_Bytes.f k l = some (if l.any rowSome = true then encB l else []) := by
  unfold oublietteref28_Bytes.f
  have := refBytes_loop l hl hb l.length 0 (k - l.length - 1) [] false (by omega) (by simp)
  rw [show k - l.length - 1 + l.length + 1 = k by omega, List.drop_zero] at this
  rw [Bool.false_or, List.nil_append] at this
  exact this
/-! ### Leaves -/
def leafOk (s : ByteArray) (l : List Int) : Bool := if s.toList = [] then decide (l.length = 0) else rightL (splitOf 46 s) && (decide (48 ≤ l.length) && decide (l.length ≤ 398))
theorem leaf_f (s : ByteArray) (l : List Int) (hs : s.size ≤ 100000) : node_leaf.f s l = some (leafOk s l) := by
  unfold node_leaf.f leafOk name_Right.f
  by_cases h : s.toList = []
  · rw [if_pos h, if_pos h]
    congr 1
    rw [Bool.eq_iff_iff]
    simp
  · have h0 : box_Size.f 0 = some 48 := by decide +kernel
    have h3 : box_Size.f 350 = some 398 := by decide +kernel
    rw [if_neg h, if_neg h, if_pos (by omega), Option.bind_some, h0, h3, Option.bind_some, Option.bind_some]
    cases rightL (splitOf 46 s)
    · rfl
    · rw [if_pos rfl, Bool.true_and]
      by_cases h1 : 48 ≤ l.length
      · rw [if_pos (by omega), decide_eq_true h1, Bool.true_and]
        congr 1
        rw [decide_eq_decide]
        omega
      · rw [if_neg (by omega), decide_eq_false h1, Bool.false_and]
theorem rightLeaf_f (s : ByteArray) (l : List Int) (hs : s.size ≤ 100000) (k : Nat) (hk : 2 * s.size + 100 ≤ k) : oublietteref28_RightLeaf.f k s l = some (leafOk s l) := by
  unfold oublietteref28_RightLeaf.f leafOk
  by_cases h : s.toList = []
  · rw [if_pos h, if_pos h]
    congr 1
    rw [Bool.eq_iff_iff]
    simp
  · rw [if_neg h, if_neg h, right_ref s hs k hk, Option.bind_some]
    cases rightL (splitOf 46 s)
    · rfl
    · rw [if_pos rfl, Bool.true_and]
      by_cases h1 : 48 ≤ l.length
      · rw [if_pos (by omega), decide_eq_true h1, Bool.true_and]
        congr 1
        rw [decide_eq_decide]
        omega
      · rw [if_neg (by omega), decide_eq_false h1, Bool.false_and]
theorem leafB_R (s : ByteArray) (l : List Int) (hs : s.size ≤ 65535) (hl : l.length ≤ 65535) : leafB s l = leafR s l := by
  unfold leafB leafR
  rw [putB_two s.size hs, putB_two l.length hl]
theorem NodeWrites.calls (x y z : Int) (s : ByteArray) (A1 A3 : Option Addr) (c1 c3 : Nat) (l1 : List (List Int)) (l3 : List Int) (w : World) (HLD : Laid w) (hr1 : Kd.C (Kd.slice 5 (Kd.int .u8)) w A1 l1.length l1) (hc1 : l1.length ≤ c1) (hr3 : Kd.C (Kd.int .u8) w A3 l3.length l3) (hc3 : l3.length ≤ c3) :
    Calls Tryd.prog 3 #[.agg #[.int .i64 x, .int .i64 y, .int .i64 z], .slice A1 l1.length c1, .string s, .slice A3 l3.length c3] w fun e w' => e = .returned (.bool true) ∧ Below w.heap.size w w' := by
  obtain ⟨k, hk⟩ : ∃ k : Nat, 100000 ≤ k := ⟨_, Nat.le_refl _⟩
  have hli := light_f l1 k (by omega)
  cases hlb : lightB l1 with
  | false => exact NodeWrites.dark1 k x y z s A1 A3 c1 c3 l1 l3 w HLD hr1 hc1 hr3 hc3 (by rw [hli, hlb])
  | true =>
    have hli' : oubliettelaw28_light.f k l1 = some true := by rw [hli, hlb]
    by_cases hs : s.size ≤ 300
    · by_cases h3 : l3.length ≤ 600
      · unfold lightB at hlb
        rw [Bool.and_eq_true, decide_eq_true_eq] at hlb
        obtain ⟨t, ht⟩ := geom_some x y z
        have hr := refRight_f l1 (by omega) x y z t ht k (by omega)
        have hlf := leaf_f s l3 (by omega)
        have hrl := rightLeaf_f s l3 (by omega) k (by omega)
        have hEL : node_EncodeLeaf.f s l3 = if leafOk s l3 = true then (if s.toList = [] then some ([], 0) else some (leafB s l3, 0)) else some ([], 2) := by
          unfold node_EncodeLeaf.f
          rw [if_pos ⟨by omega, by omega⟩, hlf, Option.bind_some]
        have hLB : leafOk s l3 = true → ref28_LeafBytes.f s l3 = some (if s.toList = [] then [] else leafB s l3) := fun _ => by
          unfold ref28_LeafBytes.f
          by_cases hn : s.toList = []
          · rw [if_pos hn, if_pos hn]
          · rw [if_neg hn, if_neg hn, if_pos ⟨by omega, by omega⟩, leafB_R s l3 (by omega) (by omega)]
        have hEL1 : leafOk s l3 = true → node_EncodeLeaf.f s l3 = some ((if s.toList = [] then [] else leafB s l3), 0) := fun h => by
          rw [hEL, if_pos h]
          split <;> rfl
        have hSL : oublietteref01_Same.f k (if s.toList = [] then [] else leafB s l3) (if s.toList = [] then [] else leafB s l3) = some true := by
          refine same_refl _ ?_ k ?_
          all_goals
            split
            · simp
              try omega
            · simp [leafB, putB, putFrom_len, bytesOf_length]
              omega
        have hE : node_Encode.f x y z l1 = if (!l1.any rowBad && (t && ((l1.length : Int) == x))) = true then some ((if l1.any rowSome = true then encB l1 else []), 0) else some ([], 2) := by
          unfold node_Encode.f
          rw [if_pos (by omega), ht, Option.bind_some]
          by_cases hc : t = true ∧ (l1.length : Int) = x ∧ l1.any rowBad = false
          · have hcond : (!l1.any rowBad && (t && ((l1.length : Int) == x))) = true := by rw [hc.1, hc.2.1, hc.2.2]; simp
            rw [if_pos hc, if_pos hcond]
            split <;> rfl
          · have hcond : ¬ (!l1.any rowBad && (t && ((l1.length : Int) == x))) = true := fun h => hc (by
              rw [Bool.and_eq_true, Bool.and_eq_true, beq_iff_eq] at h
              exact ⟨h.2.1, h.2.2, by simpa using h.1⟩)
            rw [if_neg hc, if_neg hcond]
        cases h1 : (!l1.any rowBad && (t && ((l1.length : Int) == x))) with
        | true =>
          rw [h1] at hr
          rw [h1, if_pos rfl] at hE
          have hbad : l1.any rowBad = false := by
            rw [Bool.and_eq_true] at h1
            simpa using h1.1
          have hB := refBytes_f l1 (by omega) hbad k (by omega)
          have hSA : oublietteref01_Same.f k (if l1.any rowSome = true then encB l1 else []) (if l1.any rowSome = true then encB l1 else []) = some true := by
            have hen := enc_len l1 (fun p hp => by
              cases hq : rowBad p with
              | false => rfl
              | true => rw [List.any_eq_true.2 ⟨p, hp, hq⟩] at hbad; cases hbad)
            refine same_refl _ ?_ k ?_
            all_goals
              split
              · omega
              · simp
                try omega
          cases h2 : leafOk s l3 with
          | true => exact NodeWrites.lit11 k x y z s A1 A3 c1 c3 l1 l3 w HLD hr1 hc1 hr3 hc3 _ _ hli' hs h3 hE (hEL1 h2) hr (by rw [hrl, h2]) hB hSA (hLB h2) hSL
          | false => exact NodeWrites.lit10 k x y z s A1 A3 c1 c3 l1 l3 w HLD hr1 hc1 hr3 hc3 _ [] hli' hs h3 hE (by rw [hEL, h2]; rfl) hr (by rw [hrl, h2]) hB hSA
        | false =>
          rw [h1] at hr
          rw [h1, if_neg (by simp)] at hE
          cases h2 : leafOk s l3 with
          | true => exact NodeWrites.lit01 k x y z s A1 A3 c1 c3 l1 l3 w HLD hr1 hc1 hr3 hc3 [] _ hli' hs h3 hE (hEL1 h2) hr (by rw [hrl, h2]) (hLB h2) hSL
          | false => exact NodeWrites.lit00 k x y z s A1 A3 c1 c3 l1 l3 w HLD hr1 hc1 hr3 hc3 [] [] hli' hs h3 hE (by rw [hEL, h2]; rfl) hr (by rw [hrl, h2])
      · exact NodeWrites.dark3 k x y z s A1 A3 c1 c3 l1 l3 w HLD hr1 hc1 hr3 hc3 hli' hs h3
    · exact NodeWrites.dark2 k x y z s A1 A3 c1 c3 l1 l3 w HLD hr1 hc1 hr3 hc3 hli' hs
end Go.Proofs.YtloagejeeakikaaDoor.QB
