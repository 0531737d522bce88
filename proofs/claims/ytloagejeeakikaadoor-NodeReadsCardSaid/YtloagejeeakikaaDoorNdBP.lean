/- NodeBack: what was written is read as it was; the statement's function returns true. -/
import Derived.Test.YtloagejeeakikaaDoorNdB
namespace Go.Proofs.YtloagejeeakikaaDoor.QB
open Go.RowKit Go.Proofs.YtloagejeeakikaaDoorW.PrintWords Go.Proofs.YtloagejeeakikaaDoorW.PrintLast Go.Proofs.YtloagejeeakikaaDoorW.PrintMore
open Go.Proofs.YtloagejeeakikaaDoor.Mem
set_option linter.unusedVariables false
set_option linter.unusedSimpArgs false
theorem rdBytes_put (lim : Int) (r t : List Int) (h : r.length ≤ 65535) (hl : (r.length : Int) ≤ lim) : rdBytes lim (putB r.length 2 ++ r ++ t) = (r, t, 0) := by
  rw [putB_two r.length h]
  show rdBytes lim ((r.length : Int) / 256 :: (r.length : Int) % 256 :: (r ++ t)) = _
  have e : (r.length : Int) / 256 * 256 + (r.length : Int) % 256 = r.length := by omega
  simp only [rdBytes, e]
  rw [if_pos ⟨hl, by simp; omega⟩, Int.toNat_natCast, List.take_left, List.drop_left]
theorem enc_cons (r : List Int) (l : List (List Int)) : encB (r :: l) = putB r.length 2 ++ r ++ encB l := by
  unfold encB
  rw [List.flatMap_cons]
theorem decS_enc (l : List (List Int)) (hl : ∀ r ∈ l, r.length ≤ 80) : ∀ k, k ≤ l.length → decS 80 (encB l) k = (l.take k, encB (l.drop k), 0)
  | 0, _ => rfl
  | k + 1, h => by
    obtain ⟨x, hx⟩ : ∃ x, l[k]? = some x := ⟨_, List.getElem?_eq_getElem (by omega)⟩
    have hx80 := hl x (List.mem_of_getElem? hx)
    have ih := decS_enc l hl k (by omega)
    have hd : decS 80 (encB l) (k + 1) = ((decS 80 (encB l) k).1 ++ [(rdStep 80 (decS 80 (encB l) k).2.1 (decS 80 (encB l) k).2.2).1], (rdStep 80 (decS 80 (encB l) k).2.1 (decS 80 (encB l) k).2.2).2) := rfl
    have hst : rdStep 80 (encB (l.drop k)) 0 = (x, encB (l.drop (k + 1)), 0) := by
      unfold rdStep
      rw [if_pos rfl, drop_at l k x hx, enc_cons, rdBytes_put 80 x _ (by omega) (by omega)]
    rw [hd, ih]
    simp only [hst]
    rw [List.take_add_one, hx]
    rfl
theorem bad_80 {l : List (List Int)} (h : l.any rowBad = false) : ∀ r ∈ l, r.length = 0 ∨ r.length = 80 := fun r hr => by
  apply rowBad_false.1
  cases hq : rowBad r with
  | false => rfl
  | true => rw [List.any_eq_true.2 ⟨r, hr, hq⟩] at h; cases h
theorem decF_enc (l : List (List Int)) (h : l.any rowBad = false) (hs : l.any rowSome = true) : decF l.length (encB l) = (l, 0) := by
  have h80 := bad_80 h
  have hd := decS_enc l (fun r hr => by have := h80 r hr; omega) l.length (Nat.le_refl _)
  rw [List.take_length, List.drop_length] at hd
  unfold decF
  rw [hd]
  exact if_pos ⟨h, rfl, hs⟩
theorem some_nil {l : List (List Int)} (h : l.any rowSome = false) : l = List.replicate l.length [] := by
  apply List.eq_replicate_iff.2
  refine ⟨rfl, fun r hr => ?_⟩
  cases r with
  | nil => rfl
  | cons a t =>
    have : rowSome (a :: t) = true := by simp [rowSome]
    rw [List.any_eq_true.2 ⟨_, hr, this⟩] at h
    cases h
theorem enc_ne {l : List (List Int)} (h : l.any rowSome = true) : encB l ≠ [] := by
  cases l with
  | nil => simp at h
  | cons r l =>
    rw [enc_cons]
    intro e
    have := congrArg List.length e
    simp [putB, putFrom_len] at this
theorem byte_two (n : Nat) (h : n ≤ 65535) : byteL (putB n 2) := by
  rw [putB_two n h]
  intro x hx
  rcases List.mem_cons.1 hx with rfl | hx
  · omega
  · have : x = (n : Int) % 256 := by simpa using hx
    omega
theorem byteL_app {a b : List Int} (ha : byteL a) (hb : byteL b) : byteL (a ++ b) := fun x hx => (List.mem_append.1 hx).elim (ha x) (hb x)
theorem byte_enc : ∀ (l : List (List Int)), (∀ r ∈ l, r.length ≤ 65535) → (∀ r ∈ l, byteL r) → byteL (encB l)
  | [], _, _ => fun x hx => by simp [encB] at hx
  | r :: l, h, hb => by
    rw [enc_cons]
    exact byteL_app (byteL_app (byte_two _ (h r (by simp))) (hb r (by simp))) (byte_enc l (fun x hx => h x (by simp [hx])) (fun x hx => hb x (by simp [hx])))
/-! ### A leaf -/
theorem byte_str (s : ByteArray) : byteL (bytesOf s) := fun x hx => by
  have := bytesOf_range s x hx
  omega
theorem str_back (s : ByteArray) : strOfNums (bytesOf s) = s := ba_ext (bytesOf_strOfNums _ (bytesOf_range s))
theorem leaf_two (s : ByteArray) (l : List Int) (hs : s.size ≤ 65535) (hl : l.length ≤ 65535) :
    rdStep 65536 (leafB s l) 0 = (bytesOf s, putB l.length 2 ++ l, 0) ∧ rdStep 65536 (putB l.length 2 ++ l) 0 = (l, [], 0) := by
  constructor
  · unfold rdStep leafB
    rw [if_pos rfl]
    have := rdBytes_put 65536 (bytesOf s) (putB l.length 2 ++ l) (by rw [bytesOf_length]; exact hs) (by rw [bytesOf_length]; omega)
    rw [bytesOf_length] at this
    exact this
  · unfold rdStep
    rw [if_pos rfl]
    have := rdBytes_put 65536 l [] hl (by omega)
    rw [List.append_nil] at this
    exact this
theorem leaf_parts (s : ByteArray) (l : List Int) (hs : s.size ≤ 65535) (hl : l.length ≤ 65535) : lfS (leafB s l) = s ∧ lf2 (leafB s l) = l ∧ lfE (leafB s l) = 0 := by
  obtain ⟨h1, h2⟩ := leaf_two s l hs hl
  refine ⟨?_, ?_, ?_⟩
  · unfold lfS lf1
    rw [h1]
    exact str_back s
  · unfold lf2
    rw [h1, h2]
  · unfold lfE
    rw [h1, h2]
    rfl
/-! ### Names are short -/
theorem decL_two (b : Int) (r : List Int) (h : (decL (b :: r)).1 < 2048) : (decL (b :: r)).2 ≤ 2 := by
  by_cases c1 : b < 128
  · rw [decL1 b r c1]
    simp
  by_cases c2 : b < 192
  · rw [decLb b r (by omega) c2]
    simp
  by_cases c3 : b < 224
  · cases r with
    | nil => rw [decLs b [] (by omega) (by unfold sizeL; rw [if_neg (by omega), if_neg (by omega), if_pos (by omega)]; simp)]; simp
    | cons b1 r =>
      rw [decL2 b b1 r (by omega) c3]
      split <;> simp
  by_cases c4 : b < 240
  · match r with
    | [] => rw [decLs b [] (by omega) (by unfold sizeL; rw [if_neg (by omega), if_pos (by omega)]; simp)]; simp
    | [b1] => rw [decLs b [b1] (by omega) (by unfold sizeL; rw [if_neg (by omega), if_pos (by omega)]; simp)]; simp
    | b1 :: b2 :: r =>
      rw [decL3 b b1 b2 r (by omega) c4] at h ⊢
      split
      · rename_i hc
        rw [if_pos hc] at h
        simp only at h
        omega
      · simp
  · match r with
    | [] => rw [decLs b [] (by omega) (by unfold sizeL; rw [if_pos (by omega)]; simp)]; simp
    | [b1] => rw [decLs b [b1] (by omega) (by unfold sizeL; rw [if_pos (by omega)]; simp)]; simp
    | [b1, b2] => rw [decLs b [b1, b2] (by omega) (by unfold sizeL; rw [if_pos (by omega)]; simp)]; simp
    | b1 :: b2 :: b3 :: r =>
      rw [decL4 b b1 b2 b3 r (by omega)] at h ⊢
      split
      · rename_i hc
        rw [if_pos hc] at h
        simp only at h
        omega
      · simp
theorem runesL_size : ∀ (n : Nat) (l : List Int), l.length ≤ n → (∀ c ∈ runesL n l, c < 2048) → l.length ≤ 2 * (runesL n l).length
  | 0, l, h, _ => by omega
  | n + 1, [], h, _ => by simp
  | n + 1, b :: r, h, hc => by
    rw [runesL, if_neg (by simp)] at hc ⊢
    have h2 := decL_two b r (hc _ (by simp))
    have h1 := decL_pos (b :: r)
    have ih := runesL_size n ((b :: r).drop (decL (b :: r)).2) (by rw [List.length_drop]; omega) (fun c hcm => hc c (by simp [hcm]))
    rw [List.length_drop] at ih
    rw [List.length_cons (a := (decL (b :: r)).1)]
    omega
theorem right_short (s : ByteArray) (h : rightL (splitOf 46 s) = true) : s.size ≤ 48 := by
  obtain ⟨h1, h2, h3⟩ := join_split s.size s (Nat.le_refl _)
  have h' : rightL (splitG 46 s.size s) = true := h
  unfold rightL at h'
  rw [Bool.and_eq_true, Bool.and_eq_true, decide_eq_true_eq, decide_eq_true_eq] at h'
  have hp := List.all_eq_true.1 h'.1
  have hj := runes_join _ h2 hp
  have ht := tot_part _ hp
  have hm := runes_mem _ h2 hp
  rw [h1] at hj hm
  have hlt : ∀ c ∈ runesOf s, c < 2048 := fun c hc => by
    rcases hm c hc with rfl | ⟨p, hpm, hc⟩
    · omega
    · have hpp := hp p hpm
      unfold partB at hpp
      rw [Bool.and_eq_true] at hpp
      have := List.all_eq_true.1 hpp.1 c hc
      unfold smallB at this
      rw [decide_eq_true_eq] at this
      omega
  rw [runesOf_list] at hlt hj
  have hsz := runesL_size _ _ (Nat.le_refl _) hlt
  rw [bytesOf_length] at hsz
  rw [bytesOf_length] at hj
  have := h'.2.2
  omega
theorem NodeBack.calls (x y z : Int) (s : ByteArray) (A1 A3 : Option Addr) (c1 c3 : Nat) (l1 : List (List Int)) (l3 : List Int) (w : World) (HLD : Laid w) (hr1 : Kd.C (Kd.slice 5 (Kd.int .u8)) w A1 l1.length l1) (hc1 : l1.length ≤ c1) (hr3 : Kd.C (Kd.int .u8) w A3 l3.length l3) (hc3 : l3.length ≤ c3)
    (hb1 : ∀ r ∈ l1, ∀ n ∈ r, 0 ≤ n ∧ n < 256) (hb3 : ∀ n ∈ l3, 0 ≤ n ∧ n < 256) :
    Calls Tryd.prog 5 #[.agg #[.int .i64 x, .int .i64 y, .int .i64 z], .slice A1 l1.length c1, .string s, .slice A3 l3.length c3] w fun e w' => e = .returned (.bool true) ∧ Below w.heap.size w w' := by
  obtain ⟨k, hk⟩ : ∃ k : Nat, 100000 ≤ k := ⟨_, Nat.le_refl _⟩
  have hli := light_f l1 k (by omega)
  cases hlb : lightB l1 with
  | false => exact NodeBack.dark1 k x y z s A1 A3 c1 c3 l1 l3 w HLD hr1 hc1 hr3 hc3 (by rw [hli, hlb])
  | true =>
    have hli' : oubliettelaw28_light.f k l1 = some true := by rw [hli, hlb]
    by_cases hs : s.size ≤ 300
    · by_cases h3 : l3.length ≤ 600
      · unfold lightB at hlb
        rw [Bool.and_eq_true, decide_eq_true_eq] at hlb
        obtain ⟨t, ht⟩ := geom_some x y z
        have hlf := leaf_f s l3 (by omega)
        have hEL : node_EncodeLeaf.f s l3 = if leafOk s l3 = true then (if s.toList = [] then some ([], 0) else some (leafB s l3, 0)) else some ([], 2) := by
          unfold node_EncodeLeaf.f
          rw [if_pos ⟨by omega, by omega⟩, hlf, Option.bind_some]
        have hEL1 : leafOk s l3 = true → node_EncodeLeaf.f s l3 = some ((if s.toList = [] then [] else leafB s l3), 0) := fun h => by
          rw [hEL, if_pos h]
          split <;> rfl
        have hDL : leafOk s l3 = true → node_DecodeLeaf.f (if s.toList = [] then [] else leafB s l3) = some (s, l3, 0) := fun h => by
          unfold node_DecodeLeaf.f
          by_cases hn : s.toList = []
          · rw [if_pos hn, if_pos rfl]
            have hs0 : s = ⟨#[]⟩ := ba_ext (by rw [List.eq_nil_of_length_eq_zero (by rw [bytesOf_length]; exact (bytesOf_nil_iff s).1 hn : (bytesOf s).length = 0)]; rfl)
            unfold leafOk at h
            rw [if_pos hn, decide_eq_true_eq] at h
            rw [hs0, List.eq_nil_of_length_eq_zero h]
          · rw [if_neg hn]
            obtain ⟨p1, p2, p3⟩ := leaf_parts s l3 (by omega) (by omega)
            have hne : leafB s l3 ≠ [] := fun e => by
              have := congrArg List.length e
              simp [leafB, putB, putFrom_len] at this
            have hbl : byteL (leafB s l3) := by
              unfold leafB
              exact byteL_app (byteL_app (byte_two _ (by omega)) (byte_str s)) (byteL_app (byte_two _ (by omega)) hb3)
            rw [if_neg hne, if_pos ⟨hbl, by simp [leafB, putB, putFrom_len, bytesOf_length]; omega⟩, p1, p2, p3, if_pos ⟨rfl, hn⟩, hlf, h, Option.bind_some, if_pos rfl]
        have hSL : oublietteref01_Same.f k l3 l3 = some true := same_refl _ (by omega) k (by omega)
        have hlen : leafOk s l3 = true → (if s.toList = [] then ([] : List Int) else leafB s l3).length ≤ 473 := fun h => by
          split
          · simp
          · rename_i hn
            unfold leafOk at h
            rw [if_neg hn, Bool.and_eq_true, Bool.and_eq_true, decide_eq_true_eq, decide_eq_true_eq] at h
            have := right_short s h.1
            simp [leafB, putB, putFrom_len, bytesOf_length]
            omega
        have hE : node_Encode.f x y z l1 = if (!l1.any rowBad && (t && ((l1.length : Int) == x))) = true then some ((if l1.any rowSome = true then encB l1 else []), 0) else some ([], 2) := by
          unfold node_Encode.f
          rw [if_pos (by omega), ht, Option.bind_some]
          by_cases hc : t = true ∧ (l1.length : Int) = x ∧ l1.any rowBad = false
          · have hcond : (!l1.any rowBad && (t && ((l1.length : Int) == x))) = true := by rw [hc.1, hc.2.1, hc.2.2]; simp
            rw [if_pos hc, if_pos hcond]
            split <;> rfl
          · have hcond : ¬ (!l1.any rowBad && (t && ((l1.length : Int) == x))) = true := fun h => hc (by
              rw [Bool.and_eq_true, Bool.and_eq_true, beq_iff_eq] at h
              exact ⟨h.2.1, h.2.2, by simpa using h.1⟩)
            rw [if_neg hc, if_neg hcond]
        cases h1 : (!l1.any rowBad && (t && ((l1.length : Int) == x))) with
        | true =>
          rw [h1, if_pos rfl] at hE
          rw [Bool.and_eq_true, Bool.and_eq_true, beq_iff_eq] at h1
          have hbad : l1.any rowBad = false := by simpa using h1.1
          have h80 := bad_80 hbad
          obtain ⟨rfl, hx⟩ := h1.2
          obtain ⟨g1, g2⟩ := geom_true ht
          have hD : node_Decode.f x y z (if l1.any rowSome = true then encB l1 else []) = some (l1, 0) := by
            unfold node_Decode.f
            rw [ht, Option.bind_some, if_pos rfl]
            have hxn : x.toNat = l1.length := by omega
            cases hsm : l1.any rowSome with
            | false =>
              have e0 : (if (false : Bool) = true then encB l1 else []) = [] := if_neg (by simp)
              rw [e0, if_pos rfl, hxn, ← some_nil hsm]
            | true =>
              have hle := enc_len l1 (fun p hp => by
                cases hq : rowBad p with
                | false => rfl
                | true => rw [List.any_eq_true.2 ⟨p, hp, hq⟩] at hbad; cases hbad)
              have hcd : byteL (encB l1) ∧ (encB l1).length ≤ 1000000 := ⟨byte_enc l1 (fun r hr => by have := h80 r hr; omega) hb1, by omega⟩
              have e0 : (if (true : Bool) = true then encB l1 else []) = encB l1 := if_pos rfl
              rw [e0, if_neg (enc_ne hsm), if_pos hcd, hxn, decF_enc l1 hbad hsm]
          have hla : (if l1.any rowSome = true then encB l1 else []).length ≤ 473 := by
            split
            · have := enc_len l1 (fun p hp => by
                cases hq : rowBad p with
                | false => rfl
                | true => rw [List.any_eq_true.2 ⟨p, hp, hq⟩] at hbad; cases hbad)
              omega
            · simp
          have hX : ∀ x ∈ l1, x.length ≤ 1000000 ∧ x.length + 1 ≤ k := fun r hr => by have := h80 r hr; omega
          cases h2 : leafOk s l3 with
          | true => exact NodeBack.lit11 k x y z s A1 A3 c1 c3 l1 l3 w HLD hr1 hc1 hr3 hc3 _ _ hli' hs h3 hE (hEL1 h2) hD hla (by omega) hX (hDL h2) (hlen h2) hSL
          | false => exact NodeBack.lit10 k x y z s A1 A3 c1 c3 l1 l3 w HLD hr1 hc1 hr3 hc3 _ [] hli' hs h3 hE (by rw [hEL, h2]; rfl) hD hla (by omega) hX
        | false =>
          rw [h1, if_neg (by simp)] at hE
          cases h2 : leafOk s l3 with
          | true => exact NodeBack.lit01 k x y z s A1 A3 c1 c3 l1 l3 w HLD hr1 hc1 hr3 hc3 [] _ hli' hs h3 hE (hEL1 h2) (hDL h2) (hlen h2) hSL
          | false => exact NodeBack.lit00 k x y z s A1 A3 c1 c3 l1 l3 w HLD hr1 hc1 hr3 hc3 [] [] hli' hs h3 hE (by rw [hEL, h2]; rfl)
      · exact NodeBack.dark3 k x y z s A1 A3 c1 c3 l1 l3 w HLD hr1 hc1 hr3 hc3 hli' hs h3
    · exact NodeBack.dark2 k x y z s A1 A3 c1 c3 l1 l3 w HLD hr1 hc1 hr3 hc3 hli' hs
end Go.Proofs.YtloagejeeakikaaDoor.QB
