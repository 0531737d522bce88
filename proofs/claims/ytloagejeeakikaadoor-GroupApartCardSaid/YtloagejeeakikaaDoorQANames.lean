/- Text of this claim: names as pieces, joined and split. -/
import Derived.Test.YtloagejeeakikaaDoorQAPts
namespace Go.Proofs.YtloagejeeakikaaDoor.QA
open Go.RowKit Go.Proofs.YtloagejeeakikaaDoorW.PrintWords Go.Proofs.YtloagejeeakikaaDoorW.PrintLast Go.Proofs.YtloagejeeakikaaDoorW.PrintMore
set_option linter.unusedVariables false
set_option linter.unusedSimpArgs false
theorem bytesOf_mk (l : List UInt8) : bytesOf ⟨l.toArray⟩ = l.map fun b => (b.toNat : Int) := by simp [bytesOf]
theorem ba_ext {a b : ByteArray} (h : bytesOf a = bytesOf b) : a = b := by
  have := (toList_iff a b).2 h
  rw [ByteArray.toList_eq, ByteArray.toList_eq] at this
  cases a; cases b
  simpa [Array.ext_iff] using congrArg List.toArray this
theorem joinB_one (p : ByteArray) : joinB [p] = p := by
  apply ba_ext
  unfold joinB
  rw [bytesOf_mk, List.map_cons, List.map_nil, Lib.join_one]
  rfl
theorem joinB_cons (p q : ByteArray) (r : List ByteArray) : bytesOf (joinB (p :: q :: r)) = bytesOf p ++ 46 :: bytesOf (joinB (q :: r)) := by
  unfold joinB
  rw [bytesOf_mk, bytesOf_mk]
  simp only [List.map_cons, Lib.join, List.intercalate, List.intersperse_cons_cons, List.flatten_cons, List.map_append]
  simp [bytesOf]
theorem indexByte_at (p : ByteArray) (s : ByteArray) (t : List Int) (hp : (46 : Int) ∉ bytesOf p) (hs : bytesOf s = bytesOf p ++ 46 :: t) : Lib.indexByte s.data.toList 46 = (p.size : Int) := by
  have key : ∀ (l : List UInt8) (x : List Int) , (46 : Int) ∉ x → (l.map fun b => (b.toNat : Int)) = x ++ 46 :: t → Lib.indexByte l 46 = (x.length : Int) := by
    intro l
    induction l with
    | nil => intro x _ h; cases x <;> simp at h
    | cons b l ih =>
      intro x hx h
      match x, hx, h with
      | [], _, h =>
        simp at h
        have : b = 46 := by apply UInt8.toNat_inj.1; show b.toNat = 46; have := h.1; omega
        simp [Lib.indexByte, this]
      | y :: x, hx, h =>
        simp at h
        have hy : y ≠ 46 := fun e => hx (by simp [e])
        have hb : (b == 46) = false := by
          rw [beq_eq_false_iff_ne]
          intro e
          apply hy
          rw [← h.1, e]
          rfl
        have := ih x (fun e => hx (by simp [e])) (by simpa using h.2)
        simp [Lib.indexByte, hb, this]

  have := key s.data.toList (bytesOf p) hp hs
  rw [this, bytesOf_length]
theorem indexByte_no (p : ByteArray) (hp : (46 : Int) ∉ bytesOf p) : ¬ 0 ≤ Lib.indexByte p.data.toList 46 := by
  intro h
  obtain ⟨o, ho⟩ : ∃ o : Nat, Lib.indexByte p.data.toList 46 = o := ⟨_, (Int.toNat_of_nonneg h).symm⟩
  have := (Lib.indexByte_some ho).1
  apply hp
  unfold bytesOf
  rw [List.mem_map]
  exact ⟨46, List.mem_of_getElem? this, rfl⟩
/-- Pieces that have no point, joined by points, are split into them. -/
theorem split_join : ∀ (l : List ByteArray), l ≠ [] → (∀ p ∈ l, (46 : Int) ∉ bytesOf p) → ∀ n, (joinB l).size ≤ n → splitG 46 n (joinB l) = l
  | [], h, _, _, _ => absurd rfl h
  | [p], _, h, n, _ => by
    rw [joinB_one]
    exact splitG_none 46 n p (indexByte_no p (h p (by simp)))
  | p :: q :: r, _, h, n, hn => by
    have hj := joinB_cons p q r
    have hi := indexByte_at p (joinB (p :: q :: r)) _ (h p (by simp)) hj
    have hl : (joinB (p :: q :: r)).size = p.size + 1 + (joinB (q :: r)).size := by
      rw [← bytesOf_length, hj]
      simp [bytesOf_length]
      omega
    match n, hn with
    | 0, hn => omega
    | n + 1, hn =>
      rw [splitG, hi, if_pos (by omega), Int.toNat_natCast]
      have e1 : (joinB (p :: q :: r)).extract 0 p.size = p := by
        apply ba_ext
        rw [bytesOf_extract, hj, List.drop_zero, List.take_append_of_le_length (by rw [bytesOf_length]; exact Nat.le_refl _), List.take_of_length_le (by rw [bytesOf_length]; exact Nat.le_refl _)]
      have e2 : (joinB (p :: q :: r)).extract (p.size + 1) (joinB (p :: q :: r)).size = joinB (q :: r) := by
        apply ba_ext
        rw [bytesOf_extract, List.take_of_length_le (by rw [bytesOf_length]; exact Nat.le_refl _), hj, List.drop_append, List.drop_of_length_le (by rw [bytesOf_length]; omega), bytesOf_length]
        simp
      rw [e1, e2, split_join (q :: r) (by simp) (fun x hx => h x (by simp at hx ⊢; exact Or.inr hx)) n (by omega)]
theorem join_inj {l m : List ByteArray} (hl : l ≠ []) (hm : m ≠ []) (h1 : ∀ p ∈ l, (46 : Int) ∉ bytesOf p) (h2 : ∀ p ∈ m, (46 : Int) ∉ bytesOf p) (h : joinB l = joinB m) : l = m := by
  have a := split_join l hl h1 _ (Nat.le_refl _)
  have b := split_join m hm h2 _ (Nat.le_refl _)
  rw [h] at a
  exact a.symm.trans b
/-! ### What a name is made of -/
/-- A text of small ASCII letters and digits alone is its own runes. -/
theorem runesL_ascii : ∀ (l : List Int) (n : Nat), (∀ b ∈ l, 0 ≤ b ∧ b < 128) → l.length ≤ n → runesL n l = l
  | [], n, _, _ => runesL_nil n
  | b :: r, 0, _, h => by simp at h
  | b :: r, n + 1, hb, h => by
    have hd : decL (b :: r) = (b, 1) := by simp only [decL]; rw [if_pos (hb b (by simp)).2]
    unfold runesL
    rw [if_neg (by simp), hd]
    simp only [List.drop_one, List.tail_cons]
    rw [runesL_ascii r n (fun x hx => hb x (by simp [hx])) (by simp at h; omega)]
theorem part_ascii (p : ByteArray) (h : ∀ b ∈ bytesOf p, smallB b = true ∧ b < 128) (h1 : 1 ≤ p.size) (h8 : p.size ≤ 8) : partB p = true := by
  have hr : runesOf p = bytesOf p := by
    rw [runesOf_list]
    refine runesL_ascii _ _ (fun b hb => ⟨(bytesOf_range p b hb).1, (h b hb).2⟩) (Nat.le_refl _)
  unfold partB
  rw [hr, bytesOf_length, decide_eq_true h1, decide_eq_true h8, List.all_eq_true.2 (fun b hb => (h b hb).1)]
  rfl
theorem digits_range : ∀ (u : Nat), ∀ b ∈ Lib.decDigits u, 48 ≤ b.toNat ∧ b.toNat ≤ 57 := by
  intro u
  induction u using Nat.strongRecOn with
  | _ u ih =>
    intro b hb
    rw [Lib.decDigits] at hb
    split at hb
    · rw [List.mem_singleton] at hb; subst hb; rw [UInt8.toNat_ofNat']; omega
    · rw [List.mem_append] at hb
      rcases hb with hb | hb
      · exact ih (u / 10) (by omega) b hb
      · rw [List.mem_singleton] at hb; subst hb; rw [UInt8.toNat_ofNat']; omega
theorem nDigits_le : ∀ (k u : Nat), u < 10 ^ (k + 1) → Lib.nDigits u ≤ k + 1
  | 0, u, h => by rw [Lib.nDigits_small (by simpa using h)]; exact Nat.le_refl _
  | k + 1, u, h => by
    rw [Lib.nDigits]
    split
    · omega
    · have := nDigits_le k (u / 10) (by rw [Nat.pow_succ] at h; omega)
      omega
theorem nDigits_pos (u : Nat) : 1 ≤ Lib.nDigits u := by rw [Lib.nDigits]; split <;> omega
def valD (l : List UInt8) : Nat := l.foldl (fun a b => 10 * a + (b.toNat - 48)) 0
theorem valD_snoc (l : List UInt8) (b : UInt8) : valD (l ++ [b]) = 10 * valD l + (b.toNat - 48) := by simp [valD]
theorem valD_dec : ∀ u, valD (Lib.decDigits u) = u := by
  intro u
  induction u using Nat.strongRecOn with
  | _ u ih =>
    rw [Lib.decDigits]
    split
    · simp [valD]; omega
    · rw [valD_snoc, ih (u / 10) (by omega), UInt8.toNat_ofNat']; omega
/-- The digits of a number, as a text. -/
def decB' (n : Int) : ByteArray := ⟨(Lib.itoa n).toArray⟩
theorem dec_inj {n m : Int} (hn : 0 ≤ n) (hm : 0 ≤ m) (h : decB' n = decB' m) : n = m := by
  unfold decB' Lib.itoa at h
  rw [if_neg (by omega), if_neg (by omega)] at h
  have h2 := congrArg (fun b : ByteArray => b.data.toList) h
  simp only at h2
  have := congrArg valD h2
  rw [valD_dec, valD_dec] at this
  omega
theorem dec_part (n : Int) (h0 : 0 ≤ n) (h1 : n ≤ 99999999) : partB (decB' n) = true := by
  have e : bytesOf (decB' n) = (Lib.decDigits n.toNat).map fun b => (b.toNat : Int) := by
    unfold decB' Lib.itoa
    rw [if_neg (by omega), bytesOf_mk]
  have hl : (decB' n).size = Lib.nDigits n.toNat := by rw [← bytesOf_length, e, List.length_map, Lib.decDigits_length]
  refine part_ascii _ (fun b hb => ?_) (by rw [hl]; exact nDigits_pos _) (by rw [hl]; exact nDigits_le 7 _ (by omega))
  rw [e, List.mem_map] at hb
  obtain ⟨c, hc, rfl⟩ := hb
  have := digits_range _ c hc
  unfold smallB
  exact ⟨by simp only [decide_eq_true_eq]; omega, by omega⟩
theorem dec_size (n : Int) (h0 : 0 ≤ n) (h1 : n ≤ 99999999) : (decB' n).size ≤ 8 ∧ 1 ≤ (decB' n).size := by
  have e : bytesOf (decB' n) = (Lib.decDigits n.toNat).map fun b => (b.toNat : Int) := by
    unfold decB' Lib.itoa
    rw [if_neg (by omega), bytesOf_mk]
  have hl : (decB' n).size = Lib.nDigits n.toNat := by rw [← bytesOf_length, e, List.length_map, Lib.decDigits_length]
  rw [hl]
  exact ⟨nDigits_le 7 _ (by omega), nDigits_pos _⟩
/-- The runes of parts, joined, are few where the parts' are. -/
def runeN (p : ByteArray) : Nat := (runesOf p).length
theorem part_valid (p : ByteArray) (h : partB p = true) : ∀ c ∈ runesL (bytesOf p).length (bytesOf p), c ≠ 65533 := by
  unfold partB at h
  simp only [Bool.and_eq_true] at h
  have h1 := List.all_eq_true.1 h.1
  rw [runesOf_list] at h1
  exact fun c hc => (small_not c (h1 c hc)).1
theorem runes_join : ∀ (l : List ByteArray), l ≠ [] → (∀ p ∈ l, partB p = true) → (runesOf (joinB l)).length + 1 = (l.map fun p => runeN p + 1).sum
  | [], h, _ => absurd rfl h
  | [p], _, _ => by rw [joinB_one]; simp [runeN]
  | p :: q :: r, _, h => by
    have ih := runes_join (q :: r) (by simp) (fun x hx => h x (by simp at hx ⊢; exact Or.inr hx))
    have hj := joinB_cons p q r
    have e : runesOf (joinB (p :: q :: r)) = runesL (bytesOf p).length (bytesOf p) ++ runesL (46 :: bytesOf (joinB (q :: r))).length (46 :: bytesOf (joinB (q :: r))) := by
      rw [runesOf_list, hj]
      exact runesL_app _ _ _ (part_valid p (h p (by simp))) (Nat.le_refl _) _ (by rw [List.length_append]; exact Nat.le_refl _)
    have e2 : runesL (46 :: bytesOf (joinB (q :: r))).length (46 :: bytesOf (joinB (q :: r))) = 46 :: runesOf (joinB (q :: r)) := by
      rw [runesOf_list]
      have hd : decL (46 :: bytesOf (joinB (q :: r))) = (46, 1) := rfl
      rw [List.length_cons, runesL, if_neg (by simp), hd]
      simp
    rw [e, e2, List.length_append, ← runesOf_list]
    simp only [List.length_cons, List.map_cons, List.sum_cons] at ih ⊢
    unfold runeN at *
    omega
/-! ### The document's reading of names -/
theorem take_step (s : ByteArray) (i : Nat) (h : i < s.size) : (bytesOf s).take (i + 1) = (bytesOf s).take i ++ [bt s i] := by
  rw [List.take_add_one, bt_eq, List.getD_eq_getElem?_getD, List.getElem?_eq_getElem (by rw [bytesOf_length]; exact h)]
  rfl
/-- One byte more, behind what has been split so far. -/
def pieceStep (acc : List (List Int)) (b : Int) : List (List Int) := if b = 46 then acc ++ [[]] else acc.set (acc.length - 1) (acc.getD (acc.length - 1) [] ++ [b])
theorem pieceStep_len (acc : List (List Int)) (b : Int) : acc.length ≤ (pieceStep acc b).length ∧ (pieceStep acc b).length ≤ acc.length + 1 := by
  unfold pieceStep
  split <;> simp
theorem pieces_loop (s : ByteArray) (hs : s.size ≤ 1000000) : ∀ (n i k : Nat) (acc : List ByteArray), i + n = s.size → acc ≠ [] → acc.length ≤ i + 1 → (∀ p ∈ acc, p.size ≤ i) →
    ∃ out, oublietteref03_pieces.l0 (k + n + 1) s acc i = some out ∧ out.map bytesOf = ((bytesOf s).drop i).foldl pieceStep (acc.map bytesOf)
  | 0, i, k, acc, h, _, _, _ => by
    refine ⟨acc, ?_, ?_⟩
    · rw [oublietteref03_pieces.l0.eq_2, if_neg (by omega)]
    · rw [List.drop_of_length_le (by rw [bytesOf_length]; omega)]; rfl
  | n + 1, i, k, acc, h, hne, hlen, hps => by
    have hi : i < s.size := by omega
    have hd : (bytesOf s).drop i = bt s i :: (bytesOf s).drop (i + 1) := by
      rw [bt_eq, List.getD_eq_getElem?_getD, List.getElem?_eq_getElem (by rw [bytesOf_length]; exact hi)]
      simp
    have hpos : 0 < acc.length := List.length_pos_iff.2 hne
    rw [show k + (n + 1) + 1 = (k + n + 1) + 1 from by omega, oublietteref03_pieces.l0.eq_2, if_pos (by omega), if_pos (by omega), hd, List.foldl_cons,
      show wrap64 ((i : Int) + 1) = ((i + 1 : Nat) : Int) from by unfold wrap64; omega]
    by_cases hp : bt s i = 46
    · rw [if_pos hp, if_pos (by omega)]
      obtain ⟨out, ho, he⟩ := pieces_loop s hs n (i + 1) k (acc ++ [⟨#[]⟩]) (by omega) (by simp) (by simp; omega) (by intro p hp; simp at hp; rcases hp with hp | rfl; exact Nat.le_succ_of_le (hps p hp); exact Nat.zero_le _)
      refine ⟨out, ho, ?_⟩
      rw [he, hp]
      congr 1
      simp [pieceStep, bytesOf]
    · have hw : wrap64 ((acc.length : Int) - 1) = ((acc.length - 1 : Nat) : Int) := by unfold wrap64; omega
      have hsz : (s.extract i (i + 1)).size = 1 := by simp; omega
      rw [if_neg hp, hw, if_pos (by omega), if_pos (by omega), if_pos (by omega), if_pos (by omega), Int.toNat_natCast, Int.toNat_natCast, Int.toNat_natCast]
      obtain ⟨x, hx⟩ : ∃ x, acc[acc.length - 1]? = some x := ⟨_, List.getElem?_eq_getElem (by omega)⟩
      have hrd : rdOf ByteArray.empty acc ((acc.length - 1 : Nat) : Int) = x := by simp [rdOf, List.getD_eq_getElem?_getD, hx]
      have hxm : x.size ≤ i := hps x (List.mem_of_getElem? hx)
      rw [hrd, hsz, if_pos (by omega)]
      have hb1 : bytesOf (s.extract i (i + 1)) = [bt s i] := by
        rw [bytesOf_extract, take_step s i hi, List.drop_append, List.drop_of_length_le (by rw [List.length_take, bytesOf_length]; omega), List.length_take, bytesOf_length, show i - min i s.size = 0 from by omega]
        rfl
      have hb2 : bytesOf (x ++ s.extract i (i + 1)) = bytesOf x ++ [bt s i] := by
        rw [← hb1]
        unfold bytesOf
        rw [ByteArray.data_append, Array.toList_append, List.map_append]
      obtain ⟨out, ho, he⟩ := pieces_loop s hs n (i + 1) k (acc.set (acc.length - 1) (x ++ s.extract i (i + 1))) (by omega) (by simp [hne]) (by simp; omega) (by
        intro p hp
        rcases List.mem_or_eq_of_mem_set hp with hp | rfl
        · exact Nat.le_succ_of_le (hps p hp)
        · rw [← bytesOf_length, hb2, List.length_append, bytesOf_length]; simp; omega)
      refine ⟨out, ho, ?_⟩
      rw [he]
      congr 1
      unfold pieceStep
      rw [if_neg hp, List.map_set, hb2, List.length_map, List.getD_eq_getElem?_getD, List.getElem?_map, hx]
      rfl
theorem step_plain : ∀ (p : List Int) (acc : List (List Int)) (x : List Int), (46 : Int) ∉ p → p.foldl pieceStep (acc ++ [x]) = acc ++ [x ++ p]
  | [], acc, x, _ => by simp
  | b :: p, acc, x, h => by
    have hb : b ≠ 46 := fun e => h (by simp [e])
    rw [List.foldl_cons]
    have e : pieceStep (acc ++ [x]) b = acc ++ [x ++ [b]] := by
      unfold pieceStep
      rw [if_neg hb]
      simp
    rw [e, step_plain p acc (x ++ [b]) (fun e => h (by simp [e]))]
    simp
theorem step_join : ∀ (l : List ByteArray), l ≠ [] → (∀ p ∈ l, (46 : Int) ∉ bytesOf p) → ∀ acc, (bytesOf (joinB l)).foldl pieceStep (acc ++ [[]]) = acc ++ l.map bytesOf
  | [], h, _, _ => absurd rfl h
  | [p], _, h, acc => by rw [joinB_one, step_plain _ _ _ (h p (by simp))]; simp
  | p :: q :: r, _, h, acc => by
    rw [joinB_cons, List.foldl_append, step_plain _ _ _ (h p (by simp)), List.nil_append, List.foldl_cons]
    have e : pieceStep (acc ++ [bytesOf p]) 46 = (acc ++ [bytesOf p]) ++ [[]] := by simp [pieceStep]
    rw [e, step_join (q :: r) (by simp) (fun x hx => h x (by simp at hx ⊢; exact Or.inr hx)) (acc ++ [bytesOf p])]
    simp
theorem map_inj : ∀ {l m : List ByteArray}, l.map bytesOf = m.map bytesOf → l = m
  | [], [], _ => rfl
  | [], _ :: _, h => by simp at h
  | _ :: _, [], h => by simp at h
  | a :: l, b :: m, h => by
    simp at h
    rw [ba_ext h.1, map_inj h.2]
theorem pieces_join (l : List ByteArray) (hne : l ≠ []) (h : ∀ p ∈ l, (46 : Int) ∉ bytesOf p) (hs : (joinB l).size ≤ 1000000) (k : Nat) (hk : (joinB l).size + 1 ≤ k) : oublietteref03_pieces.f k (joinB l) = some l := by
  unfold oublietteref03_pieces.f
  obtain ⟨out, ho, he⟩ := pieces_loop (joinB l) hs (joinB l).size 0 (k - (joinB l).size - 1) [⟨#[]⟩] (by omega) (by simp) (by simp) (by intro p hp; rw [List.mem_singleton] at hp; subst hp; exact Nat.le_refl _)
  rw [show k - (joinB l).size - 1 + (joinB l).size + 1 = k from by omega] at ho
  rw [List.drop_zero] at he
  have e2 := step_join l hne h []
  have e3 : ([⟨#[]⟩] : List ByteArray).map bytesOf = [] ++ [[]] := by simp [bytesOf]
  rw [e3, e2, List.nil_append] at he
  rw [map_inj he] at ho
  exact ho
end Go.Proofs.YtloagejeeakikaaDoor.QA
