/- Text of this claim: plain Lean over the printed functions (Utf). Text of this claim: plain Lean over the printed functions (First). Text of this claim: plain Lean over the printed functions (Part). Plain: the reference's field of an operation is the program's. The reference's with: an operation with a word behind a sign. -/
import Derived.Test.YtdcknajlioalgaaDoorCbA
import Derived.Test.YtdcknajlioalgaaDoorCbC
import Derived.Test.YtdcknajlioalgaaDoorCbE
import Derived.Deep.RegionHeld3
import Derived.Test.YtdcknajlioalgaaDoorCbS
namespace Go.Proofs.YtdcknajlioalgaaDoor.QD
open Go.RowKit Go.Proofs.YtdcknajlioalgaaDoorW.PrintWords Go.Proofs.YtdcknajlioalgaaDoorW.PrintLast Go.Proofs.YtdcknajlioalgaaDoorW.PrintMore
set_option linter.unusedVariables false
set_option linter.unusedSimpArgs false

theorem bytesOf_range (s : ByteArray) : ∀ x ∈ bytesOf s, 0 ≤ x ∧ x ≤ 255 := by
  intro x hx
  simp only [bytesOf, List.mem_map] at hx
  obtain ⟨b, _, rfl⟩ := hx
  have := b.toNat_lt
  omega
theorem bt_eq (s : ByteArray) (i : Nat) : bt s (i : Int) = (bytesOf s).getD i 0 := by
  unfold bt bytesOf
  split
  · rename_i h
    have h2 : i < s.data.toList.length := by simpa using h
    simp [List.getD_eq_getElem?_getD, List.getElem?_eq_getElem h2]
    rfl
  · rename_i h
    have h2 : s.data.toList.length ≤ i := by simpa using h
    simp [List.getD_eq_getElem?_getD, List.getElem?_eq_none h2]
theorem get_eq (s : ByteArray) (i : Nat) (h : i < s.size) : ((s.get! i).toNat : Int) = (bytesOf s).getD i 0 := by
  rw [← bt_eq]
  have e : s.get! i = s[i]'h := by
    have := get_at s i h
    simpa using this
  rw [e]
  simp [bt, h]
theorem bytesOf_extract (s : ByteArray) (i j : Nat) : bytesOf (s.extract i j) = ((bytesOf s).take j).drop i := by
  unfold bytesOf
  rw [← List.map_take, ← List.map_drop]
  congr 1
  have h : (s.extract i j).data = s.data.extract i j := by simp
  rw [h]
  simp [Array.toList_extract, List.extract_eq_take_drop, List.drop_take]
theorem bytesOf_strOfNums (xs : List Int) (h : ∀ x ∈ xs, 0 ≤ x ∧ x ≤ 255) : bytesOf (strOfNums xs) = xs := by
  unfold bytesOf
  rw [strOfNums_data, List.map_map]
  conv => rhs; rw [← List.map_id xs]
  apply List.map_congr_left
  intro x hx
  have := h x hx
  simp
  omega
theorem toList_iff (a b : ByteArray) : a.toList = b.toList ↔ bytesOf a = bytesOf b := by
  rw [ByteArray.toList_eq, ByteArray.toList_eq]
  unfold bytesOf
  constructor
  · intro h; rw [h]
  · intro h
    refine List.map_inj_right (fun x y e => ?_) |>.1 h
    have : x.toNat = y.toNat := by exact_mod_cast e
    exact UInt8.toNat_inj.1 this
/-- The first rune of bytes, and its width, as a range over a string tells it: what is none is (65533, 1). -/
def decL : List Int → Int × Nat
  | [] => (65533, 1)
  | b0 :: r =>
    if b0 < 128 then (b0, 1)
    else if 192 ≤ b0 ∧ b0 < 224 then match r with
      | b1 :: _ => if 128 ≤ b1 ∧ b1 ≤ 191 ∧ 128 ≤ (b0 - 192) * 64 + (b1 - 128) then ((b0 - 192) * 64 + (b1 - 128), 2) else (65533, 1)
      | _ => (65533, 1)
    else if 224 ≤ b0 ∧ b0 < 240 then match r with
      | b1 :: b2 :: _ => if 128 ≤ b1 ∧ b1 ≤ 191 ∧ 128 ≤ b2 ∧ b2 ≤ 191 ∧ 2048 ≤ (b0 - 224) * 4096 + (b1 - 128) * 64 + (b2 - 128) ∧ ((b0 - 224) * 4096 + (b1 - 128) * 64 + (b2 - 128) < 55296 ∨ 57344 ≤ (b0 - 224) * 4096 + (b1 - 128) * 64 + (b2 - 128))
          then ((b0 - 224) * 4096 + (b1 - 128) * 64 + (b2 - 128), 3) else (65533, 1)
      | _ => (65533, 1)
    else if 240 ≤ b0 ∧ b0 < 248 then match r with
      | b1 :: b2 :: b3 :: _ => if 128 ≤ b1 ∧ b1 ≤ 191 ∧ 128 ≤ b2 ∧ b2 ≤ 191 ∧ 128 ≤ b3 ∧ b3 ≤ 191 ∧ 65536 ≤ (b0 - 240) * 262144 + (b1 - 128) * 4096 + (b2 - 128) * 64 + (b3 - 128) ∧ (b0 - 240) * 262144 + (b1 - 128) * 4096 + (b2 - 128) * 64 + (b3 - 128) ≤ 1114111
          then ((b0 - 240) * 262144 + (b1 - 128) * 4096 + (b2 - 128) * 64 + (b3 - 128), 4) else (65533, 1)
      | _ => (65533, 1)
    else (65533, 1)
/-- The same, out of bytes given by place. -/
def decB (n : Nat) (b0 b1 b2 b3 : Nat) : Nat × Nat :=
  if b0 < 0x80 then (b0, 1)
  else if b0 / 32 == 6 && (1 < n && b1 / 64 == 2) then
    let c := (b0 % 32) * 64 + b1 % 64
    if c ≥ 0x80 then (c, 2) else (Utf8.runeError, 1)
  else if b0 / 16 == 14 && (1 < n && b1 / 64 == 2) && (2 < n && b2 / 64 == 2) then
    let c := (b0 % 16) * 4096 + (b1 % 64) * 64 + b2 % 64
    if c ≥ 0x800 && Utf8.valid c then (c, 3) else (Utf8.runeError, 1)
  else if b0 / 8 == 30 && (1 < n && b1 / 64 == 2) && (2 < n && b2 / 64 == 2) && (3 < n && b3 / 64 == 2) then
    let c := (b0 % 8) * 262144 + (b1 % 64) * 4096 + (b2 % 64) * 64 + b3 % 64
    if c ≥ 0x10000 && Utf8.valid c then (c, 4) else (Utf8.runeError, 1)
  else (Utf8.runeError, 1)
theorem dec_decB (s : ByteArray) (i : Nat) : Utf8.decode s i = decB (s.size - i) (s.get! (i + 0)).toNat (s.get! (i + 1)).toNat (s.get! (i + 2)).toNat (s.get! (i + 3)).toNat := by
  have e1 : (decide (1 < s.size - i)) = decide (i + 1 < s.size) := by congr 1; simp; omega
  have e2 : (decide (2 < s.size - i)) = decide (i + 2 < s.size) := by congr 1; simp; omega
  have e3 : (decide (3 < s.size - i)) = decide (i + 3 < s.size) := by congr 1; simp; omega
  unfold Utf8.decode decB
  simp only [e1, e2, e3]
set_option maxHeartbeats 4000000 in
theorem decB_one (n b0 b1 b2 b3 : Nat) (h0 : b0 < 256) (h1 : b1 < 256) (h2 : b2 < 256) (h3 : b3 < 256) (r : List Int) (hr : n = r.length + 1)
    (e1 : 1 < n → r[0]? = some (b1 : Int)) (e2 : 2 < n → r[1]? = some (b2 : Int)) (e3 : 3 < n → r[2]? = some (b3 : Int)) :
    (((decB n b0 b1 b2 b3).1 : Int), (decB n b0 b1 b2 b3).2) = decL ((b0 : Int) :: r) := by
  have hv : ∀ c : Nat, Utf8.valid (c : Int) = decide (c < 55296 ∨ (57344 ≤ c ∧ c ≤ 1114111)) := by
    intro c
    unfold Utf8.valid
    rw [Bool.eq_iff_iff]
    simp
    omega
  unfold decB
  simp only [Bool.and_eq_true, beq_iff_eq, decide_eq_true_eq, hv, Utf8.runeError, ge_iff_le]
  match r, hr, e1, e2, e3 with
  | [], hr, e1, e2, e3 =>
    simp only [List.length_nil] at hr
    simp only [decL]
    repeat' split
    all_goals first | rfl | (exfalso; omega) | (refine Prod.ext ?_ ?_ <;> dsimp only <;> omega)
  | [x1], hr, e1, e2, e3 =>
    simp only [List.length_cons, List.length_nil] at hr
    have e1' : x1 = b1 := by simpa using e1 (by omega)
    subst e1'
    clear e1 e2 e3
    simp only [decL]

    repeat' split
    all_goals first | rfl | (exfalso; omega) | (refine Prod.ext ?_ ?_ <;> dsimp only <;> omega)
  | [x1, x2], hr, e1, e2, e3 =>
    simp only [List.length_cons, List.length_nil] at hr
    have e1' : x1 = b1 := by simpa using e1 (by omega)
    have e2' : x2 = b2 := by simpa using e2 (by omega)
    subst e1' e2'
    clear e1 e2 e3
    simp only [decL]

    repeat' split
    all_goals first | rfl | (exfalso; omega) | (refine Prod.ext ?_ ?_ <;> dsimp only <;> omega)
  | x1 :: x2 :: x3 :: t, hr, e1, e2, e3 =>
    simp only [List.length_cons, List.length_nil] at hr
    have e1' : x1 = b1 := by simpa using e1 (by omega)
    have e2' : x2 = b2 := by simpa using e2 (by omega)
    have e3' : x3 = b3 := by simpa using e3 (by omega)
    subst e1' e2' e3'
    clear e1 e2 e3
    simp only [decL]

    repeat' split
    all_goals first | rfl | (exfalso; omega) | (refine Prod.ext ?_ ?_ <;> dsimp only <;> omega)
theorem decode_decL (s : ByteArray) (i : Nat) (h : i < s.size) : (((Utf8.decode s i).1 : Int), (Utf8.decode s i).2) = decL ((bytesOf s).drop i) := by
  have hl : (bytesOf s).length = s.size := bytesOf_length s
  have hget : ∀ j, j < s.size → ((s.get! j).toNat : Int) = (bytesOf s).getD j 0 := fun j hj => get_eq s j hj
  have hc : (bytesOf s).drop i = (bytesOf s).getD i 0 :: (bytesOf s).drop (i + 1) := by
    rw [List.getD_eq_getElem?_getD, List.getElem?_eq_getElem (by omega)]
    simp
  rw [dec_decB, hc, ← hget i h]
  refine decB_one _ _ _ _ _ ?_ ?_ ?_ ?_ _ ?_ ?_ ?_ ?_
  · exact UInt8.toNat_lt _
  · exact UInt8.toNat_lt _
  · exact UInt8.toNat_lt _
  · exact UInt8.toNat_lt _
  · rw [List.length_drop]; omega
  · intro h1; rw [hget _ (by omega), List.getElem?_drop, List.getD_eq_getElem?_getD, List.getElem?_eq_getElem (show i + 1 < _ by omega)]; rfl
  · intro h1; rw [hget _ (by omega), List.getElem?_drop, List.getD_eq_getElem?_getD, List.getElem?_eq_getElem (show i + 2 < _ by omega)]; rfl
  · intro h1; rw [hget _ (by omega), List.getElem?_drop, List.getD_eq_getElem?_getD, List.getElem?_eq_getElem (show i + 3 < _ by omega)]; rfl
/-- The document's: the first rune of bytes, and its width; (0, 0): none. -/
def firstL : List Int → Int × Int
  | [] => (0, 0)
  | b0 :: r => if decL (b0 :: r) = (65533, 1) then (0, 0) else ((decL (b0 :: r)).1, ((decL (b0 :: r)).2 : Int))
def rightB (r : Int) : Bool := decide (0 ≤ r ∧ r ≤ 1114111 ∧ (r < 55296 ∨ 57343 < r))
theorem ref02_Right_eq (r : Int) : oublietteref02_Right.f r = some (rightB r) := by
  unfold oublietteref02_Right.f rightB
  repeat' split
  all_goals (rw [Option.some.injEq, Bool.eq_iff_iff]; simp; omega)
def bytesL (r : Int) : List Int :=
  if r < 128 then [r] else if r < 2048 then [192 + r / 64, 128 + r % 64] else if r < 65536 then [224 + r / 4096, 128 + r / 64 % 64, 128 + r % 64]
  else [240 + r / 262144, 128 + r / 4096 % 64, 128 + r / 64 % 64, 128 + r % 64]
theorem ref02_Bytes_eq (r : Int) (h0 : 0 ≤ r) (h1 : r ≤ 1114111) : oublietteref02_Bytes.f r = some (bytesL r) := by
  unfold oublietteref02_Bytes.f bytesL
  have d1 : Int.tdiv r 64 = r / 64 := Int.tdiv_eq_ediv_of_nonneg h0
  have d2 : Int.tdiv r 4096 = r / 4096 := Int.tdiv_eq_ediv_of_nonneg h0
  have d3 : Int.tdiv r 262144 = r / 262144 := Int.tdiv_eq_ediv_of_nonneg h0
  have w : ∀ x : Int, 0 ≤ x → x ≤ 2147483647 → wrap32 x = x := fun x a b => by unfold wrap32; omega
  rw [d1, d2, d3, w (r / 64) (by omega) (by omega), w (r / 4096) (by omega) (by omega), w (r / 262144) (by omega) (by omega)]
  have m0 : Int.tmod r 64 = r % 64 := Int.tmod_eq_emod_of_nonneg h0
  have m1 : Int.tmod (r / 64) 64 = r / 64 % 64 := Int.tmod_eq_emod_of_nonneg (by omega)
  have m2 : Int.tmod (r / 4096) 64 = r / 4096 % 64 := Int.tmod_eq_emod_of_nonneg (by omega)
  rw [m0, m1, m2, w (192 + r / 64) (by omega) (by omega), w (128 + r % 64) (by omega) (by omega), w (224 + r / 4096) (by omega) (by omega), w (128 + r / 64 % 64) (by omega) (by omega), w (240 + r / 262144) (by omega) (by omega), w (128 + r / 4096 % 64) (by omega) (by omega)]
  repeat' split
  all_goals (congr 1; simp only [List.cons.injEq, and_true]; omega)
theorem bytesL_range (r : Int) (h0 : 0 ≤ r) (h1 : r ≤ 1114111) : ∀ x ∈ bytesL r, 0 ≤ x ∧ x ≤ 255 := by
  unfold bytesL
  repeat' split
  all_goals (simp only [List.mem_cons, List.not_mem_nil, or_false]; rintro x hx; omega)
theorem first_fin (k : Nat) (s : ByteArray) (n : Nat) (r x7 : Int) (hn : n ≤ s.size) (h7 : ¬ x7 < (n : Int)) :
    oublietteref02_First.l0 (k + 1) s n r x7 = some (if rightB r = true ∧ bytesL r = (bytesOf s).take n then (r, (n : Int)) else (0, 0)) := by
  simp only [oublietteref02_First.l0]
  rw [if_neg h7, ref02_Right_eq]
  simp only [Option.bind_some]
  by_cases hr : rightB r = true
  · have hr' := hr
    unfold rightB at hr'
    simp only [decide_eq_true_eq] at hr'
    rw [if_pos hr, ref02_Bytes_eq r hr'.1 hr'.2.1]
    simp only [Option.bind_some]
    rw [if_pos (by omega), if_pos (by omega)]
    have e : (strOfNums (bytesL r)).toList = (s.extract 0 ((n : Int)).toNat).toList ↔ bytesL r = (bytesOf s).take n := by
      rw [toList_iff, bytesOf_strOfNums _ (bytesL_range r hr'.1 hr'.2.1), bytesOf_extract]
      simp
    by_cases hb : bytesL r = (bytesOf s).take n
    · rw [if_pos (e.2 hb), if_pos ⟨hr, hb⟩]
    · rw [if_neg (fun h => hb (e.1 h)), if_neg (fun h => hb h.2)]
  · rw [if_neg hr, if_neg (fun h => hr h.1)]
theorem first_bad (k : Nat) (s : ByteArray) (n : Nat) (r : Int) (i : Nat) (hn : n ≤ s.size) (hi : i < n) (hb : (bytesOf s).getD i 0 < 128 ∨ 191 < (bytesOf s).getD i 0) :
    oublietteref02_First.l0 (k + 1) s n r i = some (0, 0) := by
  simp only [oublietteref02_First.l0]
  rw [if_pos (by omega), if_pos (by omega), if_pos (by omega), bt_eq]
  by_cases h : (bytesOf s).getD i 0 < 128
  · rw [if_pos h]
  · rw [if_neg h, if_pos (by omega)]
theorem first_next (k : Nat) (s : ByteArray) (n : Nat) (r : Int) (i : Nat) (hn : n ≤ s.size) (hi : i < n) (hs : n ≤ 4) (hb : 128 ≤ (bytesOf s).getD i 0 ∧ (bytesOf s).getD i 0 ≤ 191) (h0 : 0 ≤ r) (h1 : r ≤ 1048576) :
    oublietteref02_First.l0 (k + 1) s n r i = oublietteref02_First.l0 k s n (r * 64 + (bytesOf s).getD i 0 - 128) (i + 1 : Nat) := by
  have w : ∀ x : Int, -2147483648 ≤ x → x ≤ 2147483647 → wrap32 x = x := fun x a b => by unfold wrap32; omega
  simp only [oublietteref02_First.l0]
  rw [if_pos (by omega), if_pos (by omega), if_pos (by omega), bt_eq, if_neg (by omega), if_neg (by omega), w (r * 64) (by omega) (by omega), w ((bytesOf s).getD i 0) (by omega) (by omega), w (r * 64 + (bytesOf s).getD i 0) (by omega) (by omega), w (r * 64 + (bytesOf s).getD i 0 - 128) (by omega) (by omega)]
  have : wrap64 ((i : Int) + 1) = ((i + 1 : Nat) : Int) := by unfold wrap64; omega
  rw [this]
/-- How many bytes the first byte asks for, and the bits it gives. -/
def sizeL (b : Int) : Nat := if b ≥ 240 then 4 else if b ≥ 224 then 3 else if b ≥ 192 then 2 else 1
def bitsL (b : Int) : Int := if b ≥ 240 then b - 240 else if b ≥ 224 then b - 224 else if b ≥ 192 then b - 192 else b
theorem First_head (k : Nat) (s : ByteArray) (b0 : Int) (r : List Int) (hb : bytesOf s = b0 :: r) :
    oublietteref02_First.f (k + 1) s = if (sizeL b0) ≤ s.size then oublietteref02_First.l0 k s (sizeL b0) (bitsL b0) 1 else some (0, 0) := by
  have hl : s.size = r.length + 1 := by rw [← bytesOf_length s, hb]; rfl
  have hr := bytesOf_range s b0 (by rw [hb]; simp)
  have e0 : bt s 0 = b0 := by
    have := bt_eq s 0
    rw [hb] at this
    simpa using this
  have w : ∀ x : Int, -2147483648 ≤ x → x ≤ 2147483647 → wrap32 x = x := fun x a b => by unfold wrap32; omega
  unfold oublietteref02_First.f
  rw [if_neg (by omega), if_pos (by omega), e0, w b0 (by omega) (by omega)]
  unfold sizeL bitsL
  by_cases h4 : b0 ≥ 240
  · simp only [if_pos h4]
    rw [w _ (by omega) (by omega)]
    simp only [oublietteref02_First.j0]
    by_cases hs : (4 : Int) > (s.size : Int)
    · rw [if_pos hs, if_neg (by omega)]
    · rw [if_neg hs, if_pos (by omega)]; rfl
  · simp only [if_neg h4]
    by_cases h3 : b0 ≥ 224
    · simp only [if_pos h3]
      rw [w _ (by omega) (by omega)]
      simp only [oublietteref02_First.j0]
      by_cases hs : (3 : Int) > (s.size : Int)
      · rw [if_pos hs, if_neg (by omega)]
      · rw [if_neg hs, if_pos (by omega)]; rfl
    · simp only [if_neg h3]
      by_cases h2 : b0 ≥ 192
      · simp only [if_pos h2]
        rw [w _ (by omega) (by omega)]
        simp only [oublietteref02_First.j0]
        by_cases hs : (2 : Int) > (s.size : Int)
        · rw [if_pos hs, if_neg (by omega)]
        · rw [if_neg hs, if_pos (by omega)]; rfl
      · simp only [if_neg h2]
        simp only [oublietteref02_First.j0]
        rw [if_neg (by omega), if_pos (by omega)]; rfl
/-- What the document's loop adds to the bits, and where it ends: at a byte that does not follow, or at the size. -/
def restL : Nat → List Int → Int → Option Int
  | 0, _, r => some r
  | n + 1, [], r => none
  | n + 1, b :: t, r => if 128 ≤ b ∧ b ≤ 191 then restL n t (r * 64 + b - 128) else none
theorem first_rest : ∀ (m k : Nat) (s : ByteArray) (n : Nat) (r : Int) (i : Nat) (hn : n ≤ s.size) (h4 : n ≤ 4) (hm : i + m = n) (h1 : 1 ≤ i) (h0 : 0 ≤ r) (hr : m ≠ 0 → (r + 1) * 64 ^ (m - 1) ≤ 1048576),
    oublietteref02_First.l0 (k + m + 1) s n r i = some (match restL m ((bytesOf s).drop i) r with
      | some v => if rightB v = true ∧ bytesL v = (bytesOf s).take n then (v, (n : Int)) else (0, 0)
      | none => (0, 0))
  | 0, k, s, n, r, i, hn, h4, hm, h1, h0, hr => by
    rw [show k + 0 + 1 = k + 1 from rfl, first_fin k s n r i hn (by omega)]
    rfl
  | m + 1, k, s, n, r, i, hn, h4, hm, h1, h0, hr => by
    have hl := bytesOf_length s
    have hd : (bytesOf s).drop i = (bytesOf s).getD i 0 :: (bytesOf s).drop (i + 1) := by
      rw [List.getD_eq_getElem?_getD, List.getElem?_eq_getElem (by omega)]
      simp
    rw [hd]
    simp only [restL]
    have hl2 := bytesOf_length s
    by_cases hb : 128 ≤ (bytesOf s).getD i 0 ∧ (bytesOf s).getD i 0 ≤ 191
    · have hm4 : m < 3 := by omega
      have hr1 := hr (by omega)
      rw [show k + (m + 1) + 1 = (k + m + 1) + 1 from by omega, first_next _ s n r i hn (by omega) h4 hb h0 (by match m, hm4, hr1 with
        | 0, _, hr1 => simp at hr1; omega
        | 1, _, hr1 => simp at hr1; omega
        | 2, _, hr1 => simp at hr1; omega)]
      generalize (bytesOf s).getD i 0 = y at hb ⊢
      have hr' : r ≤ 1048576 ∧ (m ≠ 0 → (r * 64 + y - 128 + 1) * 64 ^ (m - 1) ≤ 1048576) := by
        match m, hm4, hr1 with
        | 0, _, hr1 => exact ⟨by simp at hr1; omega, fun h => absurd rfl h⟩
        | 1, _, hr1 => refine ⟨by simp at hr1; omega, fun _ => by simp at hr1 ⊢; omega⟩
        | 2, _, hr1 => refine ⟨by simp at hr1; omega, fun _ => by simp at hr1 ⊢; omega⟩
      rw [if_pos hb]
      exact first_rest m k s n _ (i + 1) hn h4 (by omega) (by omega) (by omega) hr'.2
    · rw [if_neg hb, show k + (m + 1) + 1 = (k + m + 1) + 1 from by omega, first_bad _ s n r i hn (by omega) (by omega)]
end Go.Proofs.YtdcknajlioalgaaDoor.QD
namespace Go.Proofs.YtdcknajlioalgaaDoor.QD
open Go.RowKit Go.Proofs.YtdcknajlioalgaaDoorW.PrintWords Go.Proofs.YtdcknajlioalgaaDoorW.PrintLast Go.Proofs.YtdcknajlioalgaaDoorW.PrintMore
set_option linter.unusedVariables false
set_option linter.unusedSimpArgs false
def outL (p : Int × Nat) : Int × Int := if p = (65533, 1) then (0, 0) else (p.1, (p.2 : Int))
theorem outL_bad : outL (65533, 1) = (0, 0) := if_pos rfl
theorem outL_ok (x : Int) (n : Nat) (h : ¬ (x = 65533 ∧ n = 1)) : outL (x, n) = (x, (n : Int)) := by
  unfold outL
  rw [if_neg (fun e => h (by injection e with a b; exact ⟨a, b⟩))]
theorem firstL_cons (b0 : Int) (r : List Int) : firstL (b0 :: r) = outL (decL (b0 :: r)) := rfl
def guardL (v : Int) (n : Nat) (bs : List Int) : Int × Int := if rightB v = true ∧ bytesL v = bs then (v, (n : Int)) else (0, 0)
theorem guard_ok (v : Int) (n : Nat) (bs : List Int) (h1 : rightB v = true) (h2 : bytesL v = bs) : guardL v n bs = (v, (n : Int)) := if_pos ⟨h1, h2⟩
theorem guard_bad (v : Int) (n : Nat) (bs : List Int) (h : ¬ (rightB v = true ∧ bytesL v = bs)) : guardL v n bs = (0, 0) := if_neg h
def endL (o : Option Int) (n : Nat) (bs : List Int) : Int × Int := match o with | some v => guardL v n bs | none => (0, 0)
theorem restL_cons (n : Nat) (b : Int) (t : List Int) (r : Int) : restL (n + 1) (b :: t) r = if 128 ≤ b ∧ b ≤ 191 then restL n t (r * 64 + b - 128) else none := rfl
theorem decL1 (b0 : Int) (r : List Int) (h : b0 < 128) : decL (b0 :: r) = (b0, 1) := by simp only [decL]; rw [if_pos h]
theorem decLb (b0 : Int) (r : List Int) (h : 128 ≤ b0) (h2 : b0 < 192) : decL (b0 :: r) = (65533, 1) := by
  simp only [decL]; rw [if_neg (by omega), if_neg (by omega), if_neg (by omega), if_neg (by omega)]
theorem decL2 (b0 b1 : Int) (r : List Int) (h : 192 ≤ b0) (h2 : b0 < 224) : decL (b0 :: b1 :: r) = if 128 ≤ b1 ∧ b1 ≤ 191 ∧ 128 ≤ (b0 - 192) * 64 + (b1 - 128) then ((b0 - 192) * 64 + (b1 - 128), 2) else (65533, 1) := by
  simp only [decL]; rw [if_neg (by omega), if_pos ⟨h, h2⟩]
theorem decL3 (b0 b1 b2 : Int) (r : List Int) (h : 224 ≤ b0) (h2 : b0 < 240) : decL (b0 :: b1 :: b2 :: r) = if 128 ≤ b1 ∧ b1 ≤ 191 ∧ 128 ≤ b2 ∧ b2 ≤ 191 ∧ 2048 ≤ (b0 - 224) * 4096 + (b1 - 128) * 64 + (b2 - 128) ∧ ((b0 - 224) * 4096 + (b1 - 128) * 64 + (b2 - 128) < 55296 ∨ 57344 ≤ (b0 - 224) * 4096 + (b1 - 128) * 64 + (b2 - 128))
          then ((b0 - 224) * 4096 + (b1 - 128) * 64 + (b2 - 128), 3) else (65533, 1) := by
  simp only [decL]; rw [if_neg (by omega), if_neg (by omega), if_pos ⟨h, h2⟩]
theorem decL4 (b0 b1 b2 b3 : Int) (r : List Int) (h : 240 ≤ b0) : decL (b0 :: b1 :: b2 :: b3 :: r) = if b0 < 248 ∧ 128 ≤ b1 ∧ b1 ≤ 191 ∧ 128 ≤ b2 ∧ b2 ≤ 191 ∧ 128 ≤ b3 ∧ b3 ≤ 191 ∧ 65536 ≤ (b0 - 240) * 262144 + (b1 - 128) * 4096 + (b2 - 128) * 64 + (b3 - 128) ∧ (b0 - 240) * 262144 + (b1 - 128) * 4096 + (b2 - 128) * 64 + (b3 - 128) ≤ 1114111
          then ((b0 - 240) * 262144 + (b1 - 128) * 4096 + (b2 - 128) * 64 + (b3 - 128), 4) else (65533, 1) := by
  simp only [decL]; rw [if_neg (by omega), if_neg (by omega), if_neg (by omega)]
  repeat' split
  all_goals first | rfl | (exfalso; omega)
theorem decLs (b0 : Int) (r : List Int) (h : 192 ≤ b0) (h2 : r.length + 1 < sizeL b0) : decL (b0 :: r) = (65533, 1) := by
  unfold sizeL at h2
  simp only [decL]; rw [if_neg (by omega)]
  match r with
  | [] => simp
  | [b1] => simp only [List.length_cons, List.length_nil] at h2; rw [if_neg (by intro h; rw [if_neg (by omega), if_neg (by omega), if_pos (by omega)] at h2; omega)]; simp
  | [b1, b2] =>
    simp only [List.length_cons, List.length_nil] at h2
    by_cases c : b0 ≥ 240
    · rw [if_neg (by omega), if_neg (by omega)]; simp
    · rw [if_neg c] at h2; split at h2 <;> first | omega | (split at h2 <;> omega)
  | _ :: _ :: _ :: _ => simp only [List.length_cons] at h2; split at h2 <;> first | omega | (split at h2 <;> first | omega | (split at h2 <;> omega))
theorem endL_some (v : Int) (n : Nat) (bs : List Int) : endL (some v) n bs = guardL v n bs := rfl
theorem endL_none (n : Nat) (bs : List Int) : endL none n bs = (0, 0) := rfl
theorem list1 (b0 : Int) (r : List Int) (h0 : 0 ≤ b0) (h : b0 < 128) : guardL b0 1 [b0] = outL (decL (b0 :: r)) := by
  rw [decL1 b0 r h, outL_ok _ _ (by omega), guard_ok _ _ _ (by unfold rightB; simp; omega) (by unfold bytesL; rw [if_pos h])]
theorem listb (b0 : Int) (r : List Int) (h0 : 128 ≤ b0) (h : b0 < 192) : guardL b0 1 [b0] = outL (decL (b0 :: r)) := by
  rw [decLb b0 r h0 h, outL_bad, guard_bad _ _ _ (by rintro ⟨_, h⟩; unfold bytesL at h; rw [if_neg (by omega), if_pos (by omega)] at h; simp at h)]
theorem list2 (b0 b1 : Int) (r : List Int) (h0 : 192 ≤ b0) (h : b0 < 224) : endL (restL 1 (b1 :: r) (b0 - 192)) 2 [b0, b1] = outL (decL (b0 :: b1 :: r)) := by
  rw [decL2 b0 b1 r h0 h, restL_cons]
  by_cases d : 128 ≤ b1 ∧ b1 ≤ 191
  · rw [if_pos d, restL, endL_some]
    by_cases e : 128 ≤ (b0 - 192) * 64 + (b1 - 128)
    · rw [if_pos ⟨d.1, d.2, e⟩, outL_ok _ _ (by omega), guard_ok]
      · refine Prod.ext ?_ rfl
        dsimp only
        omega
      · unfold rightB; simp; omega
      · unfold bytesL
        rw [if_neg (by omega), if_pos (by omega)]
        simp only [List.cons.injEq, and_true]; omega
    · rw [if_neg (by omega), outL_bad, guard_bad]
      rintro ⟨_, h⟩
      unfold bytesL at h
      rw [if_pos (by omega)] at h
      simp at h
  · rw [if_neg d, endL_none, if_neg (by omega), outL_bad]
theorem list3 (b0 b1 b2 : Int) (r : List Int) (h0 : 224 ≤ b0) (h : b0 < 240) : endL (restL 2 (b1 :: b2 :: r) (b0 - 224)) 3 [b0, b1, b2] = outL (decL (b0 :: b1 :: b2 :: r)) := by
  rw [decL3 b0 b1 b2 r h0 h, restL_cons]
  by_cases d : 128 ≤ b1 ∧ b1 ≤ 191
  · rw [if_pos d, restL_cons]
    by_cases d2 : 128 ≤ b2 ∧ b2 ≤ 191
    · rw [if_pos d2, restL, endL_some]
      have ev : ((b0 - 224) * 64 + b1 - 128) * 64 + b2 - 128 = (b0 - 224) * 4096 + (b1 - 128) * 64 + (b2 - 128) := by omega
      rw [ev]
      by_cases e : 2048 ≤ (b0 - 224) * 4096 + (b1 - 128) * 64 + (b2 - 128) ∧ ((b0 - 224) * 4096 + (b1 - 128) * 64 + (b2 - 128) < 55296 ∨ 57344 ≤ (b0 - 224) * 4096 + (b1 - 128) * 64 + (b2 - 128))
      · rw [if_pos ⟨d.1, d.2, d2.1, d2.2, e⟩, outL_ok _ _ (by omega), guard_ok]
        · unfold rightB; simp; omega
        · unfold bytesL
          rw [if_neg (by omega), if_neg (by omega), if_pos (by omega)]
          simp only [List.cons.injEq, and_true]; omega
      · rw [if_neg (by omega), outL_bad, guard_bad]
        rintro ⟨h3, h⟩
        unfold rightB at h3
        simp only [decide_eq_true_eq] at h3
        unfold bytesL at h
        split at h
        · simp at h
        rw [if_pos (by omega)] at h
        simp at h
    · rw [if_neg d2, endL_none, if_neg (by omega), outL_bad]
  · rw [if_neg d, endL_none, if_neg (by omega), outL_bad]
theorem list4 (b0 b1 b2 b3 : Int) (r : List Int) (h0 : 240 ≤ b0) (h : b0 ≤ 255) : endL (restL 3 (b1 :: b2 :: b3 :: r) (b0 - 240)) 4 [b0, b1, b2, b3] = outL (decL (b0 :: b1 :: b2 :: b3 :: r)) := by
  rw [decL4 b0 b1 b2 b3 r h0, restL_cons]
  by_cases d : 128 ≤ b1 ∧ b1 ≤ 191
  · rw [if_pos d, restL_cons]
    by_cases d2 : 128 ≤ b2 ∧ b2 ≤ 191
    · rw [if_pos d2, restL_cons]
      by_cases d3 : 128 ≤ b3 ∧ b3 ≤ 191
      · rw [if_pos d3, restL, endL_some]
        have ev : (((b0 - 240) * 64 + b1 - 128) * 64 + b2 - 128) * 64 + b3 - 128 = (b0 - 240) * 262144 + (b1 - 128) * 4096 + (b2 - 128) * 64 + (b3 - 128) := by omega
        rw [ev]
        by_cases e : 65536 ≤ (b0 - 240) * 262144 + (b1 - 128) * 4096 + (b2 - 128) * 64 + (b3 - 128) ∧ (b0 - 240) * 262144 + (b1 - 128) * 4096 + (b2 - 128) * 64 + (b3 - 128) ≤ 1114111
        · rw [if_pos ⟨by omega, d.1, d.2, d2.1, d2.2, d3.1, d3.2, e⟩, outL_ok _ _ (by omega), guard_ok]
          · unfold rightB; simp; omega
          · unfold bytesL
            rw [if_neg (by omega), if_neg (by omega), if_neg (by omega)]
            simp only [List.cons.injEq, and_true]; omega
        · rw [if_neg (by omega), outL_bad, guard_bad]
          rintro ⟨h4, h⟩
          unfold rightB at h4
          simp only [decide_eq_true_eq] at h4
          unfold bytesL at h
          split at h
          · simp at h
          split at h
          · simp at h
          rw [if_pos (by omega)] at h
          simp at h
      · rw [if_neg d3, endL_none, if_neg (by omega), outL_bad]
    · rw [if_neg d2, endL_none, if_neg (by omega), outL_bad]
  · rw [if_neg d, endL_none, if_neg (by omega), outL_bad]
theorem first_list (b0 : Int) (r : List Int) (hall : ∀ x ∈ b0 :: r, 0 ≤ x ∧ x ≤ 255) :
    (if sizeL b0 ≤ r.length + 1 then endL (restL (sizeL b0 - 1) r (bitsL b0)) (sizeL b0) ((b0 :: r).take (sizeL b0)) else (0, 0)) = firstL (b0 :: r) := by
  have h0 := hall b0 (by simp)
  rw [firstL_cons]
  by_cases hs : ¬ sizeL b0 ≤ r.length + 1
  · rw [if_neg hs, decLs b0 r ?_ (by omega), outL_bad]
    unfold sizeL at hs
    by_cases c : 192 ≤ b0
    · exact c
    · rw [if_neg (by omega), if_neg (by omega), if_neg (by omega)] at hs; omega
  have hs := Decidable.of_not_not hs
  rw [if_pos hs]
  by_cases c4 : b0 ≥ 240
  · have e1 : sizeL b0 = 4 := if_pos c4
    have e2 : bitsL b0 = b0 - 240 := if_pos c4
    rw [e1] at hs ⊢
    rw [e2]
    match r, hs with
    | b1 :: b2 :: b3 :: t, _ => exact list4 b0 b1 b2 b3 t c4 h0.2
    | [], hs => simp at hs
    | [_], hs => simp at hs
    | [_, _], hs => simp at hs
  by_cases c3 : b0 ≥ 224
  · have e1 : sizeL b0 = 3 := by unfold sizeL; rw [if_neg c4, if_pos c3]
    have e2 : bitsL b0 = b0 - 224 := by unfold bitsL; rw [if_neg c4, if_pos c3]
    rw [e1] at hs ⊢
    rw [e2]
    match r, hs with
    | b1 :: b2 :: t, _ => exact list3 b0 b1 b2 t c3 (by omega)
    | [], hs => simp at hs
    | [_], hs => simp at hs
  by_cases c2 : b0 ≥ 192
  · have e1 : sizeL b0 = 2 := by unfold sizeL; rw [if_neg c4, if_neg c3, if_pos c2]
    have e2 : bitsL b0 = b0 - 192 := by unfold bitsL; rw [if_neg c4, if_neg c3, if_pos c2]
    rw [e1] at hs ⊢
    rw [e2]
    match r, hs with
    | b1 :: t, _ => exact list2 b0 b1 t c2 (by omega)
    | [], hs => simp at hs
  have e1 : sizeL b0 = 1 := by unfold sizeL; rw [if_neg c4, if_neg c3, if_neg c2]
  have e2 : bitsL b0 = b0 := by unfold bitsL; rw [if_neg c4, if_neg c3, if_neg c2]
  rw [e1, e2]
  by_cases c1 : b0 < 128
  · exact list1 b0 r h0.1 c1
  · exact listb b0 r (by omega) (by omega)
theorem First_eq (k : Nat) (s : ByteArray) : oublietteref02_First.f (k + 6) s = some (firstL (bytesOf s)) := by
  match hb : bytesOf s with
  | [] =>
    have hl : s.size = 0 := by rw [← bytesOf_length s, hb]; rfl
    unfold oublietteref02_First.f
    rw [if_pos (by omega)]
    rfl
  | b0 :: r =>
    have hl : s.size = r.length + 1 := by rw [← bytesOf_length s, hb]; rfl
    have hz : 1 ≤ sizeL b0 ∧ sizeL b0 ≤ 4 := by unfold sizeL; repeat' split
                                                all_goals omega
    have h0 := bytesOf_range s b0 (by rw [hb]; simp)
    rw [show k + 6 = (k + 5) + 1 from rfl, First_head _ s b0 r hb, ← first_list b0 r (by rw [← hb]; exact bytesOf_range s), hl, show (1 : Int) = ((1 : Nat) : Int) from rfl]
    split
    · rename_i hle
      rw [show k + 5 = (k + 5 - (sizeL b0 - 1) - 1) + (sizeL b0 - 1) + 1 from by omega,
        first_rest (sizeL b0 - 1) _ s (sizeL b0) (bitsL b0) 1 (by omega) (by omega) (by omega) (by omega) ?_ ?_, hb]
      · rfl
      · unfold bitsL; repeat' split
        all_goals omega
      · intro hne
        unfold sizeL bitsL at *
        split
        · simp; omega
        rename_i n4
        rw [if_neg n4] at hne
        split
        · simp; omega
        rename_i n3
        rw [if_neg n3] at hne
        split
        · simp; omega
        rename_i n2
        rw [if_neg n2] at hne
        omega
    · rfl
end Go.Proofs.YtdcknajlioalgaaDoor.QD
namespace Go.Proofs.YtdcknajlioalgaaDoor.QD
open Go.RowKit Go.Proofs.YtdcknajlioalgaaDoorW.PrintWords Go.Proofs.YtdcknajlioalgaaDoorW.PrintLast Go.Proofs.YtdcknajlioalgaaDoorW.PrintMore
set_option linter.unusedVariables false
set_option linter.unusedSimpArgs false
theorem decL_width (l : List Int) : (decL l).2 ≤ max 1 l.length := by
  unfold decL
  repeat' split
  all_goals simp
  all_goals omega
theorem decode_within (s : ByteArray) (i : Nat) (h : i < s.size) : i + (Utf8.decode s i).2 ≤ s.size := by
  have h1 := decode_decL s i h
  have h2 := decL_width ((bytesOf s).drop i)
  rw [← h1] at h2
  rw [List.length_drop, bytesOf_length] at h2
  simp only at h2
  omega
theorem first_decode (k : Nat) (s : ByteArray) (i : Nat) (h : i < s.size) :
    oublietteref02_First.f (k + 6) (s.extract i s.size) = some (outL (((Utf8.decode s i).1 : Int), (Utf8.decode s i).2)) := by
  rw [First_eq, decode_decL s i h, bytesOf_extract, List.take_of_length_le (by rw [bytesOf_length]; exact Nat.le_refl _)]
  have hc : (bytesOf s).drop i = (bytesOf s).getD i 0 :: (bytesOf s).drop (i + 1) := by
    rw [List.getD_eq_getElem?_getD, List.getElem?_eq_getElem (by rw [bytesOf_length]; omega)]
    simp
  rw [hc, firstL_cons]
theorem runes_step (s : ByteArray) (hs : s.size ≤ 1000000) : ∀ (b pos k : Nat) (acc : List Int), pos ≤ s.size → s.size - pos ≤ b → acc.length ≤ pos →
    ∃ res, oublietteref02_Runes.l0 (k + b + 7) s acc pos = some res ∧ ((res.2.2 = 0 ∧ res.1 = acc ++ runesG s b pos) ∨ (res.2.2 = 4 ∧ (65533 : Int) ∈ runesG s b pos))
  | 0, pos, k, acc, h1, h2, h3 => by
    refine ⟨(acc, 0, 0), ?_, Or.inl ⟨rfl, by simp [runesG]⟩⟩
    rw [show k + 0 + 7 = (k + 6) + 1 from rfl]
    rw [oublietteref02_Runes.l0.eq_2]
    rw [if_neg (by omega)]
  | b + 1, pos, k, acc, h1, h2, h3 => by
    rw [show k + (b + 1) + 7 = (k + b + 7) + 1 from by omega]
    rw [oublietteref02_Runes.l0.eq_2]
    by_cases hp : pos < s.size
    · rw [if_pos (by omega), if_pos (by omega), if_pos (by omega), show (pos : Int).toNat = pos from rfl, show k + b + 7 = (k + b + 1) + 6 from by omega, first_decode _ s pos hp]
      simp only [Option.bind_some]
      have hw := width_pos s pos hp
      have hi := decode_within s pos hp
      by_cases hd : (((Utf8.decode s pos).1 : Int), (Utf8.decode s pos).2) = ((65533 : Int), 1)
      · rw [hd, outL_bad]
        refine ⟨([], pos, 4), rfl, Or.inr ⟨rfl, ?_⟩⟩
        unfold runesG
        rw [if_pos hp]
        injection hd with hd1 hd2
        rw [hd1]
        simp
      · rw [outL_ok _ _ (fun h => hd (by rw [h.1, h.2]))]
        simp only []
        rw [if_neg (by omega), if_pos (by omega)]
        have e : wrap64 ((pos : Int) + ((Utf8.decode s pos).2 : Int)) = ((pos + (Utf8.decode s pos).2 : Nat) : Int) := by unfold wrap64; omega
        rw [e, show (k + b + 1) + 6 = k + b + 7 from by omega]
        obtain ⟨res, hr, ho⟩ := runes_step s hs b (pos + (Utf8.decode s pos).2) k (acc ++ [((Utf8.decode s pos).1 : Int)]) (by omega) (by omega) (by simp; omega)
        refine ⟨res, hr, ?_⟩
        unfold runesG
        rw [if_pos hp]
        rcases ho with ⟨a, b⟩ | ⟨a, b⟩
        · exact Or.inl ⟨a, by rw [b]; simp⟩
        · exact Or.inr ⟨a, by simp [b]⟩
    · rw [if_neg (by omega)]
      refine ⟨(acc, 0, 0), rfl, Or.inl ⟨rfl, ?_⟩⟩
      rw [runesG_end s _ _ hp]
      simp
theorem ref02_Upper_eq (r : Int) : oublietteref02_Upper.f r = some (upperB r) := by
  unfold oublietteref02_Upper.f upperB
  repeat' split
  all_goals (rw [Option.some.injEq, Bool.eq_iff_iff]; simp; omega)
theorem ref02_Letter_eq (r : Int) : oublietteref02_Letter.f r = some (letterB r) := by
  unfold oublietteref02_Letter.f
  simp only [ref02_Upper_eq, Option.bind_some]
  unfold upperB letterB
  repeat' split
  all_goals (rw [Option.some.injEq, Bool.eq_iff_iff]; simp at *; omega)
theorem ref03_small_eq (r : Int) : oublietteref03_small.f r = some (smallB r) := by
  unfold oublietteref03_small.f
  rw [ref02_Letter_eq, ref02_Upper_eq]
  simp only [Option.bind_some]
  unfold upperB letterB smallB
  repeat' split
  all_goals (rw [Option.some.injEq, Bool.eq_iff_iff]; simp at *; omega)
theorem part_loop (l : List Int) (hl : l.length ≤ 8) : ∀ (b i k : Nat), i + b = l.length → oublietteref03_Part.l0 (k + b + 1) l i = some ((l.drop i).all smallB)
  | 0, i, k, h => by
    rw [oublietteref03_Part.l0.eq_2]
    rw [if_neg (by omega), List.drop_of_length_le (by omega)]
    rfl
  | b + 1, i, k, h => by
    rw [show k + (b + 1) + 1 = (k + b + 1) + 1 from by omega]
    rw [oublietteref03_Part.l0.eq_2]
    have hd : l.drop i = l.getD i 0 :: l.drop (i + 1) := by
      rw [List.getD_eq_getElem?_getD, List.getElem?_eq_getElem (by omega)]
      simp
    have hr : rd l (i : Int) = l.getD i 0 := by simp [rd, List.getD_eq_getElem?_getD]
    rw [if_pos (by omega), if_pos (by omega), ref03_small_eq, hr, hd, List.all_cons]
    simp only [Option.bind_some]
    by_cases c : smallB (l.getD i 0) = true
    · rw [if_pos c, show wrap64 ((i : Int) + 1) = ((i + 1 : Nat) : Int) from by unfold wrap64; omega, part_loop l hl b (i + 1) k (by omega), c]
      simp
    · rw [if_neg c]
      have c' := Bool.eq_false_iff.2 c
      rw [c']
      rfl
theorem part_ref (s : ByteArray) (hs : s.size ≤ 1000000) (k : Nat) :
    oublietteref03_Part.f (k + s.size + 20) s = name_Part.f s := by
  unfold name_Part.f oublietteref03_Part.f oublietteref02_Runes.f
  rw [if_pos (by omega)]
  obtain ⟨res, hr, ho⟩ := runes_step s hs s.size 0 (k + 13) [] (by omega) (by omega) (by simp)
  rw [show k + s.size + 20 = k + 13 + s.size + 7 from by omega]
  have hr' : oublietteref02_Runes.l0 (k + 13 + s.size + 7) s [] 0 = some res := hr
  rw [hr']
  simp only [Option.bind_some]
  rcases ho with ⟨a, b⟩ | ⟨a, b⟩
  · have b' : res.1 = runesOf s := b
    rw [if_pos a, b']
    clear b b'
    generalize runesOf s = l
    by_cases h1 : (l.length : Int) < 1
    · rw [if_pos h1, show k + 13 + s.size + 7 = (k + s.size + 19) + 1 from by omega]
      rw [oublietteref03_Part.j0.eq_2]
      rw [if_pos rfl]
      congr 1
      have : decide (1 ≤ l.length) = false := decide_eq_false (by omega)
      rw [this]; simp
    · rw [if_neg h1, show k + 13 + s.size + 7 = (k + s.size + 19) + 1 from by omega]
      rw [oublietteref03_Part.j0.eq_2]
      by_cases h8 : (l.length : Int) > 8
      · rw [if_pos (decide_eq_true h8)]
        congr 1
        have : decide (l.length ≤ 8) = false := decide_eq_false (by omega)
        rw [this]; simp
      · rw [if_neg (by simpa using h8), show k + s.size + 19 = (k + s.size + 18 - l.length) + l.length + 1 from by omega]
        have := part_loop l (by omega) l.length 0 (k + s.size + 18 - l.length) (by omega)
        rw [show ((0 : Nat) : Int) = 0 from rfl] at this
        rw [this, List.drop_zero]
        congr 1
        have e1 : decide (1 ≤ l.length) = true := decide_eq_true (by omega)
        have e2 : decide (l.length ≤ 8) = true := decide_eq_true (by omega)
        rw [e1, e2]; simp
  · rw [if_neg (by omega), show k + 13 + s.size + 7 = (k + s.size + 19) + 1 from by omega]
    rw [oublietteref03_Part.j0.eq_2]
    rw [if_pos rfl]
    congr 1
    have : (runesOf s).all smallB = false := by
      rw [List.all_eq_false]
      exact ⟨65533, b, by decide⟩
    rw [this]; rfl
end Go.Proofs.YtdcknajlioalgaaDoor.QD
namespace Go.Proofs.YtdcknajlioalgaaDoor.QD
open Go.RowKit Go.Proofs.YtdcknajlioalgaaDoorW.PrintWords Go.Proofs.YtdcknajlioalgaaDoorW.PrintLast Go.Proofs.YtdcknajlioalgaaDoorW.PrintMore Go.Proofs.YtdcknajlioalgaaDoor.Hex
set_option linter.unusedVariables false
set_option linter.unusedSimpArgs false
theorem ref_part (s : ByteArray) (hs : s.size ≤ 1000000) (k : Nat) (r : ByteArray) (h : op_part.f s = some r) :
    ((oublietteref03_Part.f (k + s.size + 20) s).bind fun t => if t = true then some s else some (⟨#[]⟩ : ByteArray)) = some r := by
  rw [part_ref s hs k]
  exact h
theorem ref_count (n : Int) (k : Nat) (r : ByteArray) (h : op_count.f n = some r) : oublietteref39_count.f (k + 14) n = some r := by
  unfold op_count.f at h
  unfold oublietteref39_count.f
  by_cases c1 : n > 1073741824
  · rw [if_pos c1] at h
    rw [if_neg (by omega), if_pos c1]
    exact h
  · rw [if_neg c1] at h
    by_cases c2 : n < 0
    · have e : num_Print.f n = some ⟨#[]⟩ := by unfold num_Print.f; rw [if_pos c2]
      rw [e, Option.bind_some] at h
      rw [if_pos c2]
      exact h
    · rw [if_neg c2, if_neg c1, ref_print n (by omega) (by omega) k]
      exact h
theorem ref_said (v : Int) : oublietteref39_said.f v = some (sayS v) := by
  unfold oublietteref39_said.f
  by_cases c1 : v < 1
  · rw [if_pos c1]; unfold sayS; rw [if_neg (by omega), if_neg (by omega), if_neg (by omega)]
  · by_cases c2 : v > 3
    · rw [if_neg c1, if_pos c2]; unfold sayS; rw [if_neg (by omega), if_neg (by omega), if_neg (by omega)]
    · rcases (show v = 1 ∨ v = 2 ∨ v = 3 by omega) with rfl | rfl | rfl <;> decide +kernel
theorem ref_field (o : OpV) (hG : o.G.size ≤ 1000000) (hI : o.I.size ≤ 1000000) (sign : Int) (r : ByteArray) (h : o.field sign = some r) :
    oublietteref39_field.f (o.G.size + o.I.size + 40) o.K o.G o.I o.E o.S o.N o.V o.X sign = some r := by
  unfold OpV.field fieldP at h
  unfold oublietteref39_field.f
  by_cases c1 : sign = 103
  · rw [if_pos c1] at h ⊢
    have := ref_part o.G hG (o.I.size + 20) r h
    rw [show o.I.size + 20 + o.G.size + 20 = o.G.size + o.I.size + 40 by omega] at this
    exact this
  rw [if_neg c1] at h ⊢
  by_cases c2 : sign = 105
  · rw [if_pos c2] at h ⊢
    have := ref_part o.I hI (o.G.size + 20) r h
    rw [show o.G.size + 20 + o.I.size + 20 = o.G.size + o.I.size + 40 by omega] at this
    exact this
  rw [if_neg c2] at h ⊢
  by_cases c3 : sign = 101
  · rw [if_pos c3] at h ⊢
    rw [show o.G.size + o.I.size + 40 = (o.G.size + o.I.size + 26) + 14 by omega, ref_count _ _ _ h]
    rfl
  rw [if_neg c3] at h ⊢
  by_cases c4 : sign = 115
  · rw [if_pos c4] at h ⊢
    rw [show o.G.size + o.I.size + 40 = (o.G.size + o.I.size + 26) + 14 by omega, ref_count _ _ _ h]
    rfl
  rw [if_neg c4] at h ⊢
  by_cases c5 : sign = 110
  · rw [if_pos c5] at h ⊢
    rw [show o.G.size + o.I.size + 40 = (o.G.size + o.I.size + 26) + 14 by omega, ref_count _ _ _ h]
    rfl
  rw [if_neg c5] at h ⊢
  by_cases c6 : sign = 118
  · rw [if_pos c6] at h ⊢
    rw [ref_said]
    exact h
  rw [if_neg c6] at h ⊢
  by_cases c7 : sign = 120
  · rw [if_pos c7] at h ⊢
    by_cases c8 : o.X.length = 32
    · rw [if_pos c8] at h
      rw [if_pos (by omega)]
      have h' : oublietteref04_Print.f o.X = some r := h
      rw [h']
      rfl
    · rw [if_neg c8] at h
      rw [if_neg (by omega)]
      exact h
  rw [if_neg c7] at h ⊢
  exact h
end Go.Proofs.YtdcknajlioalgaaDoor.QD
namespace Go.Proofs.YtdcknajlioalgaaDoor.QD
open Go.RowKit Go.Proofs.YtdcknajlioalgaaDoorW.PrintWords Go.Proofs.YtdcknajlioalgaaDoorW.PrintLast Go.Proofs.YtdcknajlioalgaaDoorW.PrintMore Go.Proofs.YtdcknajlioalgaaDoor.Hex
set_option linter.unusedVariables false
set_option linter.unusedSimpArgs false
end Go.Proofs.YtdcknajlioalgaaDoor.QD
namespace Go.Proofs.YtdcknajlioalgaaDoor.QD
open Go.RowKit Go.Proofs.YtdcknajlioalgaaDoorW.PrintWords Go.Proofs.YtdcknajlioalgaaDoorW.PrintLast Go.Proofs.YtdcknajlioalgaaDoorW.PrintMore
attribute [local go_sem] max2_int min2_int max_two min_two max_three min_three max_four min_four   -- for this text's walks alone
set_option linter.unusedVariables false
set_option linter.unusedSimpArgs false

/-! ### oublietteref39_with: function 44 -/
def oublietteref39_with.f (a0_0 : Int) (a0_1 : ByteArray) (a0_2 : ByteArray) (a0_3 : Int) (a0_4 : Int) (a0_5 : Int) (a0_6 : Int) (l0_7 : List Int) (a1 : Int) (a2 : ByteArray) : Option (Int × ByteArray × ByteArray × Int × Int × Int × Int × List Int × Bool) :=
  if a2.size ≤ 1000000 ∧ a0_1.size ≤ 1000000 ∧ a0_2.size ≤ 1000000 ∧ (a1 = 118 → a0_6 = 0) then
    ((OpV.mk a0_0 a0_1 a0_2 a0_3 a0_4 a0_5 a0_6 l0_7).fits a1 a2).map fun t =>
      (((OpV.mk a0_0 a0_1 a0_2 a0_3 a0_4 a0_5 a0_6 l0_7).set a1 a2).K, ((OpV.mk a0_0 a0_1 a0_2 a0_3 a0_4 a0_5 a0_6 l0_7).set a1 a2).G, ((OpV.mk a0_0 a0_1 a0_2 a0_3 a0_4 a0_5 a0_6 l0_7).set a1 a2).I, ((OpV.mk a0_0 a0_1 a0_2 a0_3 a0_4 a0_5 a0_6 l0_7).set a1 a2).E,
        ((OpV.mk a0_0 a0_1 a0_2 a0_3 a0_4 a0_5 a0_6 l0_7).set a1 a2).S, ((OpV.mk a0_0 a0_1 a0_2 a0_3 a0_4 a0_5 a0_6 l0_7).set a1 a2).N, ((OpV.mk a0_0 a0_1 a0_2 a0_3 a0_4 a0_5 a0_6 l0_7).set a1 a2).V, ((OpV.mk a0_0 a0_1 a0_2 a0_3 a0_4 a0_5 a0_6 l0_7).set a1 a2).X, t)
  else none
end Go.Proofs.YtdcknajlioalgaaDoor.QD
