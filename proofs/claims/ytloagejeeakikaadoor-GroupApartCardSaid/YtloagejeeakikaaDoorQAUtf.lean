/- Text of this claim: plain Lean over the printed functions (Utf). -/
import Derived.Test.YtloagejeeakikaaDoorQA
namespace Go.Proofs.YtloagejeeakikaaDoor.QA
open Go.RowKit Go.Proofs.YtloagejeeakikaaDoorW.PrintWords Go.Proofs.YtloagejeeakikaaDoorW.PrintLast Go.Proofs.YtloagejeeakikaaDoorW.PrintMore
set_option linter.unusedVariables false
set_option linter.unusedSimpArgs false

theorem bytesOf_range (s : ByteArray) : ∀ x ∈ bytesOf s, 0 ≤ x ∧ x ≤ 255 := by
  intro x hx
  simp only [bytesOf, List.mem_map] at hx
  obtain ⟨b, _, rfl⟩ := hx
  have := b.toNat_lt
  omega
theorem bt_eq (s : ByteArray) (i : Nat) : bt s (i : Int) = (bytesOf s).getD i 0 := by
  unfold bt bytesOf
  split
  · rename_i h
    have h2 : i < s.data.toList.length := by simpa using h
    simp [List.getD_eq_getElem?_getD, List.getElem?_eq_getElem h2]
    rfl
  · rename_i h
    have h2 : s.data.toList.length ≤ i := by simpa using h
    simp [List.getD_eq_getElem?_getD, List.getElem?_eq_none h2]
theorem get_eq (s : ByteArray) (i : Nat) (h : i < s.size) : ((s.get! i).toNat : Int) = (bytesOf s).getD i 0 := by
  rw [← bt_eq]
  have e : s.get! i = s[i]'h := by
    have := get_at s i h
    simpa using this
  rw [e]
  simp [bt, h]
theorem bytesOf_extract (s : ByteArray) (i j : Nat) : bytesOf (s.extract i j) = ((bytesOf s).take j).drop i := by
  unfold bytesOf
  rw [← List.map_take, ← List.map_drop]
  congr 1
  have h : (s.extract i j).data = s.data.extract i j := by simp
  rw [h]
  simp [Array.toList_extract, List.extract_eq_take_drop, List.drop_take]
theorem bytesOf_strOfNums (xs : List Int) (h : ∀ x ∈ xs, 0 ≤ x ∧ x ≤ 255) : bytesOf (strOfNums xs) = xs := by
  unfold bytesOf
  rw [strOfNums_data, List.map_map]
  conv => rhs; rw [← List.map_id xs]
  apply List.map_congr_left
  intro x hx
  have := h x hx
  simp
  omega
theorem toList_iff (a b : ByteArray) : a.toList = b.toList ↔ bytesOf a = bytesOf b := by
  rw [ByteArray.toList_eq, ByteArray.toList_eq]
  unfold bytesOf
  constructor
  · intro h; rw [h]
  · intro h
    refine List.map_inj_right (fun x y e => ?_) |>.1 h
    have : x.toNat = y.toNat := by exact_mod_cast e
    exact UInt8.toNat_inj.1 this
theorem bytesOf_nil_iff (a : ByteArray) : a.toList = ([] : List UInt8) ↔ a.size = 0 := by
  rw [ByteArray.toList_eq, ← List.length_eq_zero_iff]
  simp
/-- The first rune of bytes, and its width, as a range over a string tells it: what is none is (65533, 1). -/
def decL : List Int → Int × Nat
  | [] => (65533, 1)
  | b0 :: r =>
    if b0 < 128 then (b0, 1)
    else if 192 ≤ b0 ∧ b0 < 224 then match r with
      | b1 :: _ => if 128 ≤ b1 ∧ b1 ≤ 191 ∧ 128 ≤ (b0 - 192) * 64 + (b1 - 128) then ((b0 - 192) * 64 + (b1 - 128), 2) else (65533, 1)
      | _ => (65533, 1)
    else if 224 ≤ b0 ∧ b0 < 240 then match r with
      | b1 :: b2 :: _ => if 128 ≤ b1 ∧ b1 ≤ 191 ∧ 128 ≤ b2 ∧ b2 ≤ 191 ∧ 2048 ≤ (b0 - 224) * 4096 + (b1 - 128) * 64 + (b2 - 128) ∧ ((b0 - 224) * 4096 + (b1 - 128) * 64 + (b2 - 128) < 55296 ∨ 57344 ≤ (b0 - 224) * 4096 + (b1 - 128) * 64 + (b2 - 128))
          then ((b0 - 224) * 4096 + (b1 - 128) * 64 + (b2 - 128), 3) else (65533, 1)
      | _ => (65533, 1)
    else if 240 ≤ b0 ∧ b0 < 248 then match r with
      | b1 :: b2 :: b3 :: _ => if 128 ≤ b1 ∧ b1 ≤ 191 ∧ 128 ≤ b2 ∧ b2 ≤ 191 ∧ 128 ≤ b3 ∧ b3 ≤ 191 ∧ 65536 ≤ (b0 - 240) * 262144 + (b1 - 128) * 4096 + (b2 - 128) * 64 + (b3 - 128) ∧ (b0 - 240) * 262144 + (b1 - 128) * 4096 + (b2 - 128) * 64 + (b3 - 128) ≤ 1114111
          then ((b0 - 240) * 262144 + (b1 - 128) * 4096 + (b2 - 128) * 64 + (b3 - 128), 4) else (65533, 1)
      | _ => (65533, 1)
    else (65533, 1)
/-- The same, out of bytes given by place. -/
def decB (n : Nat) (b0 b1 b2 b3 : Nat) : Nat × Nat :=
  if b0 < 0x80 then (b0, 1)
  else if b0 / 32 == 6 && (1 < n && b1 / 64 == 2) then
    let c := (b0 % 32) * 64 + b1 % 64
    if c ≥ 0x80 then (c, 2) else (Utf8.runeError, 1)
  else if b0 / 16 == 14 && (1 < n && b1 / 64 == 2) && (2 < n && b2 / 64 == 2) then
    let c := (b0 % 16) * 4096 + (b1 % 64) * 64 + b2 % 64
    if c ≥ 0x800 && Utf8.valid c then (c, 3) else (Utf8.runeError, 1)
  else if b0 / 8 == 30 && (1 < n && b1 / 64 == 2) && (2 < n && b2 / 64 == 2) && (3 < n && b3 / 64 == 2) then
    let c := (b0 % 8) * 262144 + (b1 % 64) * 4096 + (b2 % 64) * 64 + b3 % 64
    if c ≥ 0x10000 && Utf8.valid c then (c, 4) else (Utf8.runeError, 1)
  else (Utf8.runeError, 1)
theorem dec_decB (s : ByteArray) (i : Nat) : Utf8.decode s i = decB (s.size - i) (s.get! (i + 0)).toNat (s.get! (i + 1)).toNat (s.get! (i + 2)).toNat (s.get! (i + 3)).toNat := by
  have e1 : (decide (1 < s.size - i)) = decide (i + 1 < s.size) := by congr 1; simp; omega
  have e2 : (decide (2 < s.size - i)) = decide (i + 2 < s.size) := by congr 1; simp; omega
  have e3 : (decide (3 < s.size - i)) = decide (i + 3 < s.size) := by congr 1; simp; omega
  unfold Utf8.decode decB
  simp only [e1, e2, e3]
set_option maxHeartbeats 4000000 in
theorem decB_one (n b0 b1 b2 b3 : Nat) (h0 : b0 < 256) (h1 : b1 < 256) (h2 : b2 < 256) (h3 : b3 < 256) (r : List Int) (hr : n = r.length + 1)
    (e1 : 1 < n → r[0]? = some (b1 : Int)) (e2 : 2 < n → r[1]? = some (b2 : Int)) (e3 : 3 < n → r[2]? = some (b3 : Int)) :
    (((decB n b0 b1 b2 b3).1 : Int), (decB n b0 b1 b2 b3).2) = decL ((b0 : Int) :: r) := by
  have hv : ∀ c : Nat, Utf8.valid (c : Int) = decide (c < 55296 ∨ (57344 ≤ c ∧ c ≤ 1114111)) := by
    intro c
    unfold Utf8.valid
    rw [Bool.eq_iff_iff]
    simp
    omega
  unfold decB
  simp only [Bool.and_eq_true, beq_iff_eq, decide_eq_true_eq, hv, Utf8.runeError, ge_iff_le]
  match r, hr, e1, e2, e3 with
  | [], hr, e1, e2, e3 =>
    simp only [List.length_nil] at hr
    simp only [decL]
    repeat' split
    all_goals first | rfl | (exfalso; omega) | (refine Prod.ext ?_ ?_ <;> dsimp only <;> omega)
  | [x1], hr, e1, e2, e3 =>
    simp only [List.length_cons, List.length_nil] at hr
    have e1' : x1 = b1 := by simpa using e1 (by omega)
    subst e1'
    clear e1 e2 e3
    simp only [decL]

    repeat' split
    all_goals first | rfl | (exfalso; omega) | (refine Prod.ext ?_ ?_ <;> dsimp only <;> omega)
  | [x1, x2], hr, e1, e2, e3 =>
    simp only [List.length_cons, List.length_nil] at hr
    have e1' : x1 = b1 := by simpa using e1 (by omega)
    have e2' : x2 = b2 := by simpa using e2 (by omega)
    subst e1' e2'
    clear e1 e2 e3
    simp only [decL]

    repeat' split
    all_goals first | rfl | (exfalso; omega) | (refine Prod.ext ?_ ?_ <;> dsimp only <;> omega)
  | x1 :: x2 :: x3 :: t, hr, e1, e2, e3 =>
    simp only [List.length_cons, List.length_nil] at hr
    have e1' : x1 = b1 := by simpa using e1 (by omega)
    have e2' : x2 = b2 := by simpa using e2 (by omega)
    have e3' : x3 = b3 := by simpa using e3 (by omega)
    subst e1' e2' e3'
    clear e1 e2 e3
    simp only [decL]

    repeat' split
    all_goals first | rfl | (exfalso; omega) | (refine Prod.ext ?_ ?_ <;> dsimp only <;> omega)
theorem decode_decL (s : ByteArray) (i : Nat) (h : i < s.size) : (((Utf8.decode s i).1 : Int), (Utf8.decode s i).2) = decL ((bytesOf s).drop i) := by
  have hl : (bytesOf s).length = s.size := bytesOf_length s
  have hget : ∀ j, j < s.size → ((s.get! j).toNat : Int) = (bytesOf s).getD j 0 := fun j hj => get_eq s j hj
  have hc : (bytesOf s).drop i = (bytesOf s).getD i 0 :: (bytesOf s).drop (i + 1) := by
    rw [List.getD_eq_getElem?_getD, List.getElem?_eq_getElem (by omega)]
    simp
  rw [dec_decB, hc, ← hget i h]
  refine decB_one _ _ _ _ _ ?_ ?_ ?_ ?_ _ ?_ ?_ ?_ ?_
  · exact UInt8.toNat_lt _
  · exact UInt8.toNat_lt _
  · exact UInt8.toNat_lt _
  · exact UInt8.toNat_lt _
  · rw [List.length_drop]; omega
  · intro h1; rw [hget _ (by omega), List.getElem?_drop, List.getD_eq_getElem?_getD, List.getElem?_eq_getElem (show i + 1 < _ by omega)]; rfl
  · intro h1; rw [hget _ (by omega), List.getElem?_drop, List.getD_eq_getElem?_getD, List.getElem?_eq_getElem (show i + 2 < _ by omega)]; rfl
  · intro h1; rw [hget _ (by omega), List.getElem?_drop, List.getD_eq_getElem?_getD, List.getElem?_eq_getElem (show i + 3 < _ by omega)]; rfl
/-- The document's: the first rune of bytes, and its width; (0, 0): none. -/
def firstL : List Int → Int × Int
  | [] => (0, 0)
  | b0 :: r => if decL (b0 :: r) = (65533, 1) then (0, 0) else ((decL (b0 :: r)).1, ((decL (b0 :: r)).2 : Int))
def rightB (r : Int) : Bool := decide (0 ≤ r ∧ r ≤ 1114111 ∧ (r < 55296 ∨ 57343 < r))
theorem ref02_Right_eq (r : Int) : oublietteref02_Right.f r = some (rightB r) := by
  unfold oublietteref02_Right.f rightB
  repeat' split
  all_goals (rw [Option.some.injEq, Bool.eq_iff_iff]; simp; omega)
def bytesL (r : Int) : List Int :=
  if r < 128 then [r] else if r < 2048 then [192 + r / 64, 128 + r % 64] else if r < 65536 then [224 + r / 4096, 128 + r / 64 % 64, 128 + r % 64]
  else [240 + r / 262144, 128 + r / 4096 % 64, 128 + r / 64 % 64, 128 + r % 64]
theorem ref02_Bytes_eq (r : Int) (h0 : 0 ≤ r) (h1 : r ≤ 1114111) : oublietteref02_Bytes.f r = some (bytesL r) := by
  unfold oublietteref02_Bytes.f bytesL
  have d1 : Int.tdiv r 64 = r / 64 := Int.tdiv_eq_ediv_of_nonneg h0
  have d2 : Int.tdiv r 4096 = r / 4096 := Int.tdiv_eq_ediv_of_nonneg h0
  have d3 : Int.tdiv r 262144 = r / 262144 := Int.tdiv_eq_ediv_of_nonneg h0
  have w : ∀ x : Int, 0 ≤ x → x ≤ 2147483647 → wrap32 x = x := fun x a b => by unfold wrap32; omega
  rw [d1, d2, d3, w (r / 64) (by omega) (by omega), w (r / 4096) (by omega) (by omega), w (r / 262144) (by omega) (by omega)]
  have m0 : Int.tmod r 64 = r % 64 := Int.tmod_eq_emod_of_nonneg h0
  have m1 : Int.tmod (r / 64) 64 = r / 64 % 64 := Int.tmod_eq_emod_of_nonneg (by omega)
  have m2 : Int.tmod (r / 4096) 64 = r / 4096 % 64 := Int.tmod_eq_emod_of_nonneg (by omega)
  rw [m0, m1, m2, w (192 + r / 64) (by omega) (by omega), w (128 + r % 64) (by omega) (by omega), w (224 + r / 4096) (by omega) (by omega), w (128 + r / 64 % 64) (by omega) (by omega), w (240 + r / 262144) (by omega) (by omega), w (128 + r / 4096 % 64) (by omega) (by omega)]
  repeat' split
  all_goals (congr 1; simp only [List.cons.injEq, and_true]; omega)
theorem bytesL_range (r : Int) (h0 : 0 ≤ r) (h1 : r ≤ 1114111) : ∀ x ∈ bytesL r, 0 ≤ x ∧ x ≤ 255 := by
  unfold bytesL
  repeat' split
  all_goals (simp only [List.mem_cons, List.not_mem_nil, or_false]; rintro x hx; omega)
theorem first_fin (k : Nat) (s : ByteArray) (n : Nat) (r x7 : Int) (hn : n ≤ s.size) (h7 : ¬ x7 < (n : Int)) :
    oublietteref02_First.l0 (k + 1) s n r x7 = some (if rightB r = true ∧ bytesL r = (bytesOf s).take n then (r, (n : Int)) else (0, 0)) := by
  simp only [oublietteref02_First.l0]
  rw [if_neg h7, ref02_Right_eq]
  simp only [Option.bind_some]
  by_cases hr : rightB r = true
  · have hr' := hr
    unfold rightB at hr'
    simp only [decide_eq_true_eq] at hr'
    rw [if_pos hr, ref02_Bytes_eq r hr'.1 hr'.2.1]
    simp only [Option.bind_some]
    rw [if_pos (by omega), if_pos (by omega)]
    have e : (strOfNums (bytesL r)).toList = (s.extract 0 ((n : Int)).toNat).toList ↔ bytesL r = (bytesOf s).take n := by
      rw [toList_iff, bytesOf_strOfNums _ (bytesL_range r hr'.1 hr'.2.1), bytesOf_extract]
      simp
    by_cases hb : bytesL r = (bytesOf s).take n
    · rw [if_pos (e.2 hb), if_pos ⟨hr, hb⟩]
    · rw [if_neg (fun h => hb (e.1 h)), if_neg (fun h => hb h.2)]
  · rw [if_neg hr, if_neg (fun h => hr h.1)]
theorem first_bad (k : Nat) (s : ByteArray) (n : Nat) (r : Int) (i : Nat) (hn : n ≤ s.size) (hi : i < n) (hb : (bytesOf s).getD i 0 < 128 ∨ 191 < (bytesOf s).getD i 0) :
    oublietteref02_First.l0 (k + 1) s n r i = some (0, 0) := by
  simp only [oublietteref02_First.l0]
  rw [if_pos (by omega), if_pos (by omega), if_pos (by omega), bt_eq]
  by_cases h : (bytesOf s).getD i 0 < 128
  · rw [if_pos h]
  · rw [if_neg h, if_pos (by omega)]
theorem first_next (k : Nat) (s : ByteArray) (n : Nat) (r : Int) (i : Nat) (hn : n ≤ s.size) (hi : i < n) (hs : n ≤ 4) (hb : 128 ≤ (bytesOf s).getD i 0 ∧ (bytesOf s).getD i 0 ≤ 191) (h0 : 0 ≤ r) (h1 : r ≤ 1048576) :
    oublietteref02_First.l0 (k + 1) s n r i = oublietteref02_First.l0 k s n (r * 64 + (bytesOf s).getD i 0 - 128) (i + 1 : Nat) := by
  have w : ∀ x : Int, -2147483648 ≤ x → x ≤ 2147483647 → wrap32 x = x := fun x a b => by unfold wrap32; omega
  simp only [oublietteref02_First.l0]
  rw [if_pos (by omega), if_pos (by omega), if_pos (by omega), bt_eq, if_neg (by omega), if_neg (by omega), w (r * 64) (by omega) (by omega), w ((bytesOf s).getD i 0) (by omega) (by omega), w (r * 64 + (bytesOf s).getD i 0) (by omega) (by omega), w (r * 64 + (bytesOf s).getD i 0 - 128) (by omega) (by omega)]
  have : wrap64 ((i : Int) + 1) = ((i + 1 : Nat) : Int) := by unfold wrap64; omega
  rw [this]

/-- How many bytes the first byte asks for, and the bits it gives. -/
def sizeL (b : Int) : Nat := if b ≥ 240 then 4 else if b ≥ 224 then 3 else if b ≥ 192 then 2 else 1
def bitsL (b : Int) : Int := if b ≥ 240 then b - 240 else if b ≥ 224 then b - 224 else if b ≥ 192 then b - 192 else b
theorem First_head (k : Nat) (s : ByteArray) (b0 : Int) (r : List Int) (hb : bytesOf s = b0 :: r) :
    oublietteref02_First.f (k + 1) s = if (sizeL b0) ≤ s.size then oublietteref02_First.l0 k s (sizeL b0) (bitsL b0) 1 else some (0, 0) := by
  have hl : s.size = r.length + 1 := by rw [← bytesOf_length s, hb]; rfl
  have hr := bytesOf_range s b0 (by rw [hb]; simp)
  have e0 : bt s 0 = b0 := by
    have := bt_eq s 0
    rw [hb] at this
    simpa using this
  have w : ∀ x : Int, -2147483648 ≤ x → x ≤ 2147483647 → wrap32 x = x := fun x a b => by unfold wrap32; omega
  unfold oublietteref02_First.f
  rw [if_neg (by omega), if_pos (by omega), e0, w b0 (by omega) (by omega)]
  unfold sizeL bitsL
  by_cases h4 : b0 ≥ 240
  · simp only [if_pos h4]
    rw [w _ (by omega) (by omega)]
    simp only [oublietteref02_First.j0]
    by_cases hs : (4 : Int) > (s.size : Int)
    · rw [if_pos hs, if_neg (by omega)]
    · rw [if_neg hs, if_pos (by omega)]; rfl
  · simp only [if_neg h4]
    by_cases h3 : b0 ≥ 224
    · simp only [if_pos h3]
      rw [w _ (by omega) (by omega)]
      simp only [oublietteref02_First.j0]
      by_cases hs : (3 : Int) > (s.size : Int)
      · rw [if_pos hs, if_neg (by omega)]
      · rw [if_neg hs, if_pos (by omega)]; rfl
    · simp only [if_neg h3]
      by_cases h2 : b0 ≥ 192
      · simp only [if_pos h2]
        rw [w _ (by omega) (by omega)]
        simp only [oublietteref02_First.j0]
        by_cases hs : (2 : Int) > (s.size : Int)
        · rw [if_pos hs, if_neg (by omega)]
        · rw [if_neg hs, if_pos (by omega)]; rfl
      · simp only [if_neg h2]
        simp only [oublietteref02_First.j0]
        rw [if_neg (by omega), if_pos (by omega)]; rfl
/-- What the document's loop adds to the bits, and where it ends: at a byte that does not follow, or at the size. -/
def restL : Nat → List Int → Int → Option Int
  | 0, _, r => some r
  | n + 1, [], r => none
  | n + 1, b :: t, r => if 128 ≤ b ∧ b ≤ 191 then restL n t (r * 64 + b - 128) else none
theorem first_rest : ∀ (m k : Nat) (s : ByteArray) (n : Nat) (r : Int) (i : Nat) (hn : n ≤ s.size) (h4 : n ≤ 4) (hm : i + m = n) (h1 : 1 ≤ i) (h0 : 0 ≤ r) (hr : m ≠ 0 → (r + 1) * 64 ^ (m - 1) ≤ 1048576),
    oublietteref02_First.l0 (k + m + 1) s n r i = some (match restL m ((bytesOf s).drop i) r with
      | some v => if rightB v = true ∧ bytesL v = (bytesOf s).take n then (v, (n : Int)) else (0, 0)
      | none => (0, 0))
  | 0, k, s, n, r, i, hn, h4, hm, h1, h0, hr => by
    rw [show k + 0 + 1 = k + 1 from rfl, first_fin k s n r i hn (by omega)]
    rfl
  | m + 1, k, s, n, r, i, hn, h4, hm, h1, h0, hr => by
    have hl := bytesOf_length s
    have hd : (bytesOf s).drop i = (bytesOf s).getD i 0 :: (bytesOf s).drop (i + 1) := by
      rw [List.getD_eq_getElem?_getD, List.getElem?_eq_getElem (by omega)]
      simp
    rw [hd]
    simp only [restL]
    have hl2 := bytesOf_length s
    by_cases hb : 128 ≤ (bytesOf s).getD i 0 ∧ (bytesOf s).getD i 0 ≤ 191
    · have hm4 : m < 3 := by omega
      have hr1 := hr (by omega)
      rw [show k + (m + 1) + 1 = (k + m + 1) + 1 from by omega, first_next _ s n r i hn (by omega) h4 hb h0 (by match m, hm4, hr1 with
        | 0, _, hr1 => simp at hr1; omega
        | 1, _, hr1 => simp at hr1; omega
        | 2, _, hr1 => simp at hr1; omega)]
      generalize (bytesOf s).getD i 0 = y at hb ⊢
      have hr' : r ≤ 1048576 ∧ (m ≠ 0 → (r * 64 + y - 128 + 1) * 64 ^ (m - 1) ≤ 1048576) := by
        match m, hm4, hr1 with
        | 0, _, hr1 => exact ⟨by simp at hr1; omega, fun h => absurd rfl h⟩
        | 1, _, hr1 => refine ⟨by simp at hr1; omega, fun _ => by simp at hr1 ⊢; omega⟩
        | 2, _, hr1 => refine ⟨by simp at hr1; omega, fun _ => by simp at hr1 ⊢; omega⟩
      rw [if_pos hb]
      exact first_rest m k s n _ (i + 1) hn h4 (by omega) (by omega) (by omega) hr'.2
    · rw [if_neg hb, show k + (m + 1) + 1 = (k + m + 1) + 1 from by omega, first_bad _ s n r i hn (by omega) (by omega)]
end Go.Proofs.YtloagejeeakikaaDoor.QA
