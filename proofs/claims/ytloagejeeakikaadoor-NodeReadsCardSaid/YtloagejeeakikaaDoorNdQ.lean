/- Text of this claim: plain Lean over the printed functions (Utf). Text of this claim: plain Lean over the printed functions (First). Text of this claim: plain Lean over the printed functions (Part). Runes of bytes, of parts that are joined. Names: pieces between points, joined; the program's reading and the document's are one. -/
import Derived.Test.YtloagejeeakikaaDoorQB
import Derived.Lib.ValidLaws
namespace Go.Proofs.YtloagejeeakikaaDoor.QB
open Go.RowKit Go.Proofs.YtloagejeeakikaaDoorW.PrintWords Go.Proofs.YtloagejeeakikaaDoorW.PrintLast Go.Proofs.YtloagejeeakikaaDoorW.PrintMore
set_option linter.unusedVariables false
set_option linter.unusedSimpArgs false

theorem bytesOf_range (s : ByteArray) : ∀ x ∈ bytesOf s, 0 ≤ x ∧ x ≤ 255 := by
  intro x hx
  simp only [bytesOf, List.mem_map] at hx
  obtain ⟨b, _, rfl⟩ := hx
  have := b.toNat_lt
  omega
theorem bt_eq (s : ByteArray) (i : Nat) : bt s (i : Int) = (bytesOf s).getD i 0 := by
  unfold bt bytesOf
  split
  · rename_i h
    have h2 : i < s.data.toList.length := by simpa using h
    simp [List.getD_eq_getElem?_getD, List.getElem?_eq_getElem h2]
    rfl
  · rename_i h
    have h2 : s.data.toList.length ≤ i := by simpa using h
    simp [List.getD_eq_getElem?_getD, List.getElem?_eq_none h2]
theorem get_eq (s : ByteArray) (i : Nat) (h : i < s.size) : ((s.get! i).toNat : Int) = (bytesOf s).getD i 0 := by
  rw [← bt_eq]
  have e : s.get! i = s[i]'h := by
    have := get_at s i h
    simpa using this
  rw [e]
  simp [bt, h]
theorem bytesOf_extract (s : ByteArray) (i j : Nat) : bytesOf (s.extract i j) = ((bytesOf s).take j).drop i := by
  unfold bytesOf
  rw [← List.map_take, ← List.map_drop]
  congr 1
  have h : (s.extract i j).data = s.data.extract i j := by simp
  rw [h]
  simp [Array.toList_extract, List.extract_eq_take_drop, List.drop_take]
theorem bytesOf_strOfNums (xs : List Int) (h : ∀ x ∈ xs, 0 ≤ x ∧ x ≤ 255) : bytesOf (strOfNums xs) = xs := by
  unfold bytesOf
  rw [strOfNums_data, List.map_map]
  conv => rhs; rw [← List.map_id xs]
  apply List.map_congr_left
  intro x hx
  have := h x hx
  simp
  omega
theorem toList_iff (a b : ByteArray) : a.toList = b.toList ↔ bytesOf a = bytesOf b := by
  rw [ByteArray.toList_eq, ByteArray.toList_eq]
  unfold bytesOf
  constructor
  · intro h; rw [h]
  · intro h
    refine List.map_inj_right (fun x y e => ?_) |>.1 h
    have : x.toNat = y.toNat := by exact_mod_cast e
    exact UInt8.toNat_inj.1 this
theorem bytesOf_nil_iff (a : ByteArray) : a.toList = ([] : List UInt8) ↔ a.size = 0 := by
  rw [ByteArray.toList_eq, ← List.length_eq_zero_iff]
  simp
/-- The first rune of bytes, and its width, as a range over a string tells it: what is none is (65533, 1). -/
def decL : List Int → Int × Nat
  | [] => (65533, 1)
  | b0 :: r =>
    if b0 < 128 then (b0, 1)
    else if 192 ≤ b0 ∧ b0 < 224 then match r with
      | b1 :: _ => if 128 ≤ b1 ∧ b1 ≤ 191 ∧ 128 ≤ (b0 - 192) * 64 + (b1 - 128) then ((b0 - 192) * 64 + (b1 - 128), 2) else (65533, 1)
      | _ => (65533, 1)
    else if 224 ≤ b0 ∧ b0 < 240 then match r with
      | b1 :: b2 :: _ => if 128 ≤ b1 ∧ b1 ≤ 191 ∧ 128 ≤ b2 ∧ b2 ≤ 191 ∧ 2048 ≤ (b0 - 224) * 4096 + (b1 - 128) * 64 + (b2 - 128) ∧ ((b0 - 224) * 4096 + (b1 - 128) * 64 + (b2 - 128) < 55296 ∨ 57344 ≤ (b0 - 224) * 4096 + (b1 - 128) * 64 + (b2 - 128))
          then ((b0 - 224) * 4096 + (b1 - 128) * 64 + (b2 - 128), 3) else (65533, 1)
      | _ => (65533, 1)
    else if 240 ≤ b0 ∧ b0 < 248 then match r with
      | b1 :: b2 :: b3 :: _ => if 128 ≤ b1 ∧ b1 ≤ 191 ∧ 128 ≤ b2 ∧ b2 ≤ 191 ∧ 128 ≤ b3 ∧ b3 ≤ 191 ∧ 65536 ≤ (b0 - 240) * 262144 + (b1 - 128) * 4096 + (b2 - 128) * 64 + (b3 - 128) ∧ (b0 - 240) * 262144 + (b1 - 128) * 4096 + (b2 - 128) * 64 + (b3 - 128) ≤ 1114111
          then ((b0 - 240) * 262144 + (b1 - 128) * 4096 + (b2 - 128) * 64 + (b3 - 128), 4) else (65533, 1)
      | _ => (65533, 1)
    else (65533, 1)
/-- The same, out of bytes given by place. -/
def decB (n : Nat) (b0 b1 b2 b3 : Nat) : Nat × Nat :=
  if b0 < 0x80 then (b0, 1)
  else if b0 / 32 == 6 && (1 < n && b1 / 64 == 2) then
    let c := (b0 % 32) * 64 + b1 % 64
    if c ≥ 0x80 then (c, 2) else (Utf8.runeError, 1)
  else if b0 / 16 == 14 && (1 < n && b1 / 64 == 2) && (2 < n && b2 / 64 == 2) then
    let c := (b0 % 16) * 4096 + (b1 % 64) * 64 + b2 % 64
    if c ≥ 0x800 && Utf8.valid c then (c, 3) else (Utf8.runeError, 1)
  else if b0 / 8 == 30 && (1 < n && b1 / 64 == 2) && (2 < n && b2 / 64 == 2) && (3 < n && b3 / 64 == 2) then
    let c := (b0 % 8) * 262144 + (b1 % 64) * 4096 + (b2 % 64) * 64 + b3 % 64
    if c ≥ 0x10000 && Utf8.valid c then (c, 4) else (Utf8.runeError, 1)
  else (Utf8.runeError, 1)
theorem dec_decB (s : ByteArray) (i : Nat) : Utf8.decode s i = decB (s.size - i) (s.get! (i + 0)).toNat (s.get! (i + 1)).toNat (s.get! (i + 2)).toNat (s.get! (i + 3)).toNat := by
  have e1 : (decide (1 < s.size - i)) = decide (i + 1 < s.size) := by congr 1; simp; omega
  have e2 : (decide (2 < s.size - i)) = decide (i + 2 < s.size) := by congr 1; simp; omega
  have e3 : (decide (3 < s.size - i)) = decide (i + 3 < s.size) := by congr 1; simp; omega
  unfold Utf8.decode decB
  simp only [e1, e2, e3]
set_option maxHeartbeats 4000000 in
theorem decB_one (n b0 b1 b2 b3 : Nat) (h0 : b0 < 256) (h1 : b1 < 256) (h2 : b2 < 256) (h3 : b3 < 256) (r : List Int) (hr : n = r.length + 1)
    (e1 : 1 < n → r[0]? = some (b1 : Int)) (e2 : 2 < n → r[1]? = some (b2 : Int)) (e3 : 3 < n → r[2]? = some (b3 : Int)) :
    (((decB n b0 b1 b2 b3).1 : Int), (decB n b0 b1 b2 b3).2) = decL ((b0 : Int) :: r) := by
  have hv : ∀ c : Nat, Utf8.valid (c : Int) = decide (c < 55296 ∨ (57344 ≤ c ∧ c ≤ 1114111)) := by
    intro c
    unfold Utf8.valid
    rw [Bool.eq_iff_iff]
    simp
    omega
  unfold decB
  simp only [Bool.and_eq_true, beq_iff_eq, decide_eq_true_eq, hv, Utf8.runeError, ge_iff_le]
  match r, hr, e1, e2, e3 with
  | [], hr, e1, e2, e3 =>
    simp only [List.length_nil] at hr
    simp only [decL]
    repeat' split
    all_goals first | rfl | (exfalso; omega) | (refine Prod.ext ?_ ?_ <;> dsimp only <;> omega)
  | [x1], hr, e1, e2, e3 =>
    simp only [List.length_cons, List.length_nil] at hr
    have e1' : x1 = b1 := by simpa using e1 (by omega)
    subst e1'
    clear e1 e2 e3
    simp only [decL]

    repeat' split
    all_goals first | rfl | (exfalso; omega) | (refine Prod.ext ?_ ?_ <;> dsimp only <;> omega)
  | [x1, x2], hr, e1, e2, e3 =>
    simp only [List.length_cons, List.length_nil] at hr
    have e1' : x1 = b1 := by simpa using e1 (by omega)
    have e2' : x2 = b2 := by simpa using e2 (by omega)
    subst e1' e2'
    clear e1 e2 e3
    simp only [decL]

    repeat' split
    all_goals first | rfl | (exfalso; omega) | (refine Prod.ext ?_ ?_ <;> dsimp only <;> omega)
  | x1 :: x2 :: x3 :: t, hr, e1, e2, e3 =>
    simp only [List.length_cons, List.length_nil] at hr
    have e1' : x1 = b1 := by simpa using e1 (by omega)
    have e2' : x2 = b2 := by simpa using e2 (by omega)
    have e3' : x3 = b3 := by simpa using e3 (by omega)
    subst e1' e2' e3'
    clear e1 e2 e3
    simp only [decL]

    repeat' split
    all_goals first | rfl | (exfalso; omega) | (refine Prod.ext ?_ ?_ <;> dsimp only <;> omega)
theorem decode_decL (s : ByteArray) (i : Nat) (h : i < s.size) : (((Utf8.decode s i).1 : Int), (Utf8.decode s i).2) = decL ((bytesOf s).drop i) := by
  have hl : (bytesOf s).length = s.size := bytesOf_length s
  have hget : ∀ j, j < s.size → ((s.get! j).toNat : Int) = (bytesOf s).getD j 0 := fun j hj => get_eq s j hj
  have hc : (bytesOf s).drop i = (bytesOf s).getD i 0 :: (bytesOf s).drop (i + 1) := by
    rw [List.getD_eq_getElem?_getD, List.getElem?_eq_getElem (by omega)]
    simp
  rw [dec_decB, hc, ← hget i h]
  refine decB_one _ _ _ _ _ ?_ ?_ ?_ ?_ _ ?_ ?_ ?_ ?_
  · exact UInt8.toNat_lt _
  · exact UInt8.toNat_lt _
  · exact UInt8.toNat_lt _
  · exact UInt8.toNat_lt _
  · rw [List.length_drop]; omega
  · intro h1; rw [hget _ (by omega), List.getElem?_drop, List.getD_eq_getElem?_getD, List.getElem?_eq_getElem (show i + 1 < _ by omega)]; rfl
  · intro h1; rw [hget _ (by omega), List.getElem?_drop, List.getD_eq_getElem?_getD, List.getElem?_eq_getElem (show i + 2 < _ by omega)]; rfl
  · intro h1; rw [hget _ (by omega), List.getElem?_drop, List.getD_eq_getElem?_getD, List.getElem?_eq_getElem (show i + 3 < _ by omega)]; rfl
/-- The document's: the first rune of bytes, and its width; (0, 0): none. -/
def firstL : List Int → Int × Int
  | [] => (0, 0)
  | b0 :: r => if decL (b0 :: r) = (65533, 1) then (0, 0) else ((decL (b0 :: r)).1, ((decL (b0 :: r)).2 : Int))
def rightB (r : Int) : Bool := decide (0 ≤ r ∧ r ≤ 1114111 ∧ (r < 55296 ∨ 57343 < r))
theorem ref02_Right_eq (r : Int) : oublietteref02_Right.f r = some (rightB r) := by
  unfold oublietteref02_Right.f rightB
  repeat' split
  all_goals (rw [Option.some.injEq, Bool.eq_iff_iff]; simp; omega)
def bytesL (r : Int) : List Int :=
  if r < 128 then [r] else if r < 2048 then [192 + r / 64, 128 + r % 64] else if r < 65536 then [224 + r / 4096, 128 + r / 64 % 64, 128 + r % 64]
  else [240 + r / 262144, 128 + r / 4096 % 64, 128 + r / 64 % 64, 128 + r % 64]
theorem ref02_Bytes_eq (r : Int) (h0 : 0 ≤ r) (h1 : r ≤ 1114111) : oublietteref02_Bytes.f r = some (bytesL r) := by
  unfold oublietteref02_Bytes.f bytesL
  have d1 : Int.tdiv r 64 = r / 64 := Int.tdiv_eq_ediv_of_nonneg h0
  have d2 : Int.tdiv r 4096 = r / 4096 := Int.tdiv_eq_ediv_of_nonneg h0
  have d3 : Int.tdiv r 262144 = r / 262144 := Int.tdiv_eq_ediv_of_nonneg h0
  have w : ∀ x : Int, 0 ≤ x → x ≤ 2147483647 → wrap32 x = x := fun x a b => by unfold wrap32; omega
  rw [d1, d2, d3, w (r / 64) (by omega) (by omega), w (r / 4096) (by omega) (by omega), w (r / 262144) (by omega) (by omega)]
  have m0 : Int.tmod r 64 = r % 64 := Int.tmod_eq_emod_of_nonneg h0
  have m1 : Int.tmod (r / 64) 64 = r / 64 % 64 := Int.tmod_eq_emod_of_nonneg (by omega)
  have m2 : Int.tmod (r / 4096) 64 = r / 4096 % 64 := Int.tmod_eq_emod_of_nonneg (by omega)
  rw [m0, m1, m2, w (192 + r / 64) (by omega) (by omega), w (128 + r % 64) (by omega) (by omega), w (224 + r / 4096) (by omega) (by omega), w (128 + r / 64 % 64) (by omega) (by omega), w (240 + r / 262144) (by omega) (by omega), w (128 + r / 4096 % 64) (by omega) (by omega)]
  repeat' split
  all_goals (congr 1; simp only [List.cons.injEq, and_true]; omega)
theorem bytesL_range (r : Int) (h0 : 0 ≤ r) (h1 : r ≤ 1114111) : ∀ x ∈ bytesL r, 0 ≤ x ∧ x ≤ 255 := by
  unfold bytesL
  repeat' split
  all_goals (simp only [List.mem_cons, List.not_mem_nil, or_false]; rintro x hx; omega)
theorem first_fin (k : Nat) (s : ByteArray) (n : Nat) (r x7 : Int) (hn : n ≤ s.size) (h7 : ¬ x7 < (n : Int)) :
    oublietteref02_First.l0 (k + 1) s n r x7 = some (if rightB r = true ∧ bytesL r = (bytesOf s).take n then (r, (n : Int)) else (0, 0)) := by
  simp only [oublietteref02_First.l0]
  rw [if_neg h7, ref02_Right_eq]
  simp only [Option.bind_some]
  by_cases hr : rightB r = true
  · have hr' := hr
    unfold rightB at hr'
    simp only [decide_eq_true_eq] at hr'
    rw [if_pos hr, ref02_Bytes_eq r hr'.1 hr'.2.1]
    simp only [Option.bind_some]
    rw [if_pos (by omega), if_pos (by omega)]
    have e : (strOfNums (bytesL r)).toList = (s.extract 0 ((n : Int)).toNat).toList ↔ bytesL r = (bytesOf s).take n := by
      rw [toList_iff, bytesOf_strOfNums _ (bytesL_range r hr'.1 hr'.2.1), bytesOf_extract]
      simp
    by_cases hb : bytesL r = (bytesOf s).take n
    · rw [if_pos (e.2 hb), if_pos ⟨hr, hb⟩]
    · rw [if_neg (fun h => hb (e.1 h)), if_neg (fun h => hb h.2)]
  · rw [if_neg hr, if_neg (fun h => hr h.1)]
theorem first_bad (k : Nat) (s : ByteArray) (n : Nat) (r : Int) (i : Nat) (hn : n ≤ s.size) (hi : i < n) (hb : (bytesOf s).getD i 0 < 128 ∨ 191 < (bytesOf s).getD i 0) :
    oublietteref02_First.l0 (k + 1) s n r i = some (0, 0) := by
  simp only [oublietteref02_First.l0]
  rw [if_pos (by omega), if_pos (by omega), if_pos (by omega), bt_eq]
  by_cases h : (bytesOf s).getD i 0 < 128
  · rw [if_pos h]
  · rw [if_neg h, if_pos (by omega)]
theorem first_next (k : Nat) (s : ByteArray) (n : Nat) (r : Int) (i : Nat) (hn : n ≤ s.size) (hi : i < n) (hs : n ≤ 4) (hb : 128 ≤ (bytesOf s).getD i 0 ∧ (bytesOf s).getD i 0 ≤ 191) (h0 : 0 ≤ r) (h1 : r ≤ 1048576) :
    oublietteref02_First.l0 (k + 1) s n r i = oublietteref02_First.l0 k s n (r * 64 + (bytesOf s).getD i 0 - 128) (i + 1 : Nat) := by
  have w : ∀ x : Int, -2147483648 ≤ x → x ≤ 2147483647 → wrap32 x = x := fun x a b => by unfold wrap32; omega
  simp only [oublietteref02_First.l0]
  rw [if_pos (by omega), if_pos (by omega), if_pos (by omega), bt_eq, if_neg (by omega), if_neg (by omega), w (r * 64) (by omega) (by omega), w ((bytesOf s).getD i 0) (by omega) (by omega), w (r * 64 + (bytesOf s).getD i 0) (by omega) (by omega), w (r * 64 + (bytesOf s).getD i 0 - 128) (by omega) (by omega)]
  have : wrap64 ((i : Int) + 1) = ((i + 1 : Nat) : Int) := by unfold wrap64; omega
  rw [this]

/-- How many bytes the first byte asks for, and the bits it gives. -/
def sizeL (b : Int) : Nat := if b ≥ 240 then 4 else if b ≥ 224 then 3 else if b ≥ 192 then 2 else 1
def bitsL (b : Int) : Int := if b ≥ 240 then b - 240 else if b ≥ 224 then b - 224 else if b ≥ 192 then b - 192 else b
theorem First_head (k : Nat) (s : ByteArray) (b0 : Int) (r : List Int) (hb : bytesOf s = b0 :: r) :
    oublietteref02_First.f (k + 1) s = if (sizeL b0) ≤ s.size then oublietteref02_First.l0 k s (sizeL b0) (bitsL b0) 1 else some (0, 0) := by
  have hl : s.size = r.length + 1 := by rw [← bytesOf_length s, hb]; rfl
  have hr := bytesOf_range s b0 (by rw [hb]; simp)
  have e0 : bt s 0 = b0 := by
    have := bt_eq s 0
    rw [hb] at this
    simpa using this
  have w : ∀ x : Int, -2147483648 ≤ x → x ≤ 2147483647 → wrap32 x = x := fun x a b => by unfold wrap32; omega
  unfold oublietteref02_First.f
  rw [if_neg (by omega), if_pos (by omega), e0, w b0 (by omega) (by omega)]
  unfold sizeL bitsL
  by_cases h4 : b0 ≥ 240
  · simp only [if_pos h4]
    rw [w _ (by omega) (by omega)]
    simp only [oublietteref02_First.j0]
    by_cases hs : (4 : Int) > (s.size : Int)
    · rw [if_pos hs, if_neg (by omega)]
    · rw [if_neg hs, if_pos (by omega)]; rfl
  · simp only [if_neg h4]
    by_cases h3 : b0 ≥ 224
    · simp only [if_pos h3]
      rw [w _ (by omega) (by omega)]
      simp only [oublietteref02_First.j0]
      by_cases hs : (3 : Int) > (s.size : Int)
      · rw [if_pos hs, if_neg (by omega)]
      · rw [if_neg hs, if_pos (by omega)]; rfl
    · simp only [if_neg h3]
      by_cases h2 : b0 ≥ 192
      · simp only [if_pos h2]
        rw [w _ (by omega) (by omega)]
        simp only [oublietteref02_First.j0]
        by_cases hs : (2 : Int) > (s.size : Int)
        · rw [if_pos hs, if_neg (by omega)]
        · rw [if_neg hs, if_pos (by omega)]; rfl
      · simp only [if_neg h2]
        simp only [oublietteref02_First.j0]
        rw [if_neg (by omega), if_pos (by omega)]; rfl
/-- What the document's loop adds to the bits, and where it ends: at a byte that does not follow, or at the size. -/
def restL : Nat → List Int → Int → Option Int
  | 0, _, r => some r
  | n + 1, [], r => none
  | n + 1, b :: t, r => if 128 ≤ b ∧ b ≤ 191 then restL n t (r * 64 + b - 128) else none
theorem first_rest : ∀ (m k : Nat) (s : ByteArray) (n : Nat) (r : Int) (i : Nat) (hn : n ≤ s.size) (h4 : n ≤ 4) (hm : i + m = n) (h1 : 1 ≤ i) (h0 : 0 ≤ r) (hr : m ≠ 0 → (r + 1) * 64 ^ (m - 1) ≤ 1048576),
    oublietteref02_First.l0 (k + m + 1) s n r i = some (match restL m ((bytesOf s).drop i) r with
      | some v => if rightB v = true ∧ bytesL v = (bytesOf s).take n then (v, (n : Int)) else (0, 0)
      | none => (0, 0))
  | 0, k, s, n, r, i, hn, h4, hm, h1, h0, hr => by
    rw [show k + 0 + 1 = k + 1 from rfl, first_fin k s n r i hn (by omega)]
    rfl
  | m + 1, k, s, n, r, i, hn, h4, hm, h1, h0, hr => by
    have hl := bytesOf_length s
    have hd : (bytesOf s).drop i = (bytesOf s).getD i 0 :: (bytesOf s).drop (i + 1) := by
      rw [List.getD_eq_getElem?_getD, List.getElem?_eq_getElem (by omega)]
      simp
    rw [hd]
    simp only [restL]
    have hl2 := bytesOf_length s
    by_cases hb : 128 ≤ (bytesOf s).getD i 0 ∧ (bytesOf s).getD i 0 ≤ 191
    · have hm4 : m < 3 := by omega
      have hr1 := hr (by omega)
      rw [show k + (m + 1) + 1 = (k + m + 1) + 1 from by omega, first_next _ s n r i hn (by omega) h4 hb h0 (by match m, hm4, hr1 with
        | 0, _, hr1 => simp at hr1; omega
        | 1, _, hr1 => simp at hr1; omega
        | 2, _, hr1 => simp at hr1; omega)]
      generalize (bytesOf s).getD i 0 = y at hb ⊢
      have hr' : r ≤ 1048576 ∧ (m ≠ 0 → (r * 64 + y - 128 + 1) * 64 ^ (m - 1) ≤ 1048576) := by
        match m, hm4, hr1 with
        | 0, _, hr1 => exact ⟨by simp at hr1; omega, fun h => absurd rfl h⟩
        | 1, _, hr1 => refine ⟨by simp at hr1; omega, fun _ => by simp at hr1 ⊢; omega⟩
        | 2, _, hr1 => refine ⟨by simp at hr1; omega, fun _ => by simp at hr1 ⊢; omega⟩
      rw [if_pos hb]
      exact first_rest m k s n _ (i + 1) hn h4 (by omega) (by omega) (by omega) hr'.2
    · rw [if_neg hb, show k + (m + 1) + 1 = (k + m + 1) + 1 from by omega, first_bad _ s n r i hn (by omega) (by omega)]
end Go.Proofs.YtloagejeeakikaaDoor.QB
namespace Go.Proofs.YtloagejeeakikaaDoor.QB
open Go.RowKit Go.Proofs.YtloagejeeakikaaDoorW.PrintWords Go.Proofs.YtloagejeeakikaaDoorW.PrintLast Go.Proofs.YtloagejeeakikaaDoorW.PrintMore
set_option linter.unusedVariables false
set_option linter.unusedSimpArgs false
def outL (p : Int × Nat) : Int × Int := if p = (65533, 1) then (0, 0) else (p.1, (p.2 : Int))
theorem outL_bad : outL (65533, 1) = (0, 0) := if_pos rfl
theorem outL_ok (x : Int) (n : Nat) (h : ¬ (x = 65533 ∧ n = 1)) : outL (x, n) = (x, (n : Int)) := by
  unfold outL
  rw [if_neg (fun e => h (by injection e with a b; exact ⟨a, b⟩))]
theorem firstL_cons (b0 : Int) (r : List Int) : firstL (b0 :: r) = outL (decL (b0 :: r)) := rfl
def guardL (v : Int) (n : Nat) (bs : List Int) : Int × Int := if rightB v = true ∧ bytesL v = bs then (v, (n : Int)) else (0, 0)
theorem guard_ok (v : Int) (n : Nat) (bs : List Int) (h1 : rightB v = true) (h2 : bytesL v = bs) : guardL v n bs = (v, (n : Int)) := if_pos ⟨h1, h2⟩
theorem guard_bad (v : Int) (n : Nat) (bs : List Int) (h : ¬ (rightB v = true ∧ bytesL v = bs)) : guardL v n bs = (0, 0) := if_neg h
def endL (o : Option Int) (n : Nat) (bs : List Int) : Int × Int := match o with | some v => guardL v n bs | none => (0, 0)
theorem restL_cons (n : Nat) (b : Int) (t : List Int) (r : Int) : restL (n + 1) (b :: t) r = if 128 ≤ b ∧ b ≤ 191 then restL n t (r * 64 + b - 128) else none := rfl
theorem decL1 (b0 : Int) (r : List Int) (h : b0 < 128) : decL (b0 :: r) = (b0, 1) := by simp only [decL]; rw [if_pos h]
theorem decLb (b0 : Int) (r : List Int) (h : 128 ≤ b0) (h2 : b0 < 192) : decL (b0 :: r) = (65533, 1) := by
  simp only [decL]; rw [if_neg (by omega), if_neg (by omega), if_neg (by omega), if_neg (by omega)]
theorem decL2 (b0 b1 : Int) (r : List Int) (h : 192 ≤ b0) (h2 : b0 < 224) : decL (b0 :: b1 :: r) = if 128 ≤ b1 ∧ b1 ≤ 191 ∧ 128 ≤ (b0 - 192) * 64 + (b1 - 128) then ((b0 - 192) * 64 + (b1 - 128), 2) else (65533, 1) := by
  simp only [decL]; rw [if_neg (by omega), if_pos ⟨h, h2⟩]
theorem decL3 (b0 b1 b2 : Int) (r : List Int) (h : 224 ≤ b0) (h2 : b0 < 240) : decL (b0 :: b1 :: b2 :: r) = if 128 ≤ b1 ∧ b1 ≤ 191 ∧ 128 ≤ b2 ∧ b2 ≤ 191 ∧ 2048 ≤ (b0 - 224) * 4096 + (b1 - 128) * 64 + (b2 - 128) ∧ ((b0 - 224) * 4096 + (b1 - 128) * 64 + (b2 - 128) < 55296 ∨ 57344 ≤ (b0 - 224) * 4096 + (b1 - 128) * 64 + (b2 - 128))
          then ((b0 - 224) * 4096 + (b1 - 128) * 64 + (b2 - 128), 3) else (65533, 1) := by
  simp only [decL]; rw [if_neg (by omega), if_neg (by omega), if_pos ⟨h, h2⟩]
theorem decL4 (b0 b1 b2 b3 : Int) (r : List Int) (h : 240 ≤ b0) : decL (b0 :: b1 :: b2 :: b3 :: r) = if b0 < 248 ∧ 128 ≤ b1 ∧ b1 ≤ 191 ∧ 128 ≤ b2 ∧ b2 ≤ 191 ∧ 128 ≤ b3 ∧ b3 ≤ 191 ∧ 65536 ≤ (b0 - 240) * 262144 + (b1 - 128) * 4096 + (b2 - 128) * 64 + (b3 - 128) ∧ (b0 - 240) * 262144 + (b1 - 128) * 4096 + (b2 - 128) * 64 + (b3 - 128) ≤ 1114111
          then ((b0 - 240) * 262144 + (b1 - 128) * 4096 + (b2 - 128) * 64 + (b3 - 128), 4) else (65533, 1) := by
  simp only [decL]; rw [if_neg (by omega), if_neg (by omega), if_neg (by omega)]
  repeat' split
  all_goals first | rfl | (exfalso; omega)
theorem decLs (b0 : Int) (r : List Int) (h : 192 ≤ b0) (h2 : r.length + 1 < sizeL b0) : decL (b0 :: r) = (65533, 1) := by
  unfold sizeL at h2
  simp only [decL]; rw [if_neg (by omega)]
  match r with
  | [] => simp
  | [b1] => simp only [List.length_cons, List.length_nil] at h2; rw [if_neg (by intro h; rw [if_neg (by omega), if_neg (by omega), if_pos (by omega)] at h2; omega)]; simp
  | [b1, b2] =>
    simp only [List.length_cons, List.length_nil] at h2
    by_cases c : b0 ≥ 240
    · rw [if_neg (by omega), if_neg (by omega)]; simp
    · rw [if_neg c] at h2; split at h2 <;> first | omega | (split at h2 <;> omega)
  | _ :: _ :: _ :: _ => simp only [List.length_cons] at h2; split at h2 <;> first | omega | (split at h2 <;> first | omega | (split at h2 <;> omega))
theorem endL_some (v : Int) (n : Nat) (bs : List Int) : endL (some v) n bs = guardL v n bs := rfl
theorem endL_none (n : Nat) (bs : List Int) : endL none n bs = (0, 0) := rfl
theorem list1 (b0 : Int) (r : List Int) (h0 : 0 ≤ b0) (h : b0 < 128) : guardL b0 1 [b0] = outL (decL (b0 :: r)) := by
  rw [decL1 b0 r h, outL_ok _ _ (by omega), guard_ok _ _ _ (by unfold rightB; simp; omega) (by unfold bytesL; rw [if_pos h])]
theorem listb (b0 : Int) (r : List Int) (h0 : 128 ≤ b0) (h : b0 < 192) : guardL b0 1 [b0] = outL (decL (b0 :: r)) := by
  rw [decLb b0 r h0 h, outL_bad, guard_bad _ _ _ (by rintro ⟨_, h⟩; unfold bytesL at h; rw [if_neg (by omega), if_pos (by omega)] at h; simp at h)]
theorem list2 (b0 b1 : Int) (r : List Int) (h0 : 192 ≤ b0) (h : b0 < 224) : endL (restL 1 (b1 :: r) (b0 - 192)) 2 [b0, b1] = outL (decL (b0 :: b1 :: r)) := by
  rw [decL2 b0 b1 r h0 h, restL_cons]
  by_cases d : 128 ≤ b1 ∧ b1 ≤ 191
  · rw [if_pos d, restL, endL_some]
    by_cases e : 128 ≤ (b0 - 192) * 64 + (b1 - 128)
    · rw [if_pos ⟨d.1, d.2, e⟩, outL_ok _ _ (by omega), guard_ok]
      · refine Prod.ext ?_ rfl
        dsimp only
        omega
      · unfold rightB; simp; omega
      · unfold bytesL
        rw [if_neg (by omega), if_pos (by omega)]
        simp only [List.cons.injEq, and_true]; omega
    · rw [if_neg (by omega), outL_bad, guard_bad]
      rintro ⟨_, h⟩
      unfold bytesL at h
      rw [if_pos (by omega)] at h
      simp at h
  · rw [if_neg d, endL_none, if_neg (by omega), outL_bad]
theorem list3 (b0 b1 b2 : Int) (r : List Int) (h0 : 224 ≤ b0) (h : b0 < 240) : endL (restL 2 (b1 :: b2 :: r) (b0 - 224)) 3 [b0, b1, b2] = outL (decL (b0 :: b1 :: b2 :: r)) := by
  rw [decL3 b0 b1 b2 r h0 h, restL_cons]
  by_cases d : 128 ≤ b1 ∧ b1 ≤ 191
  · rw [if_pos d, restL_cons]
    by_cases d2 : 128 ≤ b2 ∧ b2 ≤ 191
    · rw [if_pos d2, restL, endL_some]
      have ev : ((b0 - 224) * 64 + b1 - 128) * 64 + b2 - 128 = (b0 - 224) * 4096 + (b1 - 128) * 64 + (b2 - 128) := by omega
      rw [ev]
      by_cases e : 2048 ≤ (b0 - 224) * 4096 + (b1 - 128) * 64 + (b2 - 128) ∧ ((b0 - 224) * 4096 + (b1 - 128) * 64 + (b2 - 128) < 55296 ∨ 57344 ≤ (b0 - 224) * 4096 + (b1 - 128) * 64 + (b2 - 128))
      · rw [if_pos ⟨d.1, d.2, d2.1, d2.2, e⟩, outL_ok _ _ (by omega), guard_ok]
        · unfold rightB; simp; omega
        · unfold bytesL
          rw [if_neg (by omega), if_neg (by omega), if_pos (by omega)]
          simp only [List.cons.injEq, and_true]; omega
      · rw [if_neg (by omega), outL_bad, guard_bad]
        rintro ⟨h3, h⟩
        unfold rightB at h3
        simp only [decide_eq_true_eq] at h3
        unfold bytesL at h
        split at h
        · simp at h
        rw [if_pos (by omega)] at h
        simp at h
    · rw [if_neg d2, endL_none, if_neg (by omega), outL_bad]
  · rw [if_neg d, endL_none, if_neg (by omega), outL_bad]
theorem list4 (b0 b1 b2 b3 : Int) (r : List Int) (h0 : 240 ≤ b0) (h : b0 ≤ 255) : endL (restL 3 (b1 :: b2 :: b3 :: r) (b0 - 240)) 4 [b0, b1, b2, b3] = outL (decL (b0 :: b1 :: b2 :: b3 :: r)) := by
  rw [decL4 b0 b1 b2 b3 r h0, restL_cons]
  by_cases d : 128 ≤ b1 ∧ b1 ≤ 191
  · rw [if_pos d, restL_cons]
    by_cases d2 : 128 ≤ b2 ∧ b2 ≤ 191
    · rw [if_pos d2, restL_cons]
      by_cases d3 : 128 ≤ b3 ∧ b3 ≤ 191
      · rw [if_pos d3, restL, endL_some]
        have ev : (((b0 - 240) * 64 + b1 - 128) * 64 + b2 - 128) * 64 + b3 - 128 = (b0 - 240) * 262144 + (b1 - 128) * 4096 + (b2 - 128) * 64 + (b3 - 128) := by omega
        rw [ev]
        by_cases e : 65536 ≤ (b0 - 240) * 262144 + (b1 - 128) * 4096 + (b2 - 128) * 64 + (b3 - 128) ∧ (b0 - 240) * 262144 + (b1 - 128) * 4096 + (b2 - 128) * 64 + (b3 - 128) ≤ 1114111
        · rw [if_pos ⟨by omega, d.1, d.2, d2.1, d2.2, d3.1, d3.2, e⟩, outL_ok _ _ (by omega), guard_ok]
          · unfold rightB; simp; omega
          · unfold bytesL
            rw [if_neg (by omega), if_neg (by omega), if_neg (by omega)]
            simp only [List.cons.injEq, and_true]; omega
        · rw [if_neg (by omega), outL_bad, guard_bad]
          rintro ⟨h4, h⟩
          unfold rightB at h4
          simp only [decide_eq_true_eq] at h4
          unfold bytesL at h
          split at h
          · simp at h
          split at h
          · simp at h
          rw [if_pos (by omega)] at h
          simp at h
      · rw [if_neg d3, endL_none, if_neg (by omega), outL_bad]
    · rw [if_neg d2, endL_none, if_neg (by omega), outL_bad]
  · rw [if_neg d, endL_none, if_neg (by omega), outL_bad]
theorem first_list (b0 : Int) (r : List Int) (hall : ∀ x ∈ b0 :: r, 0 ≤ x ∧ x ≤ 255) :
    (if sizeL b0 ≤ r.length + 1 then endL (restL (sizeL b0 - 1) r (bitsL b0)) (sizeL b0) ((b0 :: r).take (sizeL b0)) else (0, 0)) = firstL (b0 :: r) := by
  have h0 := hall b0 (by simp)
  rw [firstL_cons]
  by_cases hs : ¬ sizeL b0 ≤ r.length + 1
  · rw [if_neg hs, decLs b0 r ?_ (by omega), outL_bad]
    unfold sizeL at hs
    by_cases c : 192 ≤ b0
    · exact c
    · rw [if_neg (by omega), if_neg (by omega), if_neg (by omega)] at hs; omega
  have hs := Decidable.of_not_not hs
  rw [if_pos hs]
  by_cases c4 : b0 ≥ 240
  · have e1 : sizeL b0 = 4 := if_pos c4
    have e2 : bitsL b0 = b0 - 240 := if_pos c4
    rw [e1] at hs ⊢
    rw [e2]
    match r, hs with
    | b1 :: b2 :: b3 :: t, _ => exact list4 b0 b1 b2 b3 t c4 h0.2
    | [], hs => simp at hs
    | [_], hs => simp at hs
    | [_, _], hs => simp at hs
  by_cases c3 : b0 ≥ 224
  · have e1 : sizeL b0 = 3 := by unfold sizeL; rw [if_neg c4, if_pos c3]
    have e2 : bitsL b0 = b0 - 224 := by unfold bitsL; rw [if_neg c4, if_pos c3]
    rw [e1] at hs ⊢
    rw [e2]
    match r, hs with
    | b1 :: b2 :: t, _ => exact list3 b0 b1 b2 t c3 (by omega)
    | [], hs => simp at hs
    | [_], hs => simp at hs
  by_cases c2 : b0 ≥ 192
  · have e1 : sizeL b0 = 2 := by unfold sizeL; rw [if_neg c4, if_neg c3, if_pos c2]
    have e2 : bitsL b0 = b0 - 192 := by unfold bitsL; rw [if_neg c4, if_neg c3, if_pos c2]
    rw [e1] at hs ⊢
    rw [e2]
    match r, hs with
    | b1 :: t, _ => exact list2 b0 b1 t c2 (by omega)
    | [], hs => simp at hs
  have e1 : sizeL b0 = 1 := by unfold sizeL; rw [if_neg c4, if_neg c3, if_neg c2]
  have e2 : bitsL b0 = b0 := by unfold bitsL; rw [if_neg c4, if_neg c3, if_neg c2]
  rw [e1, e2]
  by_cases c1 : b0 < 128
  · exact list1 b0 r h0.1 c1
  · exact listb b0 r (by omega) (by omega)
theorem First_eq (k : Nat) (s : ByteArray) : oublietteref02_First.f (k + 6) s = some (firstL (bytesOf s)) := by
  match hb : bytesOf s with
  | [] =>
    have hl : s.size = 0 := by rw [← bytesOf_length s, hb]; rfl
    unfold oublietteref02_First.f
    rw [if_pos (by omega)]
    rfl
  | b0 :: r =>
    have hl : s.size = r.length + 1 := by rw [← bytesOf_length s, hb]; rfl
    have hz : 1 ≤ sizeL b0 ∧ sizeL b0 ≤ 4 := by unfold sizeL; repeat' split
                                                all_goals omega
    have h0 := bytesOf_range s b0 (by rw [hb]; simp)
    rw [show k + 6 = (k + 5) + 1 from rfl, First_head _ s b0 r hb, ← first_list b0 r (by rw [← hb]; exact bytesOf_range s), hl, show (1 : Int) = ((1 : Nat) : Int) from rfl]
    split
    · rename_i hle
      rw [show k + 5 = (k + 5 - (sizeL b0 - 1) - 1) + (sizeL b0 - 1) + 1 from by omega,
        first_rest (sizeL b0 - 1) _ s (sizeL b0) (bitsL b0) 1 (by omega) (by omega) (by omega) (by omega) ?_ ?_, hb]
      · rfl
      · unfold bitsL; repeat' split
        all_goals omega
      · intro hne
        unfold sizeL bitsL at *
        split
        · simp; omega
        rename_i n4
        rw [if_neg n4] at hne
        split
        · simp; omega
        rename_i n3
        rw [if_neg n3] at hne
        split
        · simp; omega
        rename_i n2
        rw [if_neg n2] at hne
        omega
    · rfl
end Go.Proofs.YtloagejeeakikaaDoor.QB
namespace Go.Proofs.YtloagejeeakikaaDoor.QB
open Go.RowKit Go.Proofs.YtloagejeeakikaaDoorW.PrintWords Go.Proofs.YtloagejeeakikaaDoorW.PrintLast Go.Proofs.YtloagejeeakikaaDoorW.PrintMore
set_option linter.unusedVariables false
set_option linter.unusedSimpArgs false
theorem decL_width (l : List Int) : (decL l).2 ≤ max 1 l.length := by
  unfold decL
  repeat' split
  all_goals simp
  all_goals omega
theorem decode_within (s : ByteArray) (i : Nat) (h : i < s.size) : i + (Utf8.decode s i).2 ≤ s.size := by
  have h1 := decode_decL s i h
  have h2 := decL_width ((bytesOf s).drop i)
  rw [← h1] at h2
  rw [List.length_drop, bytesOf_length] at h2
  simp only at h2
  omega
theorem first_decode (k : Nat) (s : ByteArray) (i : Nat) (h : i < s.size) :
    oublietteref02_First.f (k + 6) (s.extract i s.size) = some (outL (((Utf8.decode s i).1 : Int), (Utf8.decode s i).2)) := by
  rw [First_eq, decode_decL s i h, bytesOf_extract, List.take_of_length_le (by rw [bytesOf_length]; exact Nat.le_refl _)]
  have hc : (bytesOf s).drop i = (bytesOf s).getD i 0 :: (bytesOf s).drop (i + 1) := by
    rw [List.getD_eq_getElem?_getD, List.getElem?_eq_getElem (by rw [bytesOf_length]; omega)]
    simp
  rw [hc, firstL_cons]
theorem runes_step (s : ByteArray) (hs : s.size ≤ 1000000) : ∀ (b pos k : Nat) (acc : List Int), pos ≤ s.size → s.size - pos ≤ b → acc.length ≤ pos →
    ∃ res, oublietteref02_Runes.l0 (k + b + 7) s acc pos = some res ∧ ((res.2.2 = 0 ∧ res.1 = acc ++ runesG s b pos) ∨ (res.2.2 = 4 ∧ (65533 : Int) ∈ runesG s b pos))
  | 0, pos, k, acc, h1, h2, h3 => by
    refine ⟨(acc, 0, 0), ?_, Or.inl ⟨rfl, by simp [runesG]⟩⟩
    rw [show k + 0 + 7 = (k + 6) + 1 from rfl]
    rw [oublietteref02_Runes.l0.eq_2]
    rw [if_neg (by omega)]
  | b + 1, pos, k, acc, h1, h2, h3 => by
    rw [show k + (b + 1) + 7 = (k + b + 7) + 1 from by omega]
    rw [oublietteref02_Runes.l0.eq_2]
    by_cases hp : pos < s.size
    · rw [if_pos (by omega), if_pos (by omega), if_pos (by omega), show (pos : Int).toNat = pos from rfl, show k + b + 7 = (k + b + 1) + 6 from by omega, first_decode _ s pos hp]
      simp only [Option.bind_some]
      have hw := width_pos s pos hp
      have hi := decode_within s pos hp
      by_cases hd : (((Utf8.decode s pos).1 : Int), (Utf8.decode s pos).2) = ((65533 : Int), 1)
      · rw [hd, outL_bad]
        refine ⟨([], pos, 4), rfl, Or.inr ⟨rfl, ?_⟩⟩
        unfold runesG
        rw [if_pos hp]
        injection hd with hd1 hd2
        rw [hd1]
        simp
      · rw [outL_ok _ _ (fun h => hd (by rw [h.1, h.2]))]
        simp only []
        rw [if_neg (by omega), if_pos (by omega)]
        have e : wrap64 ((pos : Int) + ((Utf8.decode s pos).2 : Int)) = ((pos + (Utf8.decode s pos).2 : Nat) : Int) := by unfold wrap64; omega
        rw [e, show (k + b + 1) + 6 = k + b + 7 from by omega]
        obtain ⟨res, hr, ho⟩ := runes_step s hs b (pos + (Utf8.decode s pos).2) k (acc ++ [((Utf8.decode s pos).1 : Int)]) (by omega) (by omega) (by simp; omega)
        refine ⟨res, hr, ?_⟩
        unfold runesG
        rw [if_pos hp]
        rcases ho with ⟨a, b⟩ | ⟨a, b⟩
        · exact Or.inl ⟨a, by rw [b]; simp⟩
        · exact Or.inr ⟨a, by simp [b]⟩
    · rw [if_neg (by omega)]
      refine ⟨(acc, 0, 0), rfl, Or.inl ⟨rfl, ?_⟩⟩
      rw [runesG_end s _ _ hp]
      simp
theorem ref02_Upper_eq (r : Int) : oublietteref02_Upper.f r = some (upperB r) := by
  unfold oublietteref02_Upper.f upperB
  repeat' split
  all_goals (rw [Option.some.injEq, Bool.eq_iff_iff]; simp; omega)
theorem ref02_Letter_eq (r : Int) : oublietteref02_Letter.f r = some (letterB r) := by
  unfold oublietteref02_Letter.f
  simp only [ref02_Upper_eq, Option.bind_some]
  unfold upperB letterB
  repeat' split
  all_goals (rw [Option.some.injEq, Bool.eq_iff_iff]; simp at *; omega)
theorem ref03_small_eq (r : Int) : oublietteref03_small.f r = some (smallB r) := by
  unfold oublietteref03_small.f
  rw [ref02_Letter_eq, ref02_Upper_eq]
  simp only [Option.bind_some]
  unfold upperB letterB smallB
  repeat' split
  all_goals (rw [Option.some.injEq, Bool.eq_iff_iff]; simp at *; omega)
theorem part_loop (l : List Int) (hl : l.length ≤ 8) : ∀ (b i k : Nat), i + b = l.length → oublietteref03_Part.l0 (k + b + 1) l i = some ((l.drop i).all smallB)
  | 0, i, k, h => by
    rw [oublietteref03_Part.l0.eq_2]
    rw [if_neg (by omega), List.drop_of_length_le (by omega)]
    rfl
  | b + 1, i, k, h => by
    rw [show k + (b + 1) + 1 = (k + b + 1) + 1 from by omega]
    rw [oublietteref03_Part.l0.eq_2]
    have hd : l.drop i = l.getD i 0 :: l.drop (i + 1) := by
      rw [List.getD_eq_getElem?_getD, List.getElem?_eq_getElem (by omega)]
      simp
    have hr : rd l (i : Int) = l.getD i 0 := by simp [rd, List.getD_eq_getElem?_getD]
    rw [if_pos (by omega), if_pos (by omega), ref03_small_eq, hr, hd, List.all_cons]
    simp only [Option.bind_some]
    by_cases c : smallB (l.getD i 0) = true
    · rw [if_pos c, show wrap64 ((i : Int) + 1) = ((i + 1 : Nat) : Int) from by unfold wrap64; omega, part_loop l hl b (i + 1) k (by omega), c]
      simp
    · rw [if_neg c]
      have c' := Bool.eq_false_iff.2 c
      rw [c']
      rfl
theorem part_ref (s : ByteArray) (hs : s.size ≤ 1000000) (k : Nat) :
    oublietteref03_Part.f (k + s.size + 20) s = name_Part.f s := by
  unfold name_Part.f oublietteref03_Part.f oublietteref02_Runes.f
  rw [if_pos (by omega)]
  obtain ⟨res, hr, ho⟩ := runes_step s hs s.size 0 (k + 13) [] (by omega) (by omega) (by simp)
  rw [show k + s.size + 20 = k + 13 + s.size + 7 from by omega]
  have hr' : oublietteref02_Runes.l0 (k + 13 + s.size + 7) s [] 0 = some res := hr
  rw [hr']
  simp only [Option.bind_some]
  rcases ho with ⟨a, b⟩ | ⟨a, b⟩
  · have b' : res.1 = runesOf s := b
    rw [if_pos a, b']
    clear b b'
    generalize runesOf s = l
    by_cases h1 : (l.length : Int) < 1
    · rw [if_pos h1, show k + 13 + s.size + 7 = (k + s.size + 19) + 1 from by omega]
      rw [oublietteref03_Part.j0.eq_2]
      rw [if_pos rfl]
      congr 1
      have : decide (1 ≤ l.length) = false := decide_eq_false (by omega)
      rw [this]; simp
    · rw [if_neg h1, show k + 13 + s.size + 7 = (k + s.size + 19) + 1 from by omega]
      rw [oublietteref03_Part.j0.eq_2]
      by_cases h8 : (l.length : Int) > 8
      · rw [if_pos (decide_eq_true h8)]
        congr 1
        have : decide (l.length ≤ 8) = false := decide_eq_false (by omega)
        rw [this]; simp
      · rw [if_neg (by simpa using h8), show k + s.size + 19 = (k + s.size + 18 - l.length) + l.length + 1 from by omega]
        have := part_loop l (by omega) l.length 0 (k + s.size + 18 - l.length) (by omega)
        rw [show ((0 : Nat) : Int) = 0 from rfl] at this
        rw [this, List.drop_zero]
        congr 1
        have e1 : decide (1 ≤ l.length) = true := decide_eq_true (by omega)
        have e2 : decide (l.length ≤ 8) = true := decide_eq_true (by omega)
        rw [e1, e2]; simp
  · rw [if_neg (by omega), show k + 13 + s.size + 7 = (k + s.size + 19) + 1 from by omega]
    rw [oublietteref03_Part.j0.eq_2]
    rw [if_pos rfl]
    congr 1
    have : (runesOf s).all smallB = false := by
      rw [List.all_eq_false]
      exact ⟨65533, b, by decide⟩
    rw [this]; rfl
end Go.Proofs.YtloagejeeakikaaDoor.QB
namespace Go.Proofs.YtloagejeeakikaaDoor.QB
open Go.RowKit Go.Proofs.YtloagejeeakikaaDoorW.PrintWords Go.Proofs.YtloagejeeakikaaDoorW.PrintLast Go.Proofs.YtloagejeeakikaaDoorW.PrintMore
set_option linter.unusedVariables false
set_option linter.unusedSimpArgs false
/-- The runes of bytes, as a list. -/
def runesL : Nat → List Int → List Int
  | 0, _ => []
  | n + 1, l => if l = [] then [] else (decL l).1 :: runesL n (l.drop (decL l).2)
theorem runesG_list (s : ByteArray) : ∀ (n pos : Nat), pos ≤ s.size → runesG s n pos = runesL n ((bytesOf s).drop pos)
  | 0, _, _ => rfl
  | n + 1, pos, h => by
    unfold runesG runesL
    by_cases hp : pos < s.size
    · have hne : (bytesOf s).drop pos ≠ [] := by
        intro e
        have := congrArg List.length e
        rw [List.length_drop, bytesOf_length] at this
        simp at this
        omega
      rw [if_pos hp, if_neg hne, ← decode_decL s pos hp, List.drop_drop]
      simp only []
      rw [runesG_list s n _ (decode_within s pos hp)]
    · have he : (bytesOf s).drop pos = [] := List.drop_of_length_le (by rw [bytesOf_length]; omega)
      rw [if_neg hp, if_pos he]
theorem runesOf_list (s : ByteArray) : runesOf s = runesL (bytesOf s).length (bytesOf s) := by
  unfold runesOf
  rw [runesG_list s s.size 0 (Nat.zero_le _), bytesOf_length, List.drop_zero]
theorem decL_pos (l : List Int) : 1 ≤ (decL l).2 := by
  unfold decL
  repeat' split
  all_goals simp
/-- A rune that is read is read alike where more stands behind. -/
theorem decL_more (b0 : Int) (r t : List Int) (h : (decL (b0 :: r)).1 ≠ 65533) : decL (b0 :: r ++ t) = decL (b0 :: r) := by
  rw [List.cons_append]
  by_cases c1 : b0 < 128
  · simp only [decL]; rw [if_pos c1, if_pos c1]
  by_cases c2 : 192 ≤ b0 ∧ b0 < 224
  · match r, h with
    | [], h => exact absurd (by simp only [decL]; rw [if_neg c1, if_pos c2]) h
    | b1 :: r, _ => simp only [decL, List.cons_append]; rw [if_neg c1, if_pos c2, if_neg c1, if_pos c2]
  by_cases c3 : 224 ≤ b0 ∧ b0 < 240
  · match r, h with
    | [], h => exact absurd (by simp only [decL]; rw [if_neg c1, if_neg c2, if_pos c3]) h
    | [b1], h => exact absurd (by simp only [decL]; rw [if_neg c1, if_neg c2, if_pos c3]) h
    | b1 :: b2 :: r, _ => simp only [decL, List.cons_append]; rw [if_neg c1, if_neg c2, if_pos c3, if_neg c1, if_neg c2, if_pos c3]
  by_cases c4 : 240 ≤ b0 ∧ b0 < 248
  · match r, h with
    | [], h => exact absurd (by simp only [decL]; rw [if_neg c1, if_neg c2, if_neg c3, if_pos c4]) h
    | [b1], h => exact absurd (by simp only [decL]; rw [if_neg c1, if_neg c2, if_neg c3, if_pos c4]) h
    | [b1, b2], h => exact absurd (by simp only [decL]; rw [if_neg c1, if_neg c2, if_neg c3, if_pos c4]) h
    | b1 :: b2 :: b3 :: r, _ => simp only [decL, List.cons_append]
  · exact absurd (by simp only [decL]; rw [if_neg c1, if_neg c2, if_neg c3, if_neg c4]) h
/-- What a rune that is read takes: of a point, only the point's own rune. -/
theorem decL_point (b0 : Int) (r : List Int) (h : (decL (b0 :: r)).1 ≠ 65533) (hm : (46 : Int) ∈ (b0 :: r).take (decL (b0 :: r)).2) : (decL (b0 :: r)).1 = 46 := by
  by_cases c1 : b0 < 128
  · have e : decL (b0 :: r) = (b0, 1) := by simp only [decL]; rw [if_pos c1]
    rw [e] at hm ⊢
    simp at hm
    exact hm.symm
  by_cases c2 : 192 ≤ b0 ∧ b0 < 224
  · match r, h, hm with
    | [], h, _ => exact absurd (by simp only [decL]; rw [if_neg c1, if_pos c2]) h
    | b1 :: r, h, hm =>
      have e : decL (b0 :: b1 :: r) = if 128 ≤ b1 ∧ b1 ≤ 191 ∧ 128 ≤ (b0 - 192) * 64 + (b1 - 128) then ((b0 - 192) * 64 + (b1 - 128), 2) else (65533, 1) := by simp only [decL]; rw [if_neg c1, if_pos c2]
      rw [e] at hm h ⊢
      split at hm
      · simp at hm; omega
      · rename_i hc; rw [if_neg hc] at h; exact absurd rfl h
  by_cases c3 : 224 ≤ b0 ∧ b0 < 240
  · match r, h, hm with
    | [], h, _ => exact absurd (by simp only [decL]; rw [if_neg c1, if_neg c2, if_pos c3]) h
    | [b1], h, _ => exact absurd (by simp only [decL]; rw [if_neg c1, if_neg c2, if_pos c3]) h
    | b1 :: b2 :: r, h, hm =>
      have e := decL3 b0 b1 b2 r c3.1 c3.2
      rw [e] at hm h ⊢
      split at hm
      · simp at hm; omega
      · rename_i hc; rw [if_neg hc] at h; exact absurd rfl h
  by_cases c4 : 240 ≤ b0 ∧ b0 < 248
  · match r, h, hm with
    | [], h, _ => exact absurd (by simp only [decL]; rw [if_neg c1, if_neg c2, if_neg c3, if_pos c4]) h
    | [b1], h, _ => exact absurd (by simp only [decL]; rw [if_neg c1, if_neg c2, if_neg c3, if_pos c4]) h
    | [b1, b2], h, _ => exact absurd (by simp only [decL]; rw [if_neg c1, if_neg c2, if_neg c3, if_pos c4]) h
    | b1 :: b2 :: b3 :: r, h, hm =>
      have e := decL4 b0 b1 b2 b3 r c4.1
      rw [e] at hm h ⊢
      split at hm
      · simp at hm; omega
      · rename_i hc; rw [if_neg hc] at h; exact absurd rfl h
  · exact absurd (by simp only [decL]; rw [if_neg c1, if_neg c2, if_neg c3, if_neg c4]) h
theorem runesL_nil (n : Nat) : runesL n [] = [] := by cases n <;> simp [runesL]
/-- More fuel than bytes changes nothing. -/
theorem runesL_fuel : ∀ (n m : Nat) (l : List Int), l.length ≤ n → l.length ≤ m → runesL n l = runesL m l
  | 0, m, l, h, _ => by
    have : l = [] := List.eq_nil_of_length_eq_zero (by omega)
    rw [this, runesL_nil, runesL_nil]
  | n + 1, 0, l, _, h => by
    have : l = [] := List.eq_nil_of_length_eq_zero (by omega)
    rw [this, runesL_nil, runesL_nil]
  | n + 1, m + 1, l, h1, h2 => by
    unfold runesL
    split
    · rfl
    · have := decL_pos l
      rw [runesL_fuel n m _ (by rw [List.length_drop]; omega) (by rw [List.length_drop]; omega)]
/-- Of runes that are read, one behind the other: those of bytes, and those of what stands behind. -/
theorem runesL_app : ∀ (n : Nat) (l t : List Int), (∀ c ∈ runesL n l, c ≠ 65533) → l.length ≤ n → ∀ m, l.length + t.length ≤ m → runesL m (l ++ t) = runesL n l ++ runesL t.length t
  | 0, l, t, _, h, m, hm => by
    have : l = [] := List.eq_nil_of_length_eq_zero (by omega)
    subst this
    rw [runesL_nil, List.nil_append, List.nil_append]
    exact runesL_fuel _ _ _ (by simp at hm; omega) (Nat.le_refl _)
  | n + 1, [], t, _, h, m, hm => by
    rw [runesL_nil, List.nil_append, List.nil_append]
    exact runesL_fuel _ _ _ (by simp at hm; omega) (Nat.le_refl _)
  | n + 1, b0 :: r, t, hv, h, m, hm => by
    have e : runesL (n + 1) (b0 :: r) = (decL (b0 :: r)).1 :: runesL n ((b0 :: r).drop (decL (b0 :: r)).2) := by simp [runesL]
    have hw := decL_width (b0 :: r)
    have hp := decL_pos (b0 :: r)
    rw [e] at hv ⊢
    have hd := decL_more b0 r t (hv _ (by simp))
    match m, hm with
    | 0, hm => simp at hm
    | m + 1, hm =>
      have e2 : runesL (m + 1) (b0 :: r ++ t) = (decL (b0 :: r ++ t)).1 :: runesL m ((b0 :: r ++ t).drop (decL (b0 :: r ++ t)).2) := by simp [runesL]
      rw [e2, hd, List.drop_append_of_le_length (by simp at hw ⊢; omega), List.cons_append]
      congr 1
      refine runesL_app n _ t (fun c hc => hv c (by simp [hc])) (by rw [List.length_drop]; simp at h; simp; omega) m ?_
      rw [List.length_drop]
      simp at hm ⊢
      omega
theorem runesL_point : ∀ (n : Nat) (l : List Int), (∀ c ∈ runesL n l, c ≠ 65533 ∧ c ≠ 46) → l.length ≤ n → (46 : Int) ∉ l
  | 0, l, _, h => by
    have : l = [] := List.eq_nil_of_length_eq_zero (by omega)
    simp [this]
  | n + 1, [], _, _ => by simp
  | n + 1, b0 :: r, hv, h => by
    have e : runesL (n + 1) (b0 :: r) = (decL (b0 :: r)).1 :: runesL n ((b0 :: r).drop (decL (b0 :: r)).2) := by simp [runesL]
    have hp := decL_pos (b0 :: r)
    rw [e] at hv
    have h1 := hv _ (List.mem_cons_self ..)
    have h2 := runesL_point n ((b0 :: r).drop (decL (b0 :: r)).2) (fun c hc => hv c (by simp [hc])) (by rw [List.length_drop]; simp at h; simp; omega)
    intro hm
    rw [← List.take_append_drop (decL (b0 :: r)).2 (b0 :: r), List.mem_append] at hm
    rcases hm with hm | hm
    · exact h1.2 (decL_point b0 r h1.1 hm)
    · exact h2 hm
theorem small_not (c : Int) (h : smallB c = true) : c ≠ 65533 ∧ c ≠ 46 := by
  unfold smallB at h
  simp only [decide_eq_true_eq] at h
  omega
/-- A part has no point in it. -/
theorem part_point (p : ByteArray) (h : partB p = true) : (46 : Int) ∉ bytesOf p := by
  unfold partB at h
  simp only [Bool.and_eq_true] at h
  have h1 := List.all_eq_true.1 h.1
  rw [runesOf_list] at h1
  exact runesL_point _ _ (fun c hc => small_not c (h1 c hc)) (Nat.le_refl _)
end Go.Proofs.YtloagejeeakikaaDoor.QB
namespace Go.Proofs.YtloagejeeakikaaDoor.QB
open Go.RowKit Go.Proofs.YtloagejeeakikaaDoorW.PrintWords Go.Proofs.YtloagejeeakikaaDoorW.PrintLast Go.Proofs.YtloagejeeakikaaDoorW.PrintMore
set_option linter.unusedVariables false
set_option linter.unusedSimpArgs false
def joinB (l : List ByteArray) : ByteArray := ⟨(Lib.join (l.map (·.data.toList)) [46]).toArray⟩
theorem bytesOf_mk (l : List UInt8) : bytesOf ⟨l.toArray⟩ = l.map fun b => (b.toNat : Int) := by simp [bytesOf]
theorem ba_ext {a b : ByteArray} (h : bytesOf a = bytesOf b) : a = b := by
  have := (toList_iff a b).2 h
  rw [ByteArray.toList_eq, ByteArray.toList_eq] at this
  cases a; cases b
  simpa [Array.ext_iff] using congrArg List.toArray this
theorem joinB_one (p : ByteArray) : joinB [p] = p := by
  apply ba_ext
  unfold joinB
  rw [bytesOf_mk, List.map_cons, List.map_nil, Lib.join_one]
  rfl
theorem joinB_cons (p q : ByteArray) (r : List ByteArray) : bytesOf (joinB (p :: q :: r)) = bytesOf p ++ 46 :: bytesOf (joinB (q :: r)) := by
  unfold joinB
  rw [bytesOf_mk, bytesOf_mk]
  simp only [List.map_cons, Lib.join, List.intercalate, List.intersperse_cons_cons, List.flatten_cons, List.map_append]
  simp [bytesOf]
theorem indexByte_at (p : ByteArray) (s : ByteArray) (t : List Int) (hp : (46 : Int) ∉ bytesOf p) (hs : bytesOf s = bytesOf p ++ 46 :: t) : Lib.indexByte s.data.toList 46 = (p.size : Int) := by
  have key : ∀ (l : List UInt8) (x : List Int) , (46 : Int) ∉ x → (l.map fun b => (b.toNat : Int)) = x ++ 46 :: t → Lib.indexByte l 46 = (x.length : Int) := by
    intro l
    induction l with
    | nil => intro x _ h; cases x <;> simp at h
    | cons b l ih =>
      intro x hx h
      match x, hx, h with
      | [], _, h =>
        simp at h
        have : b = 46 := by apply UInt8.toNat_inj.1; show b.toNat = 46; have := h.1; omega
        simp [Lib.indexByte, this]
      | y :: x, hx, h =>
        simp at h
        have hy : y ≠ 46 := fun e => hx (by simp [e])
        have hb : (b == 46) = false := by
          rw [beq_eq_false_iff_ne]
          intro e
          apply hy
          rw [← h.1, e]
          rfl
        have := ih x (fun e => hx (by simp [e])) (by simpa using h.2)
        simp [Lib.indexByte, hb, this]

  have := key s.data.toList (bytesOf p) hp hs
  rw [this, bytesOf_length]
theorem indexByte_no (p : ByteArray) (hp : (46 : Int) ∉ bytesOf p) : ¬ 0 ≤ Lib.indexByte p.data.toList 46 := by
  intro h
  obtain ⟨o, ho⟩ : ∃ o : Nat, Lib.indexByte p.data.toList 46 = o := ⟨_, (Int.toNat_of_nonneg h).symm⟩
  have := (Lib.indexByte_some ho).1
  apply hp
  unfold bytesOf
  rw [List.mem_map]
  exact ⟨46, List.mem_of_getElem? this, rfl⟩
/-- Pieces that have no point, joined by points, are split into them. -/
theorem split_join : ∀ (l : List ByteArray), l ≠ [] → (∀ p ∈ l, (46 : Int) ∉ bytesOf p) → ∀ n, (joinB l).size ≤ n → splitG 46 n (joinB l) = l
  | [], h, _, _, _ => absurd rfl h
  | [p], _, h, n, _ => by
    rw [joinB_one]
    exact splitG_none 46 n p (indexByte_no p (h p (by simp)))
  | p :: q :: r, _, h, n, hn => by
    have hj := joinB_cons p q r
    have hi := indexByte_at p (joinB (p :: q :: r)) _ (h p (by simp)) hj
    have hl : (joinB (p :: q :: r)).size = p.size + 1 + (joinB (q :: r)).size := by
      rw [← bytesOf_length, hj]
      simp [bytesOf_length]
      omega
    match n, hn with
    | 0, hn => omega
    | n + 1, hn =>
      rw [splitG, hi, if_pos (by omega), Int.toNat_natCast]
      have e1 : (joinB (p :: q :: r)).extract 0 p.size = p := by
        apply ba_ext
        rw [bytesOf_extract, hj, List.drop_zero, List.take_append_of_le_length (by rw [bytesOf_length]; exact Nat.le_refl _), List.take_of_length_le (by rw [bytesOf_length]; exact Nat.le_refl _)]
      have e2 : (joinB (p :: q :: r)).extract (p.size + 1) (joinB (p :: q :: r)).size = joinB (q :: r) := by
        apply ba_ext
        rw [bytesOf_extract, List.take_of_length_le (by rw [bytesOf_length]; exact Nat.le_refl _), hj, List.drop_append, List.drop_of_length_le (by rw [bytesOf_length]; omega), bytesOf_length]
        simp
      rw [e1, e2, split_join (q :: r) (by simp) (fun x hx => h x (by simp at hx ⊢; exact Or.inr hx)) n (by omega)]
theorem join_inj {l m : List ByteArray} (hl : l ≠ []) (hm : m ≠ []) (h1 : ∀ p ∈ l, (46 : Int) ∉ bytesOf p) (h2 : ∀ p ∈ m, (46 : Int) ∉ bytesOf p) (h : joinB l = joinB m) : l = m := by
  have a := split_join l hl h1 _ (Nat.le_refl _)
  have b := split_join m hm h2 _ (Nat.le_refl _)
  rw [h] at a
  exact a.symm.trans b
/-! ### What a name is made of -/
/-- The runes of parts, joined, are few where the parts' are. -/
def runeN (p : ByteArray) : Nat := (runesOf p).length
theorem part_valid (p : ByteArray) (h : partB p = true) : ∀ c ∈ runesL (bytesOf p).length (bytesOf p), c ≠ 65533 := by
  unfold partB at h
  simp only [Bool.and_eq_true] at h
  have h1 := List.all_eq_true.1 h.1
  rw [runesOf_list] at h1
  exact fun c hc => (small_not c (h1 c hc)).1
theorem runes_join : ∀ (l : List ByteArray), l ≠ [] → (∀ p ∈ l, partB p = true) → (runesOf (joinB l)).length + 1 = (l.map fun p => runeN p + 1).sum
  | [], h, _ => absurd rfl h
  | [p], _, _ => by rw [joinB_one]; simp [runeN]
  | p :: q :: r, _, h => by
    have ih := runes_join (q :: r) (by simp) (fun x hx => h x (by simp at hx ⊢; exact Or.inr hx))
    have hj := joinB_cons p q r
    have e : runesOf (joinB (p :: q :: r)) = runesL (bytesOf p).length (bytesOf p) ++ runesL (46 :: bytesOf (joinB (q :: r))).length (46 :: bytesOf (joinB (q :: r))) := by
      rw [runesOf_list, hj]
      exact runesL_app _ _ _ (part_valid p (h p (by simp))) (Nat.le_refl _) _ (by rw [List.length_append]; exact Nat.le_refl _)
    have e2 : runesL (46 :: bytesOf (joinB (q :: r))).length (46 :: bytesOf (joinB (q :: r))) = 46 :: runesOf (joinB (q :: r)) := by
      rw [runesOf_list]
      have hd : decL (46 :: bytesOf (joinB (q :: r))) = (46, 1) := rfl
      rw [List.length_cons, runesL, if_neg (by simp), hd]
      simp
    rw [e, e2, List.length_append, ← runesOf_list]
    simp only [List.length_cons, List.map_cons, List.sum_cons] at ih ⊢
    unfold runeN at *
    omega
/-! ### The document's reading of names -/
theorem take_step (s : ByteArray) (i : Nat) (h : i < s.size) : (bytesOf s).take (i + 1) = (bytesOf s).take i ++ [bt s i] := by
  rw [List.take_add_one, bt_eq, List.getD_eq_getElem?_getD, List.getElem?_eq_getElem (by rw [bytesOf_length]; exact h)]
  rfl
/-- One byte more, behind what has been split so far. -/
def pieceStep (acc : List (List Int)) (b : Int) : List (List Int) := if b = 46 then acc ++ [[]] else acc.set (acc.length - 1) (acc.getD (acc.length - 1) [] ++ [b])
theorem pieceStep_len (acc : List (List Int)) (b : Int) : acc.length ≤ (pieceStep acc b).length ∧ (pieceStep acc b).length ≤ acc.length + 1 := by
  unfold pieceStep
  split <;> simp
theorem pieces_loop (s : ByteArray) (hs : s.size ≤ 1000000) : ∀ (n i k : Nat) (acc : List ByteArray), i + n = s.size → acc ≠ [] → acc.length ≤ i + 1 → (∀ p ∈ acc, p.size ≤ i) →
    ∃ out, oublietteref03_pieces.l0 (k + n + 1) s acc i = some out ∧ out.map bytesOf = ((bytesOf s).drop i).foldl pieceStep (acc.map bytesOf)
  | 0, i, k, acc, h, _, _, _ => by
    refine ⟨acc, ?_, ?_⟩
    · rw [oublietteref03_pieces.l0.eq_2, if_neg (by omega)]
    · rw [List.drop_of_length_le (by rw [bytesOf_length]; omega)]; rfl
  | n + 1, i, k, acc, h, hne, hlen, hps => by
    have hi : i < s.size := by omega
    have hd : (bytesOf s).drop i = bt s i :: (bytesOf s).drop (i + 1) := by
      rw [bt_eq, List.getD_eq_getElem?_getD, List.getElem?_eq_getElem (by rw [bytesOf_length]; exact hi)]
      simp
    have hpos : 0 < acc.length := List.length_pos_iff.2 hne
    rw [show k + (n + 1) + 1 = (k + n + 1) + 1 from by omega, oublietteref03_pieces.l0.eq_2, if_pos (by omega), if_pos (by omega), hd, List.foldl_cons,
      show wrap64 ((i : Int) + 1) = ((i + 1 : Nat) : Int) from by unfold wrap64; omega]
    by_cases hp : bt s i = 46
    · rw [if_pos hp, if_pos (by omega)]
      obtain ⟨out, ho, he⟩ := pieces_loop s hs n (i + 1) k (acc ++ [⟨#[]⟩]) (by omega) (by simp) (by simp; omega) (by intro p hp; simp at hp; rcases hp with hp | rfl; exact Nat.le_succ_of_le (hps p hp); exact Nat.zero_le _)
      refine ⟨out, ho, ?_⟩
      rw [he, hp]
      congr 1
      simp [pieceStep, bytesOf]
    · have hw : wrap64 ((acc.length : Int) - 1) = ((acc.length - 1 : Nat) : Int) := by unfold wrap64; omega
      have hsz : (s.extract i (i + 1)).size = 1 := by simp; omega
      rw [if_neg hp, hw, if_pos (by omega), if_pos (by omega), if_pos (by omega), if_pos (by omega), Int.toNat_natCast, Int.toNat_natCast, Int.toNat_natCast]
      obtain ⟨x, hx⟩ : ∃ x, acc[acc.length - 1]? = some x := ⟨_, List.getElem?_eq_getElem (by omega)⟩
      have hrd : rdOf ByteArray.empty acc ((acc.length - 1 : Nat) : Int) = x := by simp [rdOf, List.getD_eq_getElem?_getD, hx]
      have hxm : x.size ≤ i := hps x (List.mem_of_getElem? hx)
      rw [hrd, hsz, if_pos (by omega)]
      have hb1 : bytesOf (s.extract i (i + 1)) = [bt s i] := by
        rw [bytesOf_extract, take_step s i hi, List.drop_append, List.drop_of_length_le (by rw [List.length_take, bytesOf_length]; omega), List.length_take, bytesOf_length, show i - min i s.size = 0 from by omega]
        rfl
      have hb2 : bytesOf (x ++ s.extract i (i + 1)) = bytesOf x ++ [bt s i] := by
        rw [← hb1]
        unfold bytesOf
        rw [ByteArray.data_append, Array.toList_append, List.map_append]
      obtain ⟨out, ho, he⟩ := pieces_loop s hs n (i + 1) k (acc.set (acc.length - 1) (x ++ s.extract i (i + 1))) (by omega) (by simp [hne]) (by simp; omega) (by
        intro p hp
        rcases List.mem_or_eq_of_mem_set hp with hp | rfl
        · exact Nat.le_succ_of_le (hps p hp)
        · rw [← bytesOf_length, hb2, List.length_append, bytesOf_length]; simp; omega)
      refine ⟨out, ho, ?_⟩
      rw [he]
      congr 1
      unfold pieceStep
      rw [if_neg hp, List.map_set, hb2, List.length_map, List.getD_eq_getElem?_getD, List.getElem?_map, hx]
      rfl
theorem step_plain : ∀ (p : List Int) (acc : List (List Int)) (x : List Int), (46 : Int) ∉ p → p.foldl pieceStep (acc ++ [x]) = acc ++ [x ++ p]
  | [], acc, x, _ => by simp
  | b :: p, acc, x, h => by
    have hb : b ≠ 46 := fun e => h (by simp [e])
    rw [List.foldl_cons]
    have e : pieceStep (acc ++ [x]) b = acc ++ [x ++ [b]] := by
      unfold pieceStep
      rw [if_neg hb]
      simp
    rw [e, step_plain p acc (x ++ [b]) (fun e => h (by simp [e]))]
    simp
theorem step_join : ∀ (l : List ByteArray), l ≠ [] → (∀ p ∈ l, (46 : Int) ∉ bytesOf p) → ∀ acc, (bytesOf (joinB l)).foldl pieceStep (acc ++ [[]]) = acc ++ l.map bytesOf
  | [], h, _, _ => absurd rfl h
  | [p], _, h, acc => by rw [joinB_one, step_plain _ _ _ (h p (by simp))]; simp
  | p :: q :: r, _, h, acc => by
    rw [joinB_cons, List.foldl_append, step_plain _ _ _ (h p (by simp)), List.nil_append, List.foldl_cons]
    have e : pieceStep (acc ++ [bytesOf p]) 46 = (acc ++ [bytesOf p]) ++ [[]] := by simp [pieceStep]
    rw [e, step_join (q :: r) (by simp) (fun x hx => h x (by simp at hx ⊢; exact Or.inr hx)) (acc ++ [bytesOf p])]
    simp
theorem map_inj : ∀ {l m : List ByteArray}, l.map bytesOf = m.map bytesOf → l = m
  | [], [], _ => rfl
  | [], _ :: _, h => by simp at h
  | _ :: _, [], h => by simp at h
  | a :: l, b :: m, h => by
    simp at h
    rw [ba_ext h.1, map_inj h.2]
theorem pieces_join (l : List ByteArray) (hne : l ≠ []) (h : ∀ p ∈ l, (46 : Int) ∉ bytesOf p) (hs : (joinB l).size ≤ 1000000) (k : Nat) (hk : (joinB l).size + 1 ≤ k) : oublietteref03_pieces.f k (joinB l) = some l := by
  unfold oublietteref03_pieces.f
  obtain ⟨out, ho, he⟩ := pieces_loop (joinB l) hs (joinB l).size 0 (k - (joinB l).size - 1) [⟨#[]⟩] (by omega) (by simp) (by simp) (by intro p hp; rw [List.mem_singleton] at hp; subst hp; exact Nat.le_refl _)
  rw [show k - (joinB l).size - 1 + (joinB l).size + 1 = k from by omega] at ho
  rw [List.drop_zero] at he
  have e2 := step_join l hne h []
  have e3 : ([⟨#[]⟩] : List ByteArray).map bytesOf = [] ++ [[]] := by simp [bytesOf]
  rw [e3, e2, List.nil_append] at he
  rw [map_inj he] at ho
  exact ho

theorem join_split : ∀ (n : Nat) (s : ByteArray), s.size ≤ n → joinB (splitG 46 n s) = s ∧ splitG 46 n s ≠ [] ∧ ∀ p ∈ splitG 46 n s, (46 : Int) ∉ bytesOf p
  | 0, s, h => by
    refine ⟨joinB_one s, by simp [splitG], fun p hp => ?_⟩
    have : p = s := by simpa [splitG] using hp
    subst this
    have : bytesOf p = [] := List.eq_nil_of_length_eq_zero (by rw [bytesOf_length]; omega)
    rw [this]
    simp
  | n + 1, s, h => by
    by_cases hi : 0 ≤ Lib.indexByte s.data.toList 46
    · obtain ⟨o, ho⟩ : ∃ o : Nat, Lib.indexByte s.data.toList 46 = o := ⟨_, (Int.toNat_of_nonneg hi).symm⟩
      obtain ⟨hso, hno⟩ := Lib.indexByte_some ho
      have holt : o < s.size := by have := (List.getElem?_eq_some_iff.1 hso).1; simpa using this
      have hsp : splitG 46 (n + 1) s = s.extract 0 o :: splitG 46 n (s.extract (o + 1) s.size) := by
        rw [splitG, if_pos hi, ho]
        rfl
      obtain ⟨h1, h2, h3⟩ := join_split n (s.extract (o + 1) s.size) (by rw [ByteArray.size_extract]; omega)
      have hp0 : (46 : Int) ∉ bytesOf (s.extract 0 o) := by
        intro hm
        rw [bytesOf_extract, List.drop_zero] at hm
        obtain ⟨j, hj, e⟩ := List.getElem_of_mem hm
        rw [List.length_take] at hj
        rw [List.getElem_take] at e
        have hjs : j < s.data.toList.length := by have e1 := bytesOf_length s; unfold bytesOf at e1; rw [List.length_map] at e1; omega
        refine hno j (by omega) ?_
        simp only [bytesOf, List.getElem_map] at e
        rw [List.getElem?_eq_getElem hjs]
        congr 1
        apply UInt8.toNat_inj.1
        show (s.data.toList[j]).toNat = 46
        omega
      rw [hsp]
      refine ⟨?_, by simp, fun p hp => ?_⟩
      · obtain ⟨q, r, hq⟩ : ∃ q r, splitG 46 n (s.extract (o + 1) s.size) = q :: r := by
          cases hc : splitG 46 n (s.extract (o + 1) s.size) with
          | nil => exact absurd hc h2
          | cons q r => exact ⟨q, r, rfl⟩
        rw [hq] at h1 ⊢
        apply ba_ext
        rw [joinB_cons, h1, bytesOf_extract, bytesOf_extract, List.drop_zero, show (bytesOf s).take s.size = bytesOf s from List.take_of_length_le (by rw [bytesOf_length]; exact Nat.le_refl _)]
        have h46 : (bytesOf s)[o]? = some 46 := by
          unfold bytesOf
          rw [List.getElem?_map, hso]
          rfl
        have hcut : (bytesOf s).drop o = 46 :: (bytesOf s).drop (o + 1) := by
          rw [List.drop_eq_getElem_cons (by rw [bytesOf_length]; exact holt)]
          congr 1
          exact Option.some.inj ((List.getElem?_eq_getElem _).symm.trans h46)
        rw [← hcut, List.take_append_drop]
      · rcases List.mem_cons.1 hp with rfl | hp
        · exact hp0
        · exact h3 p hp
    · have hsp : splitG 46 (n + 1) s = [s] := by rw [splitG, if_neg hi]
      rw [hsp]
      refine ⟨joinB_one s, by simp, fun p hp => ?_⟩
      have : p = s := by simpa using hp
      subst this
      intro hm
      apply hi
      unfold bytesOf at hm
      obtain ⟨b, hb, e⟩ := List.mem_map.1 hm
      have hb46 : b = 46 := by apply UInt8.toNat_inj.1; show b.toNat = 46; omega
      subst hb46
      obtain ⟨j, hj, e2⟩ := List.getElem_of_mem hb
      have hge := Lib.indexByte_ge p.data.toList 46
      by_cases hm1 : Lib.indexByte p.data.toList 46 = -1
      · exact absurd (by rw [List.getElem?_eq_getElem hj, e2]) (Lib.indexByte_none hm1 j)
      · omega
theorem runes_mem : ∀ (l : List ByteArray), l ≠ [] → (∀ p ∈ l, partB p = true) → ∀ c ∈ runesOf (joinB l), c = 46 ∨ ∃ p ∈ l, c ∈ runesOf p
  | [], h, _ => absurd rfl h
  | [p], _, _ => by
    rw [joinB_one]
    exact fun c hc => .inr ⟨p, by simp, hc⟩
  | p :: q :: r, _, h => by
    have ih := runes_mem (q :: r) (by simp) (fun x hx => h x (by simp at hx ⊢; exact Or.inr hx))
    have hj := joinB_cons p q r
    have e : runesOf (joinB (p :: q :: r)) = runesL (bytesOf p).length (bytesOf p) ++ runesL (46 :: bytesOf (joinB (q :: r))).length (46 :: bytesOf (joinB (q :: r))) := by
      rw [runesOf_list, hj]
      exact runesL_app _ _ _ (part_valid p (h p (by simp))) (Nat.le_refl _) _ (by rw [List.length_append]; exact Nat.le_refl _)
    have e2 : runesL (46 :: bytesOf (joinB (q :: r))).length (46 :: bytesOf (joinB (q :: r))) = 46 :: runesOf (joinB (q :: r)) := by
      rw [runesOf_list]
      have hd : decL (46 :: bytesOf (joinB (q :: r))) = (46, 1) := rfl
      rw [List.length_cons, runesL, if_neg (by simp), hd]
      simp
    rw [e, e2, ← runesOf_list]
    intro c hc
    rcases List.mem_append.1 hc with hc | hc
    · exact .inr ⟨p, by simp, hc⟩
    · rcases List.mem_cons.1 hc with rfl | hc
      · exact .inl rfl
      · rcases ih c hc with h1 | ⟨x, hx, hc⟩
        · exact .inl h1
        · exact .inr ⟨x, by simp at hx ⊢; exact .inr hx, hc⟩
theorem part_runes (p : ByteArray) (h : partB p = true) : ∀ c ∈ runesOf p, c ≠ 65533 := by
  rw [runesOf_list]
  exact part_valid p h
theorem runes_fine (l : List ByteArray) (hne : l ≠ []) (h : ∀ p ∈ l, partB p = true) : (65533 : Int) ∉ runesOf (joinB l) := by
  intro hc
  rcases runes_mem l hne h _ hc with h1 | ⟨p, hp, hc⟩
  · cases h1
  · exact part_runes p (h p hp) _ hc rfl
theorem valid_runes : ∀ (n : Nat) (l : List UInt8), (∀ c ∈ runesL n (bytesOf ⟨l.toArray⟩), c ≠ 65533) → Lib.validGoD n l = true
  | 0, l, _ => rfl
  | n + 1, l, h => by
    unfold Lib.validGoD
    by_cases hl : l = []
    · rw [if_pos hl]
    · rw [if_neg hl]
      have hne : bytesOf ⟨l.toArray⟩ ≠ [] := by
        rw [bytesOf_mk]
        simpa using hl
      have hsz : 0 < (⟨l.toArray⟩ : ByteArray).size := by
        show 0 < l.toArray.size
        simp
        exact List.length_pos_iff.2 hl
      have hd := decode_decL ⟨l.toArray⟩ 0 hsz
      rw [List.drop_zero] at hd
      rw [runesL, if_neg hne, ← hd] at h
      have h1 : ((Lib.decodeL l).1 : Int) ≠ 65533 := h _ (by simp [Lib.decodeL])
      rw [if_neg (fun e => h1 (by rw [e.1]; rfl))]
      refine valid_runes n _ (fun c hc => h c ?_)
      rw [bytesOf_mk] at hc ⊢
      rw [List.map_drop] at hc
      exact List.mem_cons_of_mem _ hc
theorem cnt_part (p : ByteArray) (h : partB p = true) : cntI p = (runeN p : Int) := by
  have hv : Lib.validD p.data.toList = true := by
    unfold Lib.validD
    refine valid_runes _ _ ?_
    have h1 := part_valid p h
    have e : (⟨p.data.toList.toArray⟩ : ByteArray) = p := by simp
    rw [e]
    have e2 : p.data.toList.length = (bytesOf p).length := by simp [bytesOf]
    rw [e2]
    exact h1
  unfold cntI runeN
  rw [if_pos hv]
theorem tot_part : ∀ (l : List ByteArray), (∀ p ∈ l, partB p = true) → totI l = ((l.map fun p => runeN p + 1).sum : Nat)
  | [], _ => rfl
  | p :: l, h => by
    have ih := tot_part l (fun x hx => h x (by simp [hx]))
    unfold totI at ih ⊢
    simp only [List.map_cons, List.sum_cons]
    rw [cnt_part p (h p (by simp)), ih]
    omega
theorem piece_size : ∀ (l : List ByteArray) (p : ByteArray), p ∈ l → p.size ≤ (joinB l).size ∧ l.length ≤ (joinB l).size + 1
  | [], p, h => by simp at h
  | [q], p, h => by
    have : p = q := by simpa using h
    subst this
    rw [joinB_one]
    simp
  | q :: x :: r, p, h => by
    have hj : (joinB (q :: x :: r)).size = q.size + 1 + (joinB (x :: r)).size := by
      rw [← bytesOf_length, joinB_cons]
      simp [bytesOf_length]
      omega
    have ih1 := piece_size (x :: r) x (by simp)
    rcases List.mem_cons.1 h with rfl | h
    · simp only [List.length_cons] at ih1 ⊢
      omega
    · have ih := piece_size (x :: r) p h
      simp only [List.length_cons] at ih ⊢
      omega
theorem part_ref' (s : ByteArray) (hs : s.size ≤ 1000000) (k : Nat) (hk : s.size + 20 ≤ k) : oublietteref03_Part.f k s = some (partB s) := by
  have := part_ref s hs (k - s.size - 20)
  rw [show k - s.size - 20 + s.size + 20 = k from by omega] at this
  rw [this, part_f s (by omega)]
theorem right_loop (x : ByteArray) (l : List ByteArray) (hne : l ≠ []) (hx : x = joinB l) (hs : x.size ≤ 100000) : ∀ (n i k : Nat), i + n = l.length → (∀ j p, j < i → l[j]? = some p → partB p = true) → x.size + 50 ≤ k → oublietteref03_Right.l0 (k + n + 1) x l i = some (rightL l)
  | 0, i, k, hi, hall, hk => by
    have hp : ∀ p ∈ l, partB p = true := fun p hp => by
      obtain ⟨j, hj, e⟩ := List.getElem_of_mem hp
      exact hall j p (by omega) (by rw [List.getElem?_eq_getElem hj, e])
    have hr0 : rightL l = (decide (l.length ≤ 4) && decide (totI l - 1 ≤ 24)) := by
      unfold rightL
      rw [List.all_eq_true.2 hp, Bool.true_and]
    rw [Nat.add_zero, oublietteref03_Right.l0.eq_2, if_neg (by omega), hr0]
    by_cases h4 : l.length ≤ 4
    · rw [if_pos (by omega), decide_eq_true h4, Bool.true_and]
      unfold oublietteref02_Count.f
      obtain ⟨res, hr, ho⟩ := runes_step x (by omega) x.size 0 (k - x.size - 7) [] (by omega) (by omega) (by simp)
      rw [show k - x.size - 7 + x.size + 7 = k from by omega] at hr
      have hr' : oublietteref02_Runes.f k x = some res := hr
      rw [hr', Option.bind_some]
      rcases ho with ⟨a, b⟩ | ⟨a, b⟩
      · have hn : res.1 = runesOf x := b
        have h1 := runes_join l hne hp
        rw [← hx] at h1
        have h2 := tot_part l hp
        rw [if_pos a, Option.bind_some, hn]
        congr 1
        rw [decide_eq_decide]
        omega
      · have h1 := runes_fine l hne hp
        rw [← hx] at h1
        exact absurd b h1
    · rw [if_neg (by omega), decide_eq_false h4, Bool.false_and]
  | n + 1, i, k, hi, hall, hk => by
    obtain ⟨p, hp⟩ : ∃ p, l[i]? = some p := ⟨_, List.getElem?_eq_getElem (by omega)⟩
    have hpm := List.mem_of_getElem? hp
    have hrd : rdOf ByteArray.empty l (i : Int) = p := by simp [rdOf, List.getD_eq_getElem?_getD, hp]
    obtain ⟨hps, hll⟩ := piece_size l p hpm
    rw [← hx] at hps hll
    rw [show k + (n + 1) + 1 = (k + n + 1) + 1 from by omega, oublietteref03_Right.l0.eq_2, if_pos (by omega), if_pos (by omega), hrd, part_ref' p (by omega) _ (by omega), Option.bind_some]
    cases hpp : partB p with
    | false =>
      rw [if_neg (by simp)]
      have : rightL l = false := by
        unfold rightL
        have : l.all partB = false := by
          rw [Bool.eq_false_iff]
          intro e
          rw [List.all_eq_true.1 e p hpm] at hpp
          cases hpp
        rw [this, Bool.false_and]
      rw [this]
    | true =>
      rw [if_pos rfl, show wrap64 ((i : Int) + 1) = ((i + 1 : Nat) : Int) from by unfold wrap64; omega]
      refine right_loop x l hne hx hs n (i + 1) k (by omega) (fun j q hj hq => ?_) hk
      rcases Nat.lt_or_ge j i with h | h
      · exact hall j q h hq
      · have : j = i := by omega
        subst this
        rw [hp] at hq
        cases hq
        exact hpp
/-- The document's reading of a name is the program's. -/
theorem right_ref (s : ByteArray) (hs : s.size ≤ 100000) (k : Nat) (hk : 2 * s.size + 100 ≤ k) : oublietteref03_Right.f k s = some (rightL (splitOf 46 s)) := by
  obtain ⟨h1, h2, h3⟩ := join_split s.size s (Nat.le_refl _)
  obtain ⟨p, hp⟩ := List.exists_mem_of_ne_nil _ h2
  have hlen := (piece_size _ p hp).2
  rw [h1] at hlen
  unfold oublietteref03_Right.f
  have hpj := pieces_join (splitG 46 s.size s) h2 h3 (by rw [h1]; omega) k (by rw [h1]; omega)
  rw [h1] at hpj
  rw [hpj, Option.bind_some]
  have := right_loop s (splitG 46 s.size s) h2 h1.symm hs (splitG 46 s.size s).length 0 (k - (splitG 46 s.size s).length - 1) (by omega) (fun j _ hj => by omega) (by omega)
  rw [show k - (splitG 46 s.size s).length - 1 + (splitG 46 s.size s).length + 1 = k by omega] at this
  exact this
end Go.Proofs.YtloagejeeakikaaDoor.QB
