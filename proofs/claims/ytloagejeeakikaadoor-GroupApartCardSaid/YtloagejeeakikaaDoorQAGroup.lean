/- Text of this claim: a group's names are names. -/
import Derived.Test.YtloagejeeakikaaDoorQANames
namespace Go.Proofs.YtloagejeeakikaaDoor.QA
open Go.RowKit Go.Proofs.YtloagejeeakikaaDoorW.PrintWords Go.Proofs.YtloagejeeakikaaDoorW.PrintLast Go.Proofs.YtloagejeeakikaaDoorW.PrintMore
set_option linter.unusedVariables false
set_option linter.unusedSimpArgs false
/-- Parts that make a name. -/
structure Good (l : List ByteArray) : Prop where
  ne : l ≠ []
  few : l.length ≤ 4
  part : ∀ p ∈ l, partB p = true
  size : ∀ p ∈ l, p.size ≤ 1000
  runes : (l.map fun p => runeN p + 1).sum ≤ 25
theorem Good.point {l : List ByteArray} (h : Good l) : ∀ p ∈ l, (46 : Int) ∉ bytesOf p := fun p hp => part_point p (h.part p hp)
theorem join_size : ∀ (l : List ByteArray), (∀ p ∈ l, p.size ≤ 1000) → (joinB l).size ≤ 1001 * l.length
  | [], _ => by simp [joinB, Lib.join_nil, ByteArray.size]
  | [p], h => by rw [joinB_one]; have := h p (by simp); simp; omega
  | p :: q :: r, h => by
    have ih := join_size (q :: r) (fun x hx => h x (by simp at hx ⊢; exact Or.inr hx))
    have := h p (by simp)
    have hj : (joinB (p :: q :: r)).size = p.size + 1 + (joinB (q :: r)).size := by
      rw [← bytesOf_length, joinB_cons]
      simp [bytesOf_length]
      omega
    simp only [List.length_cons] at ih ⊢
    omega
theorem Good.join {l : List ByteArray} (h : Good l) : (joinB l).size ≤ 4004 := Nat.le_trans (join_size l h.size) (by have := h.few; omega)
theorem tot_le : ∀ (l : List ByteArray), totI l ≤ ((l.map fun p => runeN p + 1).sum : Nat)
  | [] => by simp [totI]
  | p :: l => by
    have ih := tot_le l
    unfold totI at ih ⊢
    simp only [List.map_cons, List.sum_cons]
    have : cntI p ≤ (runeN p : Int) := by unfold cntI runeN; split <;> omega
    omega
theorem Good.right {l : List ByteArray} (h : Good l) : rightL (splitOf 46 (joinB l)) = true := by
  unfold splitOf
  rw [split_join l h.ne h.point _ (Nat.le_refl _)]
  unfold rightL
  have := tot_le l
  have := h.runes
  rw [List.all_eq_true.2 h.part, decide_eq_true h.few, decide_eq_true (by omega)]
  rfl
theorem Good.joined {l : List ByteArray} (h : Good l) : group_joined.f l = some (joinB l) := by
  unfold group_joined.f name_Join.f
  have hl := List.length_pos_iff.2 h.ne
  have hc : ¬ (l.length = 0 ∨ 4 < l.length ∨ l.all partB = false) := by
    rintro (e | e | e)
    · omega
    · have := h.few; omega
    · rw [List.all_eq_true.2 h.part] at e; cases e
  rw [if_pos ⟨fun p hp => Nat.le_trans (h.size p hp) (by decide), Nat.le_trans h.join (by decide), Nat.le_trans h.few (by decide)⟩, if_neg hc, if_pos h.right]
  rfl
theorem part_ref' (s : ByteArray) (hs : s.size ≤ 1000000) (k : Nat) (hk : s.size + 20 ≤ k) : oublietteref03_Part.f k s = some (partB s) := by
  have := part_ref s hs (k - s.size - 20)
  rw [show k - s.size - 20 + s.size + 20 = k from by omega] at this
  rw [this, part_f s (by omega)]
theorem right_loop (x : ByteArray) (l : List ByteArray) (h : Good l) (hx : x = joinB l) : ∀ (n i k : Nat), i + n = l.length → 6000 ≤ k → oublietteref03_Right.l0 (k + n + 1) x l i = some true
  | 0, i, k, hi, hk => by
    rw [Nat.add_zero, oublietteref03_Right.l0.eq_2, if_neg (by omega), if_pos (by have := h.few; omega)]
    unfold oublietteref02_Count.f
    have hj := h.join
    obtain ⟨res, hr, ho⟩ := runes_step (joinB l) (by omega) (joinB l).size 0 (k - (joinB l).size - 7) [] (by omega) (by omega) (by simp)
    rw [show k - (joinB l).size - 7 + (joinB l).size + 7 = k from by omega] at hr
    have hr' : oublietteref02_Runes.f k (joinB l) = some res := hr
    rw [hx, hr']
    simp only [Option.bind_some]
    rcases ho with ⟨a, b⟩ | ⟨a, b⟩
    · have hn : res.1 = runesOf (joinB l) := b
      have := runes_join l h.ne h.part
      have := h.runes
      rw [if_pos a, Option.bind_some, hn, decide_eq_true (by omega)]
    · rw [if_neg (by omega), Option.bind_some]
      rfl
  | n + 1, i, k, hi, hk => by
    obtain ⟨p, hp⟩ : ∃ p, l[i]? = some p := ⟨_, List.getElem?_eq_getElem (by omega)⟩
    have hpm := List.mem_of_getElem? hp
    have hrd : rdOf ByteArray.empty l (i : Int) = p := by simp [rdOf, List.getD_eq_getElem?_getD, hp]
    have hps := h.size p hpm
    rw [show k + (n + 1) + 1 = (k + n + 1) + 1 from by omega, oublietteref03_Right.l0.eq_2, if_pos (by omega), if_pos (by omega), hrd, part_ref' p (by omega) _ (by omega), Option.bind_some, if_pos (h.part p hpm),
      show wrap64 ((i : Int) + 1) = ((i + 1 : Nat) : Int) from by have := h.few; unfold wrap64; omega]
    exact right_loop x l h hx n (i + 1) k (by omega) hk
theorem Good.rightR {l : List ByteArray} (h : Good l) (k : Nat) (hk : 7000 ≤ k) : oublietteref03_Right.f k (joinB l) = some true := by
  unfold oublietteref03_Right.f
  have hj := h.join
  rw [pieces_join l h.ne h.point (by omega) k (by omega), Option.bind_some]
  have := right_loop (joinB l) l h rfl l.length 0 (k - l.length - 1) (by omega) (by have := h.few; omega)
  rw [show k - l.length - 1 + l.length + 1 = k from by have := h.few; omega] at this
  exact this
theorem Good.splitR {l : List ByteArray} (h : Good l) (k : Nat) (hk : 7000 ≤ k) : oublietteref03_Split.f k (joinB l) = some l := by
  unfold oublietteref03_Split.f
  have hj := h.join
  rw [h.rightR k hk, Option.bind_some, if_pos rfl, pieces_join l h.ne h.point (by omega) k (by omega), Option.bind_some]
theorem below_loop (m r : List ByteArray) (hl : m.length ≤ 1000) : ∀ (n i k : Nat), i + n = m.length → oublietteref03_Below.l0 (k + n + 1) (m ++ r) m i = some true
  | 0, i, k, hi => by rw [oublietteref03_Below.l0.eq_2, if_neg (by omega)]
  | n + 1, i, k, hi => by
    obtain ⟨p, hp⟩ : ∃ p, m[i]? = some p := ⟨_, List.getElem?_eq_getElem (by omega)⟩
    have hp2 : (m ++ r)[i]? = some p := by rw [List.getElem?_append_left (by omega), hp]
    have hrd : rdOf ByteArray.empty m (i : Int) = p := by simp [rdOf, List.getD_eq_getElem?_getD, hp]
    have hrd2 : rdOf ByteArray.empty (m ++ r) (i : Int) = p := by
      unfold rdOf
      rw [List.getD_eq_getElem?_getD, Int.toNat_natCast, hp2]
      rfl
    rw [show k + (n + 1) + 1 = (k + n + 1) + 1 from by omega, oublietteref03_Below.l0.eq_2, if_pos (by omega), if_pos (by omega), if_pos (by rw [List.length_append]; omega), hrd, hrd2, if_pos rfl,
      show wrap64 ((i : Int) + 1) = ((i + 1 : Nat) : Int) from by unfold wrap64; omega]
    exact below_loop m r hl n (i + 1) k (by omega)
theorem Good.belowR {m r : List ByteArray} (h1 : Good (m ++ r)) (h2 : Good m) (hr : r ≠ []) (k : Nat) (hk : 7000 ≤ k) : oublietteref03_Below.f k (joinB (m ++ r)) (joinB m) = some true := by
  unfold oublietteref03_Below.f
  have hm := List.length_pos_iff.2 h2.ne
  have hrl := List.length_pos_iff.2 hr
  have hf := h2.few
  rw [h1.splitR k hk, Option.bind_some, h2.splitR k hk, Option.bind_some, if_neg (by omega), decide_eq_false (by rw [List.length_append]; omega)]
  rw [show k = (k - 1) + 1 from by omega, oublietteref03_Below.j0.eq_2, if_neg (by simp)]
  have := below_loop m r (by omega) m.length 0 (k - 1 - m.length - 1) (by omega)
  rw [show k - 1 - m.length - 1 + m.length + 1 = k - 1 from by omega] at this
  exact this
/-! ### A group's names -/
abbrev bG : ByteArray := ⟨#[103]⟩
abbrev bK : ByteArray := ⟨#[107]⟩
abbrev bE : ByteArray := ⟨#[101]⟩
abbrev bS : ByteArray := ⟨#[115]⟩
abbrev bStage : ByteArray := ⟨#[115, 116, 97, 103, 101]⟩
theorem runeN_le (p : ByteArray) : runeN p ≤ p.size := runesG_len p p.size 0
theorem runeN_part (p : ByteArray) (h : partB p = true) : runeN p ≤ 8 := by
  unfold partB at h
  simp only [Bool.and_eq_true, decide_eq_true_eq] at h
  exact h.2.2
theorem part_list (l : List UInt8) (h : ∀ b ∈ l, smallB (b.toNat : Int) = true ∧ b.toNat < 128) (h1 : 1 ≤ l.length) (h8 : l.length ≤ 8) : partB ⟨l.toArray⟩ = true := by
  have hl : (⟨l.toArray⟩ : ByteArray).size = l.length := by simp [ByteArray.size]
  refine part_ascii _ (fun b hb => ?_) (by omega) (by omega)
  rw [bytesOf_mk, List.mem_map] at hb
  obtain ⟨c, hc, rfl⟩ := hb
  exact ⟨(h c hc).1, by have := (h c hc).2; omega⟩
theorem part_g : partB bG = true := part_list [103] (by decide) (by decide) (by decide)
theorem part_k : partB bK = true := part_list [107] (by decide) (by decide) (by decide)
theorem part_e : partB bE = true := part_list [101] (by decide) (by decide) (by decide)
theorem part_stage : partB bStage = true := part_list [115, 116, 97, 103, 101] (by decide) (by decide) (by decide)
theorem dec_one (k : Int) (h0 : 0 ≤ k) (h1 : k < 4) : decB' k = ⟨#[UInt8.ofNat (48 + k.toNat)]⟩ := by
  unfold decB' Lib.itoa
  rw [if_neg (by omega), Lib.decDigits_one (by omega)]
theorem part_sk (k : Int) (h0 : 0 ≤ k) (h1 : k < 4) : partB (bS ++ decB' k) = true ∧ (bS ++ decB' k).size = 2 := by
  rw [dec_one k h0 h1]
  have : k = 0 ∨ k = 1 ∨ k = 2 ∨ k = 3 := by omega
  rcases this with rfl | rfl | rfl | rfl
  · exact ⟨part_list [115, 48] (by decide) (by decide) (by decide), rfl⟩
  · exact ⟨part_list [115, 49] (by decide) (by decide) (by decide), rfl⟩
  · exact ⟨part_list [115, 50] (by decide) (by decide) (by decide), rfl⟩
  · exact ⟨part_list [115, 51] (by decide) (by decide) (by decide), rfl⟩
theorem good_head (a : ByteArray) (ha : partB a = true) (hs : a.size ≤ 100) : Good [bG, a] := by
  refine ⟨by simp, by simp, ?_, ?_, ?_⟩
  · intro p hp; simp at hp; rcases hp with rfl | rfl
    · exact part_g
    · exact ha
  · intro p hp; simp at hp; rcases hp with rfl | rfl
    · decide
    · omega
  · have h1 := runeN_le bG
    have h2 := runeN_part a ha
    have h3 : bG.size = 1 := rfl
    simp only [List.map_cons, List.map_nil, List.sum_cons, List.sum_nil]
    omega
theorem good_key (a : ByteArray) (ha : partB a = true) (hs : a.size ≤ 100) : Good [bK, a] := by
  refine ⟨by simp, by simp, ?_, ?_, ?_⟩
  · intro p hp; simp at hp; rcases hp with rfl | rfl
    · exact part_k
    · exact ha
  · intro p hp; simp at hp; rcases hp with rfl | rfl
    · decide
    · omega
  · have h1 := runeN_le bK
    have h2 := runeN_part a ha
    have h3 : bK.size = 1 := rfl
    simp only [List.map_cons, List.map_nil, List.sum_cons, List.sum_nil]
    omega
theorem good_stage (a : ByteArray) (ha : partB a = true) (hs : a.size ≤ 100) : Good [bG, a, bStage] := by
  refine ⟨by simp, by simp, ?_, ?_, ?_⟩
  · intro p hp; simp at hp; rcases hp with rfl | rfl | rfl
    · exact part_g
    · exact ha
    · exact part_stage
  · intro p hp; simp at hp; rcases hp with rfl | rfl | rfl
    · decide
    · omega
    · decide
  · have h1 := runeN_le bG
    have h2 := runeN_part a ha
    have h3 : bG.size = 1 := rfl
    have h4 := runeN_le bStage
    have h5 : bStage.size = 5 := rfl
    simp only [List.map_cons, List.map_nil, List.sum_cons, List.sum_nil]
    omega
theorem good_four (a d x : ByteArray) (ha : partB a = true) (hs : a.size ≤ 100) (hd : partB d = true) (hds : d.size ≤ 8) (hx : partB x = true) (hxs : x.size ≤ 2) : Good [bG, a, d, x] := by
  refine ⟨by simp, by simp, ?_, ?_, ?_⟩
  · intro p hp; simp at hp; rcases hp with rfl | rfl | rfl | rfl
    · exact part_g
    · exact ha
    · exact hd
    · exact hx
  · intro p hp; simp at hp; rcases hp with rfl | rfl | rfl | rfl
    · decide
    · omega
    · omega
    · omega
  · have h1 := runeN_le bG
    have h2 := runeN_part a ha
    have h3 : bG.size = 1 := rfl
    have h4 := runeN_part d hd
    have h5 := runeN_le x
    simp only [List.map_cons, List.map_nil, List.sum_cons, List.sum_nil]
    omega
theorem number_eq (n most : Int) (h0 : 0 ≤ n) (h1 : n ≤ most) (hb : n ≤ 9223372036854775807) : group_number.f n most = some (decB' n) := by
  unfold group_number.f num_Print.f
  rw [if_neg (by omega), if_neg (by omega), if_neg (by omega), if_pos hb]
  rfl
theorem head_eq (a : ByteArray) (ha : partB a = true) (hs : a.size ≤ 100) : group_Head.f a = some (joinB [bG, a]) := by
  unfold group_Head.f
  rw [(good_head a ha hs).joined]
  rfl
theorem key_eq (a : ByteArray) (ha : partB a = true) (hs : a.size ≤ 100) : group_Key.f a = some (joinB [bK, a]) := by
  unfold group_Key.f
  rw [(good_key a ha hs).joined]
  rfl
theorem stage_eq (a : ByteArray) (ha : partB a = true) (hs : a.size ≤ 100) : group_Stage.f a = some (joinB [bG, a, bStage]) := by
  unfold group_Stage.f
  rw [(good_stage a ha hs).joined]
  rfl
theorem good_epoch (a : ByteArray) (n : Int) (ha : partB a = true) (hs : a.size ≤ 100) (h0 : 0 ≤ n) (h1 : n ≤ 99999999) : Good [bG, a, decB' n, bE] :=
  good_four a _ _ ha hs (dec_part n h0 h1) (dec_size n h0 h1).1 part_e (by decide)
theorem good_chain (a : ByteArray) (n k : Int) (ha : partB a = true) (hs : a.size ≤ 100) (h0 : 0 ≤ n) (h1 : n ≤ 99999999) (hk0 : 0 ≤ k) (hk : k < 4) : Good [bG, a, decB' n, bS ++ decB' k] :=
  good_four a _ _ ha hs (dec_part n h0 h1) (dec_size n h0 h1).1 (part_sk k hk0 hk).1 (by rw [(part_sk k hk0 hk).2]; exact Nat.le_refl _)
theorem epoch_eq (a : ByteArray) (n : Int) (ha : partB a = true) (hs : a.size ≤ 100) (h0 : 0 ≤ n) (h1 : n ≤ 99999999) : group_Epoch.f a n = some (joinB [bG, a, decB' n, bE]) := by
  unfold group_Epoch.f
  rw [number_eq n _ h0 h1 (by omega), Option.bind_some, (good_epoch a n ha hs h0 h1).joined]
  rfl
theorem chain_eq (a : ByteArray) (n k : Int) (ha : partB a = true) (hs : a.size ≤ 100) (h0 : 0 ≤ n) (h1 : n ≤ 99999999) (hk0 : 0 ≤ k) (hk : k < 4) : group_Chain.f a n k = some (joinB [bG, a, decB' n, bS ++ decB' k]) := by
  unfold group_Chain.f
  have hne : ¬ (decB' k).toList = ([] : List UInt8) := by rw [bytesOf_nil_iff, dec_one k hk0 hk]; exact Nat.one_ne_zero
  have hsz : (decB' k).size = 1 := by rw [dec_one k hk0 hk]; rfl
  rw [number_eq k 3 hk0 (by omega) (by omega), Option.bind_some, if_neg hne, number_eq n _ h0 h1 (by omega), Option.bind_some, if_pos (by omega), (good_chain a n k ha hs h0 h1 hk0 hk).joined]
  rfl
end Go.Proofs.YtloagejeeakikaaDoor.QA
