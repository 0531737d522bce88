/- Text of this claim: the plain law of GroupApart. -/
import Derived.Test.YtloagejeeakikaaDoorQAGroup
namespace Go.Proofs.YtloagejeeakikaaDoor.QA
open Go.RowKit Go.Proofs.YtloagejeeakikaaDoorW.PrintWords Go.Proofs.YtloagejeeakikaaDoorW.PrintLast Go.Proofs.YtloagejeeakikaaDoorW.PrintMore
set_option linter.unusedVariables false
set_option linter.unusedSimpArgs false
theorem part_A : partB ⟨#[65]⟩ = false := by
  have hr : runesOf ⟨#[65]⟩ = [65] := by
    rw [runesOf_list]
    exact runesL_ascii [65] _ (by decide) (by decide)
  unfold partB
  rw [hr]
  decide
theorem part_a : partB ⟨#[97]⟩ = true := part_list [97] (by decide) (by decide) (by decide)
theorem alive35 : oubliettelaw35_alive.f = some true := by
  unfold oubliettelaw35_alive.f
  rw [chain_eq ⟨#[97]⟩ 2 0 part_a (by decide) (by omega) (by omega) (by omega) (by omega), Option.bind_some, dec_one 2 (by omega) (by omega), dec_one 0 (by omega) (by omega)]
  have h1 : (joinB [bG, ⟨#[97]⟩, ⟨#[UInt8.ofNat (48 + (2 : Int).toNat)]⟩, bS ++ ⟨#[UInt8.ofNat (48 + (0 : Int).toNat)]⟩]).toList = ([103, 46, 97, 46, 50, 46, 115, 48] : List UInt8) := by
    rw [ByteArray.toList_eq]
    rfl
  rw [if_pos h1]
  have h2 : group_Head.f ⟨#[65]⟩ = some ⟨#[]⟩ := by
    unfold group_Head.f group_joined.f name_Join.f
    have hall : ([bG, ⟨#[65]⟩] : List ByteArray).all partB = false := by simp [part_A]
    have hsz : (joinB [bG, ⟨#[65]⟩]).size ≤ 1000000 := Nat.le_trans (join_size _ (by intro p hp; simp at hp; rcases hp with rfl | rfl <;> decide)) (by decide)
    rw [if_pos ⟨by intro p hp; simp at hp; rcases hp with rfl | rfl <;> decide, hsz, by decide⟩, if_pos (Or.inr (Or.inr hall))]
    rfl
  rw [h2, Option.bind_some]
  have : ((⟨#[]⟩ : ByteArray).toList == ([] : List UInt8)) = true := by rw [ByteArray.toList_eq]; rfl
  rw [this]
theorem toList_ne {a b : ByteArray} (h : a ≠ b) : ¬ a.toList = b.toList := fun e => h (ba_ext ((toList_iff a b).1 e))
theorem toList_beq (a b : ByteArray) : (a.toList == b.toList) = decide (a = b) := by
  by_cases h : a = b
  · subst h; simp
  · rw [decide_eq_false h, beq_eq_false_iff_ne]
    exact toList_ne h
theorem rd_at (l : List ByteArray) (i : Nat) (x : ByteArray) (h : l[i]? = some x) : rdOf ByteArray.empty l (i : Int) = x := by simp [rdOf, List.getD_eq_getElem?_getD, h]
theorem l1_loop (x0 x1 : ByteArray) (a2 a3 : Int) (l : List ByteArray) (hl : l.length ≤ 1000) (i : Nat) (hi : i < l.length) (hd : ∀ j, j < i → l[i]? ≠ l[j]?) :
    ∀ (n j k : Nat), j + n = i → oubliettelaw35_GroupApart.l1 (k + n + 1) x0 x1 a2 a3 l i j = oubliettelaw35_GroupApart.l0 k x0 x1 a2 a3 l ((i + 1 : Nat) : Int)
  | 0, j, k, h => by
    rw [oubliettelaw35_GroupApart.l1.eq_2, if_neg (by omega), show wrap64 ((i : Int) + 1) = ((i + 1 : Nat) : Int) from by unfold wrap64; omega]

  | n + 1, j, k, h => by
    have e1 := rd_at l i _ (List.getElem?_eq_getElem hi)
    have e2 := rd_at l j _ (List.getElem?_eq_getElem (show j < l.length by omega))
    have hne : l[i] ≠ l[j] := fun e => hd j (by omega) (by rw [List.getElem?_eq_getElem hi, List.getElem?_eq_getElem (show j < l.length by omega), e])
    rw [show k + (n + 1) + 1 = (k + n + 1) + 1 from by omega, oubliettelaw35_GroupApart.l1.eq_2, if_pos (by omega), if_pos (by omega), if_pos (by omega), if_pos (by omega), if_pos (by omega), e1, e2, if_neg (toList_ne hne),
      show wrap64 ((j : Int) + 1) = ((j + 1 : Nat) : Int) from by unfold wrap64; omega]
    exact l1_loop x0 x1 a2 a3 l hl i hi hd n (j + 1) k (by omega)
theorem l0_step (x0 x1 : ByteArray) (a2 a3 : Int) (h0 : partB x0 = true) (s0 : x0.size ≤ 100) (h1 : partB x1 = true) (s1 : x1.size ≤ 100) (l : List ByteArray) (hl : l.length ≤ 1000) (i : Nat) (r : List ByteArray) (hr : r ≠ []) (hg : Good ([bG, x0] ++ r)) (hi : l[i]? = some (joinB ([bG, x0] ++ r)))
    (hd : ∀ j, j < i → l[i]? ≠ l[j]?) (k : Nat) (hk : 7000 ≤ k) : oubliettelaw35_GroupApart.l0 (k + i + 1 + 1 + 1) x0 x1 a2 a3 l i = oubliettelaw35_GroupApart.l0 k x0 x1 a2 a3 l ((i + 1 : Nat) : Int) := by
  have hlt := (List.getElem?_eq_some_iff.1 hi).1
  have e := rd_at l i _ hi
  have hkey : joinB ([bG, x0] ++ r) ≠ joinB [bK, x1] := fun h => by
    have := join_inj hg.ne (good_key x1 h1 s1).ne hg.point (good_key x1 h1 s1).point h
    simp at this
  rw [oubliettelaw35_GroupApart.l0.eq_2, if_pos (by omega), if_pos (by omega), e, hg.rightR _ (by omega), Option.bind_some, if_pos rfl, head_eq x0 h0 s0, Option.bind_some, hg.belowR (good_head x0 h0 s0) hr _ (by omega), Option.bind_some, if_pos rfl,
    key_eq x1 h1 s1, Option.bind_some, beq_eq_false_iff_ne.2 (toList_ne hkey), oubliettelaw35_GroupApart.j2.eq_2, if_neg (by simp)]
  have := l1_loop x0 x1 a2 a3 l hl i hlt hd i 0 k (by omega)
  exact this
theorem heads_eq (a b : ByteArray) (ha : partB a = true) (sa : a.size ≤ 100) (hb : partB b = true) (sb : b.size ≤ 100) : ((joinB [bG, a]).toList == (joinB [bG, b]).toList) = (a.toList == b.toList) := by
  rw [toList_beq, toList_beq, decide_eq_decide]
  constructor
  · intro h
    have := join_inj (good_head a ha sa).ne (good_head b hb sb).ne (good_head a ha sa).point (good_head b hb sb).point h
    simpa using this
  · rintro rfl; rfl
theorem epochs_eq (a b : ByteArray) (n m : Int) (ha : partB a = true) (sa : a.size ≤ 100) (hb : partB b = true) (sb : b.size ≤ 100) (n0 : 0 ≤ n) (n1 : n ≤ 99999999) (m0 : 0 ≤ m) (m1 : m ≤ 99999999) :
    ((joinB [bG, a, decB' n, bE]).toList == (joinB [bG, b, decB' m, bE]).toList) = (decide (a = b) && decide (n = m)) := by
  rw [toList_beq]
  by_cases h : a = b ∧ n = m
  · obtain ⟨rfl, rfl⟩ := h
    simp
  · rw [decide_eq_false]
    · by_cases h1 : a = b
      · have : n ≠ m := fun e => h ⟨h1, e⟩
        simp [this]
      · simp [h1]
    · intro e
      have := join_inj (good_epoch a n ha sa n0 n1).ne (good_epoch b m hb sb m0 m1).ne (good_epoch a n ha sa n0 n1).point (good_epoch b m hb sb m0 m1).point e
      simp at this
      exact h ⟨this.1, dec_inj n0 m0 this.2⟩
theorem head_key (a b : ByteArray) (ha : partB a = true) (sa : a.size ≤ 100) (hb : partB b = true) (sb : b.size ≤ 100) : ¬ (joinB [bG, a]).toList = (joinB [bK, b]).toList := by
  refine toList_ne fun e => ?_
  have := join_inj (good_head a ha sa).ne (good_key b hb sb).ne (good_head a ha sa).point (good_key b hb sb).point e
  simp at this
theorem l0_end (x0 x1 : ByteArray) (n m : Int) (h0 : partB x0 = true) (s0 : x0.size ≤ 100) (h1 : partB x1 = true) (s1 : x1.size ≤ 100) (n0 : 0 ≤ n) (n1 : n ≤ 99999999) (m0 : 0 ≤ m) (m1 : m ≤ 99999999) (l : List ByteArray) (i : Nat) (hi : i = l.length) (k : Nat) :
    oubliettelaw35_GroupApart.l0 (k + 1) x0 x1 n m l i = some true := by
  rw [oubliettelaw35_GroupApart.l0.eq_2, if_neg (by omega), epoch_eq x0 n h0 s0 n0 n1, Option.bind_some, epoch_eq x1 m h1 s1 m0 m1, Option.bind_some, head_eq x0 h0 s0, head_eq x1 h1 s1, key_eq x1 h1 s1, alive35]
  simp only [Option.bind_some]
  rw [heads_eq x0 x1 h0 s0 h1 s1, epochs_eq x0 x1 n m h0 s0 h1 s1 n0 n1 m0 m1, if_neg (head_key x0 x1 h0 s0 h1 s1)]
  by_cases he : x0.toList = x1.toList
  · have e1 : x0 = x1 := ba_ext ((toList_iff _ _).1 he)
    rw [if_pos he, if_pos, if_pos]
    · simp
    · rw [decide_eq_true e1, Bool.true_and, beq_iff_eq]
      by_cases hnm : n = m
      · simp [hnm]
      · simp [hnm]
  · have e1 : x0 ≠ x1 := fun e => he (by rw [e])
    rw [if_neg he, if_pos, if_pos]
    · simp
    · rw [decide_eq_false e1, Bool.false_and]
      rfl
theorem groupApart_go (x0 x1 : ByteArray) (n m c : Int) (h0 : partB x0 = true) (s0 : x0.size ≤ 100) (h1 : partB x1 = true) (s1 : x1.size ≤ 100) (n0 : 0 ≤ n) (n1 : n ≤ 99999999) (m0 : 0 ≤ m) (m1 : m ≤ 99999999) (c0 : 0 ≤ c) (c1 : c < 4) (K : Nat) (hK : 8000 ≤ K) :
    oubliettelaw35_GroupApart.j0 (K + 1) x0 x1 n m c false = some true := by
  have gE := good_epoch x0 n h0 s0 n0 n1
  have gC := good_chain x0 n c h0 s0 n0 n1 c0 c1
  have gS := good_stage x0 h0 s0
  have dCE : joinB [bG, x0, decB' n, bS ++ decB' c] ≠ joinB [bG, x0, decB' n, bE] := fun e => by
    have := join_inj gC.ne gE.ne gC.point gE.point e
    simp at this
    have h2 := (part_sk c c0 c1).2
    rw [this] at h2
    exact absurd h2 (by decide)
  have dSE : joinB [bG, x0, bStage] ≠ joinB [bG, x0, decB' n, bE] := fun e => by
    have := join_inj gS.ne gE.ne gS.point gE.point e
    simp at this
  have dSC : joinB [bG, x0, bStage] ≠ joinB [bG, x0, decB' n, bS ++ decB' c] := fun e => by
    have := join_inj gS.ne gC.ne gS.point gC.point e
    simp at this
  rw [oubliettelaw35_GroupApart.j0.eq_2, if_neg (by simp), epoch_eq x0 n h0 s0 n0 n1, Option.bind_some, chain_eq x0 n c h0 s0 n0 n1 c0 c1, Option.bind_some, stage_eq x0 h0 s0, Option.bind_some]
  generalize hE : joinB [bG, x0, decB' n, bE] = E at dCE dSE ⊢
  generalize hC : joinB [bG, x0, decB' n, bS ++ decB' c] = C at dCE dSC ⊢
  generalize hS : joinB [bG, x0, bStage] = S at dSE dSC ⊢
  obtain ⟨q, hq⟩ : ∃ q, K = (((q + 1) + 2 + 1 + 1 + 1) + 1 + 1 + 1 + 1) + 0 + 1 + 1 + 1 := ⟨K - 13, by omega⟩
  have st0 := l0_step x0 x1 n m h0 s0 h1 s1 [E, C, S] (by simp) 0 [decB' n, bE] (by simp) gE (by rw [← hE]; rfl) (fun j hj => by omega) (((q + 1) + 2 + 1 + 1 + 1) + 1 + 1 + 1 + 1) (by omega)
  have st1 := l0_step x0 x1 n m h0 s0 h1 s1 [E, C, S] (by simp) 1 [decB' n, bS ++ decB' c] (by simp) gC (by rw [← hC]; rfl) (fun j hj => by
    obtain rfl : j = 0 := by omega
    simpa using dCE) ((q + 1) + 2 + 1 + 1 + 1) (by omega)
  have st2 := l0_step x0 x1 n m h0 s0 h1 s1 [E, C, S] (by simp) 2 [bStage] (by simp) gS (by rw [← hS]; rfl) (fun j hj => by
    have : j = 0 ∨ j = 1 := by omega
    rcases this with rfl | rfl
    · simpa using dSE
    · simpa using dSC) (q + 1) (by omega)
  rw [hq]
  refine Eq.trans st0 (Eq.trans st1 (Eq.trans st2 ?_))
  exact l0_end x0 x1 n m h0 s0 h1 s1 n0 n1 m0 m1 [E, C, S] 3 rfl q
theorem groupApart_alive (x0 x1 : ByteArray) (n m c : Int) (K : Nat) : oubliettelaw35_GroupApart.j0 (K + 1) x0 x1 n m c true = some true := by
  rw [oubliettelaw35_GroupApart.j0.eq_2, if_pos rfl, alive35]
  rfl
theorem groupApart_pure (x0 x1 : ByteArray) (n m c : Int) : ∃ k, oubliettelaw35_GroupApart.f k x0 x1 n m c = some true := by
  obtain ⟨K, hK⟩ : ∃ K : Nat, 8000 ≤ K := ⟨8000, Nat.le_refl _⟩
  refine ⟨K + 1, ?_⟩
  unfold oubliettelaw35_GroupApart.f
  by_cases s0 : (x0.size : Int) > 100
  · rw [if_pos s0]; exact groupApart_alive ..
  by_cases s1 : (x1.size : Int) > 100
  · rw [if_neg s0, if_pos s1]; exact groupApart_alive ..
  rw [if_neg s0, if_neg s1, part_ref' x0 (by omega) _ (by omega), Option.bind_some]
  cases h0 : partB x0 with
  | false => rw [if_neg (by simp)]; exact groupApart_alive ..
  | true =>
  rw [if_pos rfl, part_ref' x1 (by omega) _ (by omega), Option.bind_some]
  cases h1 : partB x1 with
  | false => rw [if_neg (by simp)]; exact groupApart_alive ..
  | true =>
  rw [if_pos rfl]
  by_cases n0 : n < 0
  · rw [if_pos n0]; exact groupApart_alive ..
  by_cases n1 : n > 99999999
  · rw [if_neg n0, if_pos n1]; exact groupApart_alive ..
  by_cases m0 : m < 0
  · rw [if_neg n0, if_neg n1, if_pos m0]; exact groupApart_alive ..
  by_cases m1 : m > 99999999
  · rw [if_neg n0, if_neg n1, if_neg m0, if_pos m1]; exact groupApart_alive ..
  by_cases c0 : c < 0
  · rw [if_neg n0, if_neg n1, if_neg m0, if_neg m1, if_pos c0]; exact groupApart_alive ..
  rw [if_neg n0, if_neg n1, if_neg m0, if_neg m1, if_neg c0]
  by_cases c1 : c ≥ 4
  · rw [decide_eq_true c1]; exact groupApart_alive ..
  · rw [decide_eq_false c1]
    exact groupApart_go x0 x1 n m c h0 (by omega) h1 (by omega) (by omega) (by omega) (by omega) (by omega) (by omega) (by omega) K hK
end Go.Proofs.YtloagejeeakikaaDoor.QA
