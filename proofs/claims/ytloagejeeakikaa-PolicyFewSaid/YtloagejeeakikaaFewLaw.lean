/- Text of this claim: the plain law of PolicyFew. -/
import Derived.Test.YtloagejeeakikaaFew
import Derived.Test.YtloagejeeakikaaTurns
namespace Go.Proofs.Ytloagejeeakikaa.QX
open Go.RowKit Go.Proofs.YtloagejeeakikaaW.PrintWords Go.Proofs.YtloagejeeakikaaW.PrintLast Go.Proofs.YtloagejeeakikaaW.PrintMore
set_option linter.unusedVariables false
set_option linter.unusedSimpArgs false
theorem has_from (l : List Int) (a : Int) (hl : l.length ≤ 1000000) : ∀ (n i k : Nat), i + n = l.length → oublietteref01_Has.l0 (k + n + 1) l a i = some (decide (a ∈ l.drop i))
  | 0, i, k, h => by
    rw [oublietteref01_Has.l0.eq_2, if_neg (by omega), List.drop_of_length_le (by omega)]
    simp
  | n + 1, i, k, h => by
    have hd : l.drop i = l.getD i 0 :: l.drop (i + 1) := by
      rw [List.getD_eq_getElem?_getD, List.getElem?_eq_getElem (by omega)]
      simp
    have hr : rd l (i : Int) = l.getD i 0 := by simp [rd, List.getD_eq_getElem?_getD]
    rw [show k + (n + 1) + 1 = (k + n + 1) + 1 from by omega, oublietteref01_Has.l0.eq_2, if_pos (by omega), if_pos (by omega), hr, hd]
    by_cases c : l.getD i 0 = a
    · rw [if_pos c, decide_eq_true (by rw [c]; simp)]
    · rw [if_neg c, show wrap64 ((i : Int) + 1) = ((i + 1 : Nat) : Int) from by unfold wrap64; omega, has_from l a hl n (i + 1) k (by omega)]
      congr 1
      rw [decide_eq_decide]
      simp only [List.mem_cons]
      exact ⟨fun h => Or.inr h, fun h => h.resolve_left (fun e => c e.symm)⟩
theorem has_eq (l : List Int) (a : Int) (k : Nat) (hl : l.length ≤ 1000) (hk : 1001 ≤ k) : oublietteref01_Has.f k l a = some (decide (a ∈ l)) := by
  unfold oublietteref01_Has.f
  have := has_from l a (by omega) l.length 0 (k - l.length - 1) (by omega)
  rw [show k - l.length - 1 + l.length + 1 = k from by omega] at this
  simpa using this
theorem fromL_mem (o : Int) (n : Nat) (x : Int) : x ∈ fromL o n ↔ o ≤ x ∧ x < o + n := by
  simp only [fromL, List.mem_map, List.mem_range]
  constructor
  · rintro ⟨i, hi, rfl⟩; omega
  · rintro ⟨h1, h2⟩; exact ⟨(x - o).toNat, by omega, by omega⟩
theorem fromL_rd (o : Int) (n i : Nat) (h : i < n) : rd (fromL o n) (i : Int) = o + i := by
  simp [rd, fromL, List.getD_eq_getElem?_getD, h]
theorem leave_fromL (o least : Int) (n m : Nat) (hm : m ≤ n) (h1 : (m : Int) = max 0 (least - o)) : leavL least (fromL o n) = fromL o m := by
  obtain ⟨r, hr⟩ := fromL_prefix o hm
  unfold leavL
  rw [← hr]
  match r, hr with
  | [], _ => rw [List.append_nil]; exact takeWhile_all _ _ (fun y hy => by rw [fromL_mem] at hy; simp; omega)
  | x :: r, hr =>
    refine takeWhile_stop _ _ _ _ (fun y hy => by rw [fromL_mem] at hy; simp; omega) ?_
    have hx : (fromL o n)[m]? = some x := by rw [← hr, List.getElem?_append_right (by rw [fromL_length]; omega), fromL_length]; simp
    have hlt : m < n := by
      have := (List.getElem?_eq_some_iff.1 hx).1
      rwa [fromL_length] at this
    have : x = o + m := by
      have e : (fromL o n)[m]? = some (o + m) := by simp [fromL, hlt]
      rw [hx] at e
      exact Option.some.inj e
    simp
    omega
theorem header_true (a b c : Int) (d : ByteArray) (h : record_Header_right.f a b c d = some true) : 0 ≤ b ∧ b ≤ a ∧ a ≤ 1073741824 ∧ 1 ≤ c ∧ c ≤ 4 := by
  unfold record_Header_right.f at h
  rw [within_eq, within_eq] at h
  simp only [Option.bind_some] at h
  split at h
  · rename_i h1
    simp only [Bool.and_eq_true, decide_eq_true_eq] at h1
    split at h
    · rename_i h2
      split at h
      · rename_i h3
        simp only [Bool.and_eq_true, decide_eq_true_eq] at h3
        exact ⟨h1.1, h1.2, h2, h3.1, h3.2⟩
      · cases h
    · cases h
  · cases h
theorem header_plain (a b c : Int) (h : 0 ≤ b ∧ b ≤ a ∧ a ≤ 1073741824 ∧ 1 ≤ c ∧ c ≤ 4) : record_Header_right.f a b c ⟨#[]⟩ = some true := by
  unfold record_Header_right.f
  rw [within_eq, within_eq]
  simp only [Option.bind_some]
  rw [if_pos (by simp; omega), if_pos (by omega), if_pos (by simp; omega), if_pos ((bytesOf_nil_iff _).2 rfl)]
theorem few_loop (o e : Int) (N M N' : Nat) (o' p0 p1 s : Int) (d : ByteArray) (hN : (N : Int) = e - o + 1) (hN1 : N ≤ 200) (hM : M ≤ N) (ho' : o' = o + M) (hN' : (N' : Int) = e + 2 - o') (hp : (N' : Int) ≤ p0) (h0 : 0 ≤ o) (he : e ≤ 1073741824) (hpos : 1 ≤ N') :
    ∀ (n i k : Nat), i + n = M → 2000 ≤ k →
      oubliettelaw36_PolicyFew.l0 (k + n + 1) (fromL o N) (fromL o' N') (fromL o M) i p0 p1 e o s d (e + 1) o' s ⟨#[]⟩ = some true
  | 0, i, k, h, hk => by
    have w1 : wrap64 ((N' : Int) - 1) = ((N' - 1 : Nat) : Int) := by unfold wrap64; omega
    have w2 : wrap64 (e + 1) = e + 1 := by unfold wrap64; omega
    rw [oubliettelaw36_PolicyFew.l0.eq_2]
    simp only [fromL_length]
    rw [if_neg (by omega), if_pos (by omega), w1, if_pos (by omega), if_pos (by omega), w2, fromL_rd _ _ _ (by omega), if_pos (by omega), if_pos (by omega), if_pos ((bytesOf_nil_iff _).2 rfl), if_pos trivial, alive36]
    rfl
  | n + 1, i, k, h, hk => by
    rw [show k + (n + 1) + 1 = (k + n + 1) + 1 from by omega, oubliettelaw36_PolicyFew.l0.eq_2]
    simp only [fromL_length]
    rw [if_pos (by omega), if_pos (by omega), fromL_rd _ _ _ (by omega), has_eq _ _ _ (by rw [fromL_length]; omega) (by omega), has_eq _ _ _ (by rw [fromL_length]; omega) (by omega)]
    simp only [Option.bind_some, fromL_mem]
    rw [if_neg (by simp; omega), if_pos (by simp; omega), show wrap64 ((i : Int) + 1) = ((i + 1 : Nat) : Int) from by unfold wrap64; omega]
    exact few_loop o e N M N' o' p0 p1 s d hN hN1 hM ho' hN' hp h0 he hpos n (i + 1) k (by omega) hk
theorem few_a (e o o' least p0 : Int) (N M N' : Nat) (hN : (N : Int) = e - o + 1) (hM : (M : Int) = max 0 (least - o)) (hmx : o' = max o least) (hN' : (N' : Int) = e + 2 - o') (h0 : 0 ≤ o) (h1 : o ≤ e) (h2 : e < 99999999) (hp : 1 ≤ p0)
    (hlr : (e + 1 < p0 ∧ least = 0) ∨ (p0 ≤ e + 1 ∧ least = e + 2 - p0)) : M ≤ N ∧ o' = o + M ∧ (N' : Int) ≤ p0 ∧ 1 ≤ N' ∧ 0 ≤ o' ∧ o' ≤ e + 1 := by
  have h3 : o' = o + M := by omega
  have h4 : least ≤ e + 1 := by omega
  clear hmx
  refine ⟨by omega, h3, by omega, by omega, by omega, by omega⟩
theorem few_w (e o o' : Int) (N M N' : Nat) (hN : (N : Int) = e - o + 1) (h3 : o' = o + M) (hN' : (N' : Int) = e + 2 - o') (h0 : 0 ≤ o) (h1 : o ≤ e) (h2 : e < 99999999) : wrap64 (wrap64 ((N : Int) + 1) - (M : Int)) = (N' : Int) := by
  have w1 : wrap64 ((N : Int) + 1) = (N : Int) + 1 := by unfold wrap64; omega
  rw [w1]
  have e1 : (N : Int) + 1 - (M : Int) = (N' : Int) := by omega
  rw [e1]
  have : (N' : Int) ≤ 100000001 := by omega
  clear hN h3 hN' w1 e1
  unfold wrap64
  omega
theorem oldest_val (p0 p1 e : Int) (hR : policy_Right.f p0 p1 = some true) (h0 : 0 ≤ e) (h1 : e < 99999999) (hp : 1 ≤ p0 ∧ p0 ≤ 3) :
    ∃ least, policy_Oldest.f p0 p1 (e + 1) = some least ∧ ((e + 1 < p0 ∧ least = 0) ∨ (p0 ≤ e + 1 ∧ least = e + 2 - p0)) := by
  unfold policy_Oldest.f
  rw [hR]
  rw [Option.bind_some, if_pos rfl]
  by_cases hc : e + 1 < p0
  · exact ⟨0, by rw [if_pos hc], Or.inl ⟨hc, rfl⟩⟩
  · refine ⟨wrap64 (wrap64 (e + 1 - p0) + 1), by rw [if_neg hc], Or.inr ⟨by omega, ?_⟩⟩
    have w1 : wrap64 (e + 1 - p0) = e + 1 - p0 := by unfold wrap64; omega
    rw [w1]
    unfold wrap64
    omega
theorem turn_false (K : Nat) (p0 p1 e o s : Int) (d : ByteArray) (hR : policy_Right.f p0 p1 = some true) (hr : policy_right.f e o s d = some false) : policy_Turn.f (K + 1) p0 p1 e o s d = some (0, 0, 0, ⟨#[]⟩, 2) := by
  unfold policy_Turn.f
  rw [hR, Option.bind_some, if_pos rfl, hr, Option.bind_some, policy_Turn.j0.eq_2, if_pos (by rfl)]
theorem turn_limit (K : Nat) (p0 p1 e o s : Int) (d : ByteArray) (hR : policy_Right.f p0 p1 = some true) (hr : policy_right.f e o s d = some true) (hb : e ≥ 99999999) : policy_Turn.f (K + 1) p0 p1 e o s d = some (0, 0, 0, ⟨#[]⟩, 13) := by
  unfold policy_Turn.f
  rw [hR, Option.bind_some, if_pos rfl, hr, Option.bind_some, policy_Turn.j0.eq_2, if_neg (by simp), if_pos hb]
theorem turn_ok (K : Nat) (p0 p1 e o s least : Int) (d : ByteArray) (hR : policy_Right.f p0 p1 = some true) (hr : policy_right.f e o s d = some true) (h0 : 0 ≤ e) (hb : ¬ e ≥ 99999999) (hl : policy_Oldest.f p0 p1 (e + 1) = some least) :
    policy_Turn.f (K + 1) p0 p1 e o s d = some (e + 1, mx o least, s, ⟨#[]⟩, 0) := by
  have w : wrap64 (e + 1) = e + 1 := by unfold wrap64; omega
  unfold policy_Turn.f
  rw [hR, Option.bind_some, if_pos rfl, hr, Option.bind_some, policy_Turn.j0.eq_2, if_neg (by simp), if_neg hb, w, hl, Option.bind_some]
theorem few_fault (K : Nat) (p0 p1 e o s f : Int) (d : ByteArray) (a b c : Int) (x : ByteArray) (h : policy_Turn.f K p0 p1 e o s d = some (a, b, c, x, f)) (hf : ¬ f = 0) : oubliettelaw36_PolicyFew.j0 (K + 1) false p0 p1 e o s d = some true := by
  rw [oubliettelaw36_PolicyFew.j0.eq_2, if_neg (by simp), h, Option.bind_some]
  dsimp only
  rw [if_neg hf, alive36, Option.bind_some]
theorem few_go (K : Nat) (p0 p1 e o s o' : Int) (d : ByteArray) (was now leave : List Int) (h : policy_Turn.f (K + 1) p0 p1 e o s d = some (e + 1, o', s, ⟨#[]⟩, 0)) (h1 : policy_Kept.f e o s d = some was) (h2 : policy_Kept.f (e + 1) o' s ⟨#[]⟩ = some now) (h3 : policy_Leaving.f p0 p1 e o s d (e + 1) = some leave)
    (hl : (now.length : Int) = wrap64 (wrap64 ((was.length : Int) + 1) - (leave.length : Int))) : oubliettelaw36_PolicyFew.j0 (K + 1 + 1) false p0 p1 e o s d = oubliettelaw36_PolicyFew.l0 K was now leave 0 p0 p1 e o s d (e + 1) o' s ⟨#[]⟩ := by
  rw [oubliettelaw36_PolicyFew.j0.eq_2, if_neg (by simp), h, Option.bind_some]
  dsimp only
  rw [if_pos rfl, h1, Option.bind_some, h2, Option.bind_some, h3, Option.bind_some, if_pos hl, oubliettelaw36_PolicyFew.j1.eq_2, if_neg (by simp)]
theorem kept_eq (e o s : Int) (d : ByteArray) (N : Nat) (hr : policy_right.f e o s d = some true) (h0 : 0 ≤ o) (he : e ≤ 1073741824) (hN : keptN true e o = N) (hb : N ≤ 10000000) : policy_Kept.f e o s d = some (fromL o N) := by
  unfold policy_Kept.f keptL
  rw [hr, Option.bind_some, hN, if_pos ⟨fun _ => ⟨h0, he⟩, hb⟩]
theorem leaving_eq (p0 p1 e o s ep least : Int) (d : ByteArray) (N : Nat) (hl : policy_Oldest.f p0 p1 ep = some least) (hr : policy_right.f e o s d = some true) (h0 : 0 ≤ o) (he : e ≤ 1073741824) (hN : keptN true e o = N) (hb : N ≤ 10000000) : policy_Leaving.f p0 p1 e o s d ep = some (leavL least (fromL o N)) := by
  unfold policy_Leaving.f keptL
  rw [hl, Option.bind_some, hr, Option.bind_some, hN, if_pos ⟨fun _ => ⟨h0, he⟩, hb⟩, Option.bind_some]
theorem few_right (K : Nat) (p0 p1 e o s : Int) (d : ByteArray) (hs : d.size ≤ 100) (hK : 4990 ≤ K) (hR : policy_Right.f p0 p1 = some true) (hp : 1 ≤ p0 ∧ p0 ≤ 3) (ht : record_Header_right.f e o s d = some true) (hl : e - o ≤ 100) :
    oubliettelaw36_PolicyFew.j0 (K + 1 + 1) false p0 p1 e o s d = some true := by
  have hpr : policy_right.f e o s d = some true := by rw [policy_right_eq e o s d (by omega), ht]
  have hh := header_true e o s d ht
  by_cases hbig : e ≥ 99999999
  · exact few_fault _ p0 p1 e o s 13 d _ _ _ _ (turn_limit K p0 p1 e o s d hR hpr hbig) (by decide)
  · obtain ⟨least, hle, hlr⟩ := oldest_val p0 p1 e hR (by omega) (by omega) hp
    have ht := turn_ok K p0 p1 e o s least d hR hpr (by omega) hbig hle
    have hmx : mx o least = max o least := by unfold mx; split <;> omega
    obtain ⟨o', ho'⟩ : ∃ o', mx o least = o' := ⟨_, rfl⟩
    rw [ho'] at hmx ht
    obtain ⟨N, hN⟩ : ∃ N : Nat, (N : Int) = e - o + 1 := ⟨(e - o + 1).toNat, by omega⟩
    obtain ⟨M, hM⟩ : ∃ M : Nat, (M : Int) = max 0 (least - o) := ⟨(max 0 (least - o)).toNat, by omega⟩
    have h3' : o' ≤ e + 1 := by omega
    obtain ⟨N', hN'⟩ : ∃ N' : Nat, (N' : Int) = e + 2 - o' := ⟨(e + 2 - o').toNat, by omega⟩
    obtain ⟨hMN, h3, h4, h5, h6, h7⟩ := few_a e o o' least p0 N M N' hN hM hmx hN' hh.1 hh.2.1 (by omega) hp.1 hlr
    have hN200 : N ≤ 200 := by omega
    clear hlr hmx
    have hk1 : keptN true e o = N := by unfold keptN; rw [if_pos rfl]; omega
    have hk2 : keptN true (e + 1) o' = N' := by unfold keptN; rw [if_pos rfl]; omega
    have hpr2 : policy_right.f (e + 1) o' s ⟨#[]⟩ = some true := by
      rw [policy_right_eq _ _ _ _ (by decide)]
      exact header_plain _ _ _ ⟨h6, h7, by omega, hh.2.2.2⟩
    have hK1 := kept_eq e o s d N hpr hh.1 hh.2.2.1 hk1 (by omega)
    have hK2 := kept_eq (e + 1) o' s ⟨#[]⟩ N' hpr2 h6 (by omega) hk2 (by omega)
    have hL := leaving_eq p0 p1 e o s (e + 1) least d N hle hpr hh.1 hh.2.2.1 hk1 (by omega)
    rw [leave_fromL o least N M hMN hM] at hL
    rw [few_go K p0 p1 e o s o' d _ _ _ ht hK1 hK2 hL (by rw [fromL_length, fromL_length, fromL_length]; exact (few_w e o o' N M N' hN h3 hN' hh.1 hh.2.1 (by omega)).symm)]
    have := few_loop o e N M N' o' p0 p1 s d hN hN200 hMN h3 hN' h4 hh.1 hh.2.2.1 h5 M 0 (K - M - 1) (by omega) (by omega)
    rw [show K - M - 1 + M + 1 = K from by omega] at this
    exact this
theorem few_alive (K : Nat) (p0 p1 e o s : Int) (d : ByteArray) : oubliettelaw36_PolicyFew.j0 (K + 1) true p0 p1 e o s d = some true := by
  rw [oubliettelaw36_PolicyFew.j0.eq_2, if_pos rfl, alive36, Option.bind_some]
theorem light_eq (k : Nat) (e o s : Int) (d : ByteArray) (hs : d.size ≤ 100) (hk : d.size + 20 ≤ k) : oubliettelaw36_light.f k e o s d = (record_Header_right.f e o s d).bind fun t => if t = true then some (decide (wrap64 (e - o) ≤ 100)) else some true := by
  unfold oubliettelaw36_light.f
  have := header_same (k - d.size - 20) e o s d (by omega)
  rw [show k - d.size - 20 + d.size + 20 = k from by omega] at this
  rw [if_pos (by omega), this]
theorem policyFew_pure (p0 p1 e o s : Int) (d : ByteArray) : ∃ k, oubliettelaw36_PolicyFew.f k p0 p1 e o s d = some true := by
  obtain ⟨K, hK, hKd⟩ : ∃ K, 4990 ≤ K ∧ d.size + 20 ≤ K := ⟨4990 + d.size + 20, by omega, by omega⟩
  refine ⟨K + 1 + 1, ?_⟩
  unfold oubliettelaw36_PolicyFew.f
  by_cases hs : d.size ≤ 100
  · rw [light_eq _ e o s d hs (by omega)]
    obtain ⟨t, ht⟩ := header_some e o s d (by omega)
    rw [ht, Option.bind_some]
    cases t with
    | true =>
      rw [if_pos rfl, Option.bind_some]
      have hh := header_true e o s d ht
      have hl2 : wrap64 (e - o) = e - o := by unfold wrap64; omega
      rw [hl2]
      by_cases hl : e - o ≤ 100
      · rw [if_pos (decide_eq_true hl), right36_same]
        obtain ⟨rt, hrt⟩ : ∃ rt, policy_Right.f p0 p1 = some rt := ⟨_, rfl⟩
        rw [hrt, Option.bind_some]
        cases rt with
        | true =>
          have hR2 := hrt
          unfold policy_Right.f at hR2
          simp only [Option.some.injEq, Bool.and_eq_true, decide_eq_true_eq] at hR2
          exact few_right K p0 p1 e o s d hs hK hrt hR2.1 ht hl
        | false => exact few_alive _ p0 p1 e o s d
      · rw [if_neg (by simpa using hl)]
        exact few_alive _ p0 p1 e o s d
    | false =>
      rw [if_neg (by simp), Option.bind_some, if_pos rfl, right36_same]
      obtain ⟨rt, hrt⟩ : ∃ rt, policy_Right.f p0 p1 = some rt := ⟨_, rfl⟩
      rw [hrt, Option.bind_some]
      cases rt with
      | true => exact few_fault _ p0 p1 e o s 2 d _ _ _ _ (turn_false K p0 p1 e o s d hrt (by rw [policy_right_eq e o s d (by omega), ht])) (by decide)
      | false => exact few_alive _ p0 p1 e o s d
  · unfold oubliettelaw36_light.f
    rw [if_neg (by omega), Option.bind_some, if_neg (by simp)]
    exact few_alive _ p0 p1 e o s d
end Go.Proofs.Ytloagejeeakikaa.QX
