/- Plain: the reference reads an operation's line as the program does. Plain: the reference tells an operation's line as the program does. op.words, op.Word, op.Tell walked. op.Tell walked. The chapter's example. OpPrints walked: the statement's function answers true. -/
import Derived.Test.YtdcknajlioalgaaDoorCbG
import Derived.Test.YtdcknajlioalgaaDoorCbE
import Derived.Test.YtdcknajlioalgaaDoorCbH
import Derived.Lib.ItoaLen
import Derived.Test.YtdcknajlioalgaaDoorCbA
namespace Go.Proofs.YtdcknajlioalgaaDoor.QD
open Go.RowKit Go.Proofs.YtdcknajlioalgaaDoorW.PrintWords Go.Proofs.YtdcknajlioalgaaDoorW.PrintLast Go.Proofs.YtdcknajlioalgaaDoorW.PrintMore Go.Proofs.YtdcknajlioalgaaDoor.Hex
set_option linter.unusedVariables false
set_option linter.unusedSimpArgs false
theorem part_total (s : ByteArray) (h : s.size ≤ 1000000) : ∃ r, op_part.f s = some r := by
  unfold op_part.f name_Part.f
  rw [if_pos (by omega), Option.bind_some]
  split
  · exact ⟨_, rfl⟩
  · exact ⟨_, rfl⟩
theorem hexO_range (l : List Int) (m : Nat) : ∀ x ∈ hexO l m, 0 ≤ x ∧ x < 256 := by
  intro x hx
  unfold hexO at hx
  obtain ⟨j, _, rfl⟩ := List.mem_map.1 hx
  have h0 := hexVal_range (l.getD (2 * j) 0)
  have h1 := hexVal_range (l.getD (2 * j + 1) 0)
  omega
theorem hexP_range (l : List Int) : ∀ x ∈ (hexP l).1, 0 ≤ x ∧ x < 256 := by
  intro x hx
  unfold hexP at hx
  split at hx
  · simp at hx
  · split at hx
    · simp at hx
    · exact hexO_range _ _ x hx
theorem fits_total (o : OpV) (sign : Int) (s : ByteArray) (h : s.size ≤ 1000000) : ∃ t, o.fits sign s = some t := by
  unfold OpV.fits
  by_cases c : sign = 101 ∨ sign = 115 ∨ sign = 110
  · rw [if_pos c]; exact ⟨_, rfl⟩
  rw [if_neg c]
  by_cases c0 : s = ⟨#[]⟩
  · rw [if_pos c0]; exact ⟨_, rfl⟩
  rw [if_neg c0]
  have : ∃ r, (o.set sign s).field sign = some r := by
    unfold OpV.set OpV.field fieldP
    by_cases c1 : sign = 103
    · subst c1; rw [if_pos rfl, if_pos rfl]; exact part_total s h
    by_cases c2 : sign = 105
    · subst c2; rw [if_neg (by decide), if_pos rfl, if_neg (by decide), if_pos rfl]; exact part_total s h
    have c3 : ¬ sign = 101 := fun e => c (.inl e)
    have c4 : ¬ sign = 115 := fun e => c (.inr (.inl e))
    have c5 : ¬ sign = 110 := fun e => c (.inr (.inr e))
    by_cases c6 : sign = 118
    · subst c6; simp only [if_neg c1, if_neg c2, if_neg c3, if_neg c4, if_neg c5, if_true]; exact ⟨_, rfl⟩
    by_cases c7 : sign = 120
    · subst c7
      simp only [if_neg c1, if_neg c2, if_neg c3, if_neg c4, if_neg c5, if_neg c6, if_true]
      by_cases c8 : (hexP (bytesOf s)).1.length = 32
      · rw [if_pos c8]
        unfold hex_Print.f
        rw [if_pos ⟨by omega, hexP_range _⟩]
        exact ⟨_, rfl⟩
      · rw [if_neg c8]; exact ⟨_, rfl⟩
    · simp only [if_neg c1, if_neg c2, if_neg c3, if_neg c4, if_neg c5, if_neg c6, if_neg c7]; exact ⟨_, rfl⟩
  obtain ⟨r, hr⟩ := this
  rw [hr]
  exact ⟨_, rfl⟩
/-- All words read, whether or not one of them fits. -/
def readR : OpV → Bool → List Int → List ByteArray → OpV × Bool
  | o, b, [], _ => (o, b)
  | o, b, _ :: _, [] => (o, b)
  | o, b, g :: gs, s :: ss => readR (o.set g s) (b && (o.fits g s).getD false) gs ss
theorem readR_false : ∀ (gs : List Int) (o : OpV) (ss : List ByteArray), (readR o false gs ss).2 = false
  | [], _, _ => rfl
  | _ :: _, _, [] => rfl
  | g :: gs, o, s :: ss => by rw [readR, Bool.false_and]; exact readR_false gs _ ss
theorem read_both : ∀ (gs : List Int) (o : OpV) (ss : List ByteArray), gs.length = ss.length → (∀ s ∈ ss, s.size ≤ 1000000) →
    ((readAll o gs ss).map fun r => if r.2 = true then (r.1, (0 : Int)) else (opZero 0, 3)) = some (if (readR o true gs ss).2 = true then ((readR o true gs ss).1, 0) else (opZero 0, 3))
  | [], o, ss, _, _ => rfl
  | g :: gs, o, [], h, _ => by simp at h
  | g :: gs, o, s :: ss, h, hs => by
    obtain ⟨t, ht⟩ := fits_total o g s (hs s (by simp))
    rw [readAll, readR, ht, Option.bind_some, Option.getD_some, Bool.true_and]
    cases t with
    | true => rw [if_pos rfl]; exact read_both gs _ ss (by simpa using h) (fun x hx => hs x (by simp [hx]))
    | false => rw [if_neg (by decide), readR_false, if_neg (by decide)]; rfl
theorem kinds_all : ∀ j : Fin 10, j.val = 0 ∨ oublietteref39_kinds.f (j.val : Int) = some (wordOf j.val, signsOf j.val) := by decide +kernel
theorem once_all : ∀ j : Fin 10, (bytesOf (signsOf j.val)).count 118 ≤ 1 := by decide +kernel
def opOut (o : OpV) (f : Int) : Int × ByteArray × ByteArray × Int × Int × Int × Int × List Int × Int := (o.K, o.G, o.I, o.E, o.S, o.N, o.V, o.X, f)
theorem set_G (o : OpV) (g : Int) (s : ByteArray) (hG : o.G.size ≤ 1000000) (hs : s.size ≤ 1000000) : (o.set g s).G.size ≤ 1000000 := by
  unfold OpV.set
  repeat' split
  all_goals first | exact hs | exact hG
theorem set_I (o : OpV) (g : Int) (s : ByteArray) (hI : o.I.size ≤ 1000000) (hs : s.size ≤ 1000000) : (o.set g s).I.size ≤ 1000000 := by
  unfold OpV.set
  repeat' split
  all_goals first | exact hs | exact hI
theorem set_V (o : OpV) (g : Int) (s : ByteArray) (h : ¬ g = 118) : (o.set g s).V = o.V := by
  unfold OpV.set
  repeat' split
  all_goals first | rfl | exact absurd ‹_› h
theorem with_step (o : OpV) (g : Int) (s : ByteArray) (hs : s.size ≤ 1000000) (hG : o.G.size ≤ 1000000) (hI : o.I.size ≤ 1000000) (hV : g = 118 → o.V = 0) :
    oublietteref39_with.f o.K o.G o.I o.E o.S o.N o.V o.X g s = some ((o.set g s).K, (o.set g s).G, (o.set g s).I, (o.set g s).E, (o.set g s).S, (o.set g s).N, (o.set g s).V, (o.set g s).X, (o.fits g s).getD false) := by
  obtain ⟨t, ht⟩ := fits_total o g s hs
  unfold oublietteref39_with.f
  rw [if_pos ⟨hs, hG, hI, hV⟩]
  show ((o.fits g s).map _) = _
  rw [ht]
  rfl
theorem l1_loop (hd : ByteArray) (tl : List ByteArray) (sg : ByteArray) (kind : Int) (hsg : sg.size ≤ 4) (hl : tl.length = sg.size) (hs : ∀ s ∈ tl, s.size ≤ 1000000) :
    ∀ (n i k : Nat) (o : OpV) (b : Bool), i + n = sg.size → o.G.size ≤ 1000000 → o.I.size ≤ 1000000 → (o.V = 0 ∨ 118 ∉ (bytesOf sg).drop i) → ((bytesOf sg).drop i).count 118 ≤ 1 →
    oublietteref39_Parse.l1 (k + n + 1) (hd :: tl) kind sg b i o.K o.G o.I o.E o.S o.N o.V o.X =
      (if (readR o b ((bytesOf sg).drop i) (tl.drop i)).2 = true then some (opOut (readR o b ((bytesOf sg).drop i) (tl.drop i)).1 0) else oublietteref39_Parse.l0 k (hd :: tl) (wrap64 (kind + 1))) := by
  intro n
  induction n with
  | zero =>
    intro i k o b h hG hI hV hc
    rw [oublietteref39_Parse.l1, if_neg (by omega), List.drop_eq_nil_of_le (by rw [bytesOf_length]; omega)]
    show _ = if b = true then _ else _
    cases b <;> rfl
  | succ n ih =>
    intro i k o b h hG hI hV hc
    have hi : i < (bytesOf sg).length := by rw [bytesOf_length]; omega
    have hit : i < tl.length := by omega
    have hw : wrap64 ((i : Int) + 1) = ((i + 1 : Nat) : Int) := by unfold wrap64; omega
    have hx : rdOf ByteArray.empty (hd :: tl) ((i + 1 : Nat) : Int) = tl[i] := by
      unfold rdOf
      rw [Int.toNat_natCast, List.getD_cons_succ, List.getD_eq_getElem?_getD, List.getElem?_eq_getElem hit]
      rfl
    have hxs := hs _ (List.getElem_mem hit)
    rw [getD_drop _ _ hi] at hV hc ⊢
    rw [List.drop_eq_getElem_cons hit, readR]
    have hg : bt sg ((i : Nat) : Int) = (bytesOf sg).getD i 0 := (bt_list sg i).symm
    generalize (bytesOf sg).getD i 0 = g at hV hc hg ⊢
    generalize tl[i] = x at hx hxs ⊢
    have hVg : g = 118 → o.V = 0 := fun e => hV.resolve_right (fun hn => hn (by rw [e]; simp))
    have hst := with_step o g x hxs hG hI hVg
    have hV2 : (o.set g x).V = 0 ∨ 118 ∉ (bytesOf sg).drop (i + 1) := by
      by_cases e : g = 118
      · right
        rw [e, List.count_cons_self] at hc
        exact List.count_eq_zero.1 (by omega)
      · rcases hV with h1 | h1
        · left; rw [set_V o g x e]; exact h1
        · right; exact fun hm => h1 (by simp [hm])
    have hc2 : ((bytesOf sg).drop (i + 1)).count 118 ≤ 1 := by
      rw [List.count_cons] at hc
      omega
    rw [show k + (n + 1) + 1 = (k + n + 1) + 1 by omega, oublietteref39_Parse.l1, if_pos (by omega), if_pos (by omega), hw, if_pos (by omega), if_pos (by simp; omega), hg, hx, hst, Option.bind_some]
    have ihh := ih (i + 1) k (o.set g x)
    cases b with
    | true =>
      rw [if_pos rfl, Bool.true_and]
      exact ihh _ (by omega) (set_G o g x hG hxs) (set_I o g x hI hxs) hV2 hc2
    | false =>
      rw [if_neg (by decide), Bool.false_and]
      exact ihh _ (by omega) (set_G o g x hG hxs) (set_I o g x hI hxs) hV2 hc2
/-- From a kind on, where no word is the first one. -/
theorem l0_none (hd : ByteArray) (tl : List ByteArray) : ∀ (n j k : Nat), j + n = 10 → 1 ≤ j → (∀ i, j ≤ i → i < 10 → ¬ hd = wordOf i) → oublietteref39_Parse.l0 (k + 2 * n + 1) (hd :: tl) j = some (opOut (opZero 0) 3)
  | 0, j, k, h, h1, hn => by
    rw [oublietteref39_Parse.l0, if_neg (by omega)]
    rfl
  | n + 1, j, k, h, h1, hn => by
    have hk := (kinds_all ⟨j, by omega⟩).resolve_left (by show ¬ j = 0; omega)
    have hk' : oublietteref39_kinds.f (j : Int) = some (wordOf j, signsOf j) := hk
    have hw : wrap64 ((j : Int) + 1) = ((j + 1 : Nat) : Int) := by unfold wrap64; omega
    have hne : ¬ hd.toList = (wordOf j).toList := by rw [tl_iff]; exact hn j (Nat.le_refl _) (by omega)
    rw [show k + 2 * (n + 1) + 1 = (k + 2 * n + 1 + 1) + 1 by omega, oublietteref39_Parse.l0, if_pos (by omega), hk', Option.bind_some, if_pos (by simp)]
    show (if hd.toList = (wordOf j).toList then _ else _) = _
    rw [if_neg hne, oublietteref39_Parse.j1, if_pos rfl, hw]
    exact l0_none hd tl n (j + 1) k (by omega) (by omega) (fun i hi h10 => hn i (by omega) h10)
theorem words_apart : ∀ i j : Fin 10, wordOf i.val = wordOf j.val → i = j := by decide +kernel
theorem l0_before (hd : ByteArray) (tl : List ByteArray) (m : Nat) (hm : m < 10) (hw : hd = wordOf m) : ∀ (n j k : Nat), j + n = m → 1 ≤ j → oublietteref39_Parse.l0 (k + 2 * n) (hd :: tl) j = oublietteref39_Parse.l0 k (hd :: tl) m
  | 0, j, k, h, h1 => by
    rw [show j = m by omega]
    rfl
  | n + 1, j, k, h, h1 => by
    have hk := (kinds_all ⟨j, by omega⟩).resolve_left (by show ¬ j = 0; omega)
    have hk' : oublietteref39_kinds.f (j : Int) = some (wordOf j, signsOf j) := hk
    have hww : wrap64 ((j : Int) + 1) = ((j + 1 : Nat) : Int) := by unfold wrap64; omega
    have hne : ¬ hd.toList = (wordOf j).toList := by
      rw [tl_iff, hw]
      intro e
      have := words_apart ⟨m, hm⟩ ⟨j, by omega⟩ e
      have : m = j := congrArg Fin.val this
      omega
    rw [show k + 2 * (n + 1) = (k + 2 * n + 1) + 1 by omega, oublietteref39_Parse.l0, if_pos (by omega), hk', Option.bind_some, if_pos (by simp)]
    show (if hd.toList = (wordOf j).toList then _ else _) = _
    rw [if_neg hne, oublietteref39_Parse.j1, if_pos rfl, hww]
    exact l0_before hd tl m hm hw n (j + 1) k (by omega) (by omega)
theorem kindFrom_word (h : ByteArray) : ∀ (n j : Nat), j + n = 10 → (∃ m : Nat, kindFrom h (formL.drop j) j = m ∧ j ≤ m ∧ m < 10 ∧ h = wordOf m ∧ ¬ h = ⟨#[]⟩) ∨ (kindFrom h (formL.drop j) j = -1 ∧ ∀ i, j ≤ i → i < 10 → h = wordOf i → h = ⟨#[]⟩)
  | 0, j, hj => by
    obtain rfl : j = 10 := by omega
    exact .inr ⟨rfl, fun i h1 h2 _ => by omega⟩
  | n + 1, j, hj => by
    rw [kind_step h j (by omega)]
    by_cases c : formIs h (formL.getD j (⟨#[]⟩, ⟨#[]⟩)) = true
    · rw [if_pos c]
      unfold formIs at c
      rw [Bool.and_eq_true, decide_eq_true_eq] at c
      have c1 : wordOf j = h := c.1
      have c2 : ¬ wordOf j = ⟨#[]⟩ := by
        intro e
        have h2 := c.2
        rw [decide_eq_true (show (formL.getD j (⟨#[]⟩, ⟨#[]⟩)).1 = ⟨#[]⟩ from e)] at h2
        cases h2
      exact .inl ⟨j, rfl, Nat.le_refl _, by omega, c1.symm, by rw [← c1]; exact c2⟩
    · rw [if_neg c]
      have cj : h = wordOf j → h = ⟨#[]⟩ := by
        intro e
        by_cases c3 : h = ⟨#[]⟩
        · exact c3
        · exfalso
          apply c
          unfold formIs
          have e1 : (formL.getD j (⟨#[]⟩, ⟨#[]⟩)).1 = h := e.symm
          rw [e1, decide_eq_true rfl, decide_eq_false c3]
          rfl
      rcases kindFrom_word h n (j + 1) (by omega) with ⟨m, h1, h2, h3, h4⟩ | ⟨h1, h2⟩
      · exact .inl ⟨m, h1, by omega, h3, h4⟩
      · refine .inr ⟨h1, fun i hi h10 e => ?_⟩
        rcases Nat.lt_or_ge j i with h5 | h5
        · exact h2 i h5 h10 e
        · rw [show i = j by omega] at e; exact cj e
theorem words_full : ∀ j : Fin 10, j.val = 0 ∨ ¬ wordOf j.val = ⟨#[]⟩ := by decide +kernel
theorem kindOf_word (h : ByteArray) : (∃ m : Nat, kindOf h = m ∧ 1 ≤ m ∧ m < 10 ∧ h = wordOf m) ∨ (kindOf h = -1 ∧ ∀ i, 1 ≤ i → i < 10 → ¬ h = wordOf i) := by
  rcases kindFrom_word h 10 0 rfl with ⟨m, h1, h2, h3, h4, h5⟩ | ⟨h1, h2⟩
  · refine .inl ⟨m, h1, ?_, h3, h4⟩
    rcases Nat.eq_zero_or_pos m with h6 | h6
    · exfalso; apply h5; rw [h4, h6]; rfl
    · exact h6
  · refine .inr ⟨h1, fun i hi h10 e => ?_⟩
    have h3 := h2 i (Nat.zero_le _) h10 e
    have h4 : ¬ wordOf i = ⟨#[]⟩ := (words_full ⟨i, h10⟩).resolve_left (by show ¬ i = 0; omega)
    exact h4 (e.symm.trans h3)
theorem ref_parse (s : ByteArray) (hs : s.size ≤ 1000000) (k : Nat) : ∃ r, opParse s = some r ∧ oublietteref39_Parse.f (k + s.size + 100) s = some (opOut r.1 r.2) := by
  have hsp := ref_split s hs (k + 99)
  have hlen := splitO_len 32 s
  have hws := fun x hx => Nat.le_trans (splitO_small 32 s x hx) hs
  unfold opParse oublietteref39_Parse.f
  rw [if_pos hs, show k + s.size + 100 = k + 99 + s.size + 1 by omega, hsp, Option.bind_some]
  generalize splitO 32 s = ws at hlen hws ⊢
  cases ws with
  | nil => simp at hlen
  | cons hd tl =>
  rw [parseW]
  unfold parseK
  have hnone : ∀ (j : Nat) (k : Nat), 1 ≤ j → j ≤ 10 → (∀ i, j ≤ i → i < 10 → ¬ hd = wordOf i) → oublietteref39_Parse.l0 (k + 30) (hd :: tl) j = some (opOut (opZero 0) 3) := fun j k h1 h10 hn => by
    have := l0_none hd tl (10 - j) j (k + 30 - (2 * (10 - j) + 1)) (by omega) h1 hn
    rw [show k + 30 - (2 * (10 - j) + 1) + 2 * (10 - j) + 1 = k + 30 by omega] at this
    exact this
  rcases kindOf_word hd with ⟨m, hm, hm1, hm10, hword⟩ | ⟨hm, hn⟩
  · rw [hm]
    have hafter : ∀ i, m + 1 ≤ i → i < 10 → ¬ hd = wordOf i := fun i hi h10 e => by
      have h1 := words_apart ⟨m, hm10⟩ ⟨i, h10⟩ (hword.symm.trans e)
      have h2 : m = i := congrArg Fin.val h1
      omega
    have hb := l0_before hd tl m hm10 hword (m - 1) 1 (k + s.size + 100 - 2 * (m - 1)) (by omega) (Nat.le_refl _)
    rw [show k + s.size + 100 - 2 * (m - 1) + 2 * (m - 1) = k + 99 + s.size + 1 by omega] at hb
    have hb' : oublietteref39_Parse.l0 (k + 99 + s.size + 1) (hd :: tl) 1 = _ := hb
    rw [hb']
    have hk' : oublietteref39_kinds.f (m : Int) = some (wordOf m, signsOf m) := (kinds_all ⟨m, hm10⟩).resolve_left (by show ¬ m = 0; omega)
    have hsz := signsOf_size hm10
    have hww : wrap64 ((m : Int) + 1) = ((m + 1 : Nat) : Int) := by unfold wrap64; omega
    have hwr : wrap64 (((signsOf m).size : Int) + 1) = ((signsOf m).size : Int) + 1 := by unfold wrap64; omega
    obtain ⟨q, hq⟩ : ∃ q, k + s.size + 100 - 2 * (m - 1) = q + 60 := ⟨k + s.size + 40 - 2 * (m - 1), by omega⟩
    have hch : ((hd :: tl).length : Int) = (tl.length : Int) + 1 := by simp
    have hL : oublietteref39_Parse.l0 (q + 60) (hd :: tl) m = oublietteref39_Parse.j1 (q + 59) (hd :: tl) m (signsOf m) (((hd :: tl).length : Int) != wrap64 (((signsOf m).size : Int) + 1)) := by
      rw [show q + 60 = (q + 59) + 1 by omega, oublietteref39_Parse.l0, if_pos (by omega), hk', Option.bind_some, if_pos (by simp)]
      show (if hd.toList = (wordOf m).toList then _ else _) = _
      rw [if_pos (by rw [hword])]
    rw [hq, hL, hwr, hch, show ((m : Int)).toNat = m from rfl]
    by_cases hln : tl.length = (signsOf m).size
    · rw [if_neg (by rintro (h1 | h1); omega; exact h1 hln)]
      have hneq : ((tl.length : Int) + 1 != ((signsOf m).size : Int) + 1) = false := by rw [bne_eq_false_iff_eq]; omega
      have hrb := read_both (bytesOf (signsOf m)) (opZero m) tl (by rw [bytesOf_length]; omega) (fun x hx => hws x (by simp [hx]))
      have hl1 := l1_loop hd tl (signsOf m) m hsz hln (fun x hx => hws x (by simp [hx])) (signsOf m).size 0 (q + 57 - (signsOf m).size) (opZero m) true (by omega) (by show (0 : Nat) ≤ _; omega) (by show (0 : Nat) ≤ _; omega) (.inl rfl) (by rw [List.drop_zero]; exact once_all ⟨m, hm10⟩)
      rw [show q + 57 - (signsOf m).size + (signsOf m).size + 1 = q + 58 by omega, List.drop_zero, List.drop_zero, hww] at hl1
      have hl1' : oublietteref39_Parse.l1 (q + 58) (hd :: tl) m (signsOf m) true 0 m (⟨#[]⟩ : ByteArray) (⟨#[]⟩ : ByteArray) 0 0 0 0 ([] : List Int) = _ := hl1
      refine ⟨_, hrb, ?_⟩
      rw [show q + 59 = (q + 58) + 1 by omega, hneq, oublietteref39_Parse.j1, if_neg (by decide), hl1']
      by_cases hr : (readR (opZero m) true (bytesOf (signsOf m)) tl).2 = true
      · rw [if_pos hr, if_pos hr]
      · rw [if_neg hr, if_neg hr, show q + 57 - (signsOf m).size = (q + 27 - (signsOf m).size) + 30 by omega]
        exact hnone (m + 1) _ (by omega) (by omega) hafter
    · rw [if_pos (.inr hln)]
      have hneq : ((tl.length : Int) + 1 != ((signsOf m).size : Int) + 1) = true := by rw [bne_iff_ne]; omega
      refine ⟨_, rfl, ?_⟩
      rw [show q + 59 = (q + 58) + 1 by omega, hneq, oublietteref39_Parse.j1, if_pos rfl, hww, show q + 58 = (q + 28) + 30 by omega]
      exact hnone (m + 1) _ (by omega) (by omega) hafter
  · rw [hm, if_pos (.inl (by decide))]
    refine ⟨_, rfl, ?_⟩
    rw [show k + 99 + s.size + 1 = (k + s.size + 70) + 30 by omega]
    exact hnone 1 _ (Nat.le_refl _) (by omega) hn
end Go.Proofs.YtdcknajlioalgaaDoor.QD
namespace Go.Proofs.YtdcknajlioalgaaDoor.QD
open Go.RowKit Go.Proofs.YtdcknajlioalgaaDoorW.PrintWords Go.Proofs.YtdcknajlioalgaaDoorW.PrintLast Go.Proofs.YtdcknajlioalgaaDoorW.PrintMore Go.Proofs.YtdcknajlioalgaaDoor.Hex
set_option linter.unusedVariables false
set_option linter.unusedSimpArgs false
theorem join_snoc (x : ByteArray) (acc : List ByteArray) (r : ByteArray) : joinW (x :: acc ++ [r]) = joinW (x :: acc) ++ (⟨#[32]⟩ : ByteArray) ++ r := by
  unfold joinW
  rw [List.cons_append, List.map_cons, List.map_cons, Lib.join_cons, Lib.join_cons]
  apply ByteArray.ext
  apply Array.toList_inj.mp
  simp [Lib.joinTail]
/-- The bytes are bytes. -/
def Bytes8 (l : List Int) : Prop := ∀ x ∈ l, 0 ≤ x ∧ x < 256
theorem num_total (n : Int) (h1 : n ≤ 1073741824) : ∃ r, op_count.f n = some r ∧ r.size ≤ 200 := by
  unfold op_count.f num_Print.f
  rw [if_neg (by omega)]
  by_cases c : n < 0
  · rw [if_pos c]; exact ⟨_, rfl, by decide⟩
  · rw [if_neg c, if_pos (by omega)]
    refine ⟨_, rfl, ?_⟩
    have := Lib.itoa_length_le n (by omega) (by omega)
    show (Lib.itoa n).toArray.size ≤ 200
    rw [List.size_toArray]
    omega
theorem count_total (n : Int) : ∃ r, op_count.f n = some r ∧ r.size ≤ 200 := by
  by_cases c : n > 1073741824
  · unfold op_count.f
    rw [if_pos c]
    exact ⟨_, rfl, by decide⟩
  · exact num_total n (by omega)
theorem part_small (s : ByteArray) (h : s.size ≤ 200) : ∃ r, op_part.f s = some r ∧ r.size ≤ 200 := by
  obtain ⟨t, ht⟩ : ∃ t, name_Part.f s = some t := by
    unfold name_Part.f
    rw [if_pos (by omega)]
    exact ⟨_, rfl⟩
  unfold op_part.f
  rw [ht, Option.bind_some]
  by_cases c : t = true
  · rw [if_pos c]; exact ⟨s, rfl, h⟩
  · rw [if_neg c]; exact ⟨_, rfl, by decide⟩
theorem field_small (o : OpV) (hG : o.G.size ≤ 200) (hI : o.I.size ≤ 200) (hX : Bytes8 o.X) (g : Int) : ∃ r, o.field g = some r ∧ r.size ≤ 200 := by
  unfold OpV.field fieldP
  by_cases c1 : g = 103
  · rw [if_pos c1]; exact part_small _ hG
  rw [if_neg c1]
  by_cases c2 : g = 105
  · rw [if_pos c2]; exact part_small _ hI
  rw [if_neg c2]
  by_cases c3 : g = 101
  · rw [if_pos c3]; exact count_total _
  rw [if_neg c3]
  by_cases c4 : g = 115
  · rw [if_pos c4]; exact count_total _
  rw [if_neg c4]
  by_cases c5 : g = 110
  · rw [if_pos c5]; exact count_total _
  rw [if_neg c5]
  by_cases c6 : g = 118
  · rw [if_pos c6]
    refine ⟨_, rfl, ?_⟩
    unfold sayS
    repeat' split
    all_goals decide
  rw [if_neg c6]
  by_cases c7 : g = 120
  · rw [if_pos c7]
    by_cases c8 : o.X.length = 32
    · rw [if_pos c8]
      unfold hex_Print.f
      rw [if_pos ⟨by omega, hX⟩]
      refine ⟨_, rfl, ?_⟩
      unfold hexS
      rw [strOf_size, hexL_len]
      omega
    · rw [if_neg c8]; exact ⟨_, rfl, by decide⟩
  · rw [if_neg c7]; exact ⟨_, rfl, by decide⟩
def printEnd (o : OpV) (s : ByteArray) : Option (ByteArray × Int) := (opParse s).bind fun r => if r.2 = 0 then (if o.same r.1 = true then some (s, 0) else some (⟨#[]⟩, 2)) else some (⟨#[]⟩, 2)
theorem same_bytes (a b : List Int) (ha : Bytes8 a) (hb : Bytes8 b) : ((strOfNums a).toList == (strOfNums b).toList) = decide (a = b) := by
  rw [tl_beq]
  congr 1
  apply propext
  constructor
  · intro h
    have h1 := bytesOf_strOfNums a (fun x hx => by have := ha x hx; omega)
    have h2 := bytesOf_strOfNums b (fun x hx => by have := hb x hx; omega)
    rw [← h1, ← h2, h]
  · intro h; rw [h]
theorem ref_same1 (a b : List Int) (hl : a.length = b.length) (hs : a.length ≤ 1000000) : ∀ (n i k : Nat), i + n = a.length → oublietteref01_Same.l0 (k + n + 1) a b i = some (decide (a.drop i = b.drop i))
  | 0, i, k, h => by
    rw [oublietteref01_Same.l0, if_neg (by omega), List.drop_eq_nil_of_le (by omega), List.drop_eq_nil_of_le (by omega), decide_eq_true rfl]
  | n + 1, i, k, h => by
    have ha : i < a.length := by omega
    have hb : i < b.length := by omega
    have hw : wrap64 ((i : Int) + 1) = ((i + 1 : Nat) : Int) := by unfold wrap64; omega
    have e1 : rd a (i : Int) = a.getD i 0 := by unfold rd; rw [Int.toNat_natCast]
    have e2 : rd b (i : Int) = b.getD i 0 := by unfold rd; rw [Int.toNat_natCast]
    rw [show k + (n + 1) + 1 = (k + n + 1) + 1 by omega, oublietteref01_Same.l0, if_pos (by omega), if_pos (by omega), if_pos (by omega), e1, e2, getD_drop a i ha, getD_drop b i hb]
    by_cases c : a.getD i 0 = b.getD i 0
    · rw [if_pos c, hw, ref_same1 a b hl hs n (i + 1) k (by omega), c]
      congr 1
      simp
    · rw [if_neg c]
      congr 1
      symm
      apply decide_eq_false
      intro e
      exact c (List.cons.inj e).1
theorem ref_same2 (a b : List Int) (ha : Bytes8 a) (hb : Bytes8 b) (hs : a.length ≤ 1000000) (k : Nat) : oublietteref01_Same.f (k + a.length + 1) a b = some ((strOfNums a).toList == (strOfNums b).toList) := by
  rw [same_bytes a b ha hb]
  unfold oublietteref01_Same.f
  by_cases c : a.length = b.length
  · rw [if_pos (by omega)]
    have := ref_same1 a b c hs a.length 0 k (by omega)
    rw [List.drop_zero, List.drop_zero] at this
    exact this
  · rw [if_neg (by omega)]
    congr 1
    symm
    apply decide_eq_false
    intro e
    exact c (by rw [e])
theorem ref_same (a b : OpV) (ha : Bytes8 a.X) (hb : Bytes8 b.X) (hs : a.X.length ≤ 1000000) (k : Nat) :
    oublietteref39_Same.f (k + a.X.length + 1) a.K a.G a.I a.E a.S a.N a.V a.X b.K b.G b.I b.E b.S b.N b.V b.X = some (a.same b) := by
  have hx := ref_same2 a.X b.X ha hb hs k
  rw [← OpV.same_eq]
  unfold oublietteref39_Same.f op_same.f num_Same.f bytes_Equal.f
  rw [hx]
  rfl
theorem set_bytes (o : OpV) (g : Int) (s : ByteArray) (h : Bytes8 o.X) : Bytes8 (o.set g s).X := by
  unfold OpV.set
  repeat' split
  all_goals first | exact h | exact hexP_range _
theorem readAll_bytes : ∀ (gs : List Int) (o : OpV) (ss : List ByteArray) (r : OpV × Bool), Bytes8 o.X → readAll o gs ss = some r → Bytes8 r.1.X
  | [], o, ss, r, h, e => by
    obtain rfl := Option.some.inj e
    exact h
  | g :: gs, o, [], r, h, e => by cases e
  | g :: gs, o, s :: ss, r, h, e => by
    rw [readAll] at e
    obtain ⟨t, _, e2⟩ := Option.bind_eq_some_iff.1 e
    cases t with
    | true => rw [if_pos rfl] at e2; exact readAll_bytes gs _ ss r (set_bytes o g s h) e2
    | false =>
      rw [if_neg (by decide)] at e2
      obtain rfl := Option.some.inj e2
      exact h
theorem zero_bytes (k : Int) : Bytes8 (opZero k).X := fun x hx => by cases hx
theorem opParse_bytes (s : ByteArray) (r : OpV × Int) (h : opParse s = some r) : Bytes8 r.1.X := by
  unfold opParse at h
  split at h
  case isFalse => cases h
  generalize splitO 32 s = ws at h
  cases ws with
  | nil => cases h
  | cons hd tl =>
    rw [parseW] at h
    unfold parseK at h
    split at h
    · obtain rfl := Option.some.inj h
      exact zero_bytes 0
    · obtain ⟨q, hq, rfl⟩ := Option.map_eq_some_iff.1 h
      split
      · exact readAll_bytes _ _ _ _ (zero_bytes _) hq
      · exact zero_bytes 0
theorem printEnd_ref (o : OpV) (hX : Bytes8 o.X) (hl : o.X.length ≤ 1000) (s : ByteArray) (hs : s.size ≤ 2000) (k : Nat) (hk : 4000 ≤ k) :
    ((oublietteref39_Parse.f k s).bind fun bt233 => (if bt233.2.2.2.2.2.2.2.2 = 0 then ((oublietteref39_Same.f k o.K o.G o.I o.E o.S o.N o.V o.X bt233.1 bt233.2.1 bt233.2.2.1 bt233.2.2.2.1 bt233.2.2.2.2.1 bt233.2.2.2.2.2.1 bt233.2.2.2.2.2.2.1 bt233.2.2.2.2.2.2.2.1).bind fun t245 => (if t245 = true then (some (s, (0 : Int))) else (some ((⟨#[]⟩ : ByteArray), (2 : Int))))) else (some ((⟨#[]⟩ : ByteArray), (2 : Int))))) = printEnd o s ∧ ∃ q, printEnd o s = some q := by
  obtain ⟨r, hr, hf⟩ := ref_parse s (by omega) (k - s.size - 100)
  rw [show k - s.size - 100 + s.size + 100 = k by omega] at hf
  have hb := opParse_bytes s r hr
  have hsm := ref_same o r.1 hX hb (by omega) (k - o.X.length - 1)
  rw [show k - o.X.length - 1 + o.X.length + 1 = k by omega] at hsm
  unfold printEnd
  rw [hf, hr, Option.bind_some, Option.bind_some]
  show (if r.2 = 0 then ((oublietteref39_Same.f k o.K o.G o.I o.E o.S o.N o.V o.X r.1.K r.1.G r.1.I r.1.E r.1.S r.1.N r.1.V r.1.X).bind _) else _) = _ ∧ _
  rw [hsm, Option.bind_some]
  refine ⟨rfl, ?_⟩
  repeat' split
  all_goals exact ⟨_, rfl⟩
theorem print_ref_loop (o : OpV) (hG : o.G.size ≤ 200) (hI : o.I.size ≤ 200) (hX : Bytes8 o.X) (hl : o.X.length ≤ 1000) (sg : ByteArray) (hsg : sg.size ≤ 4) :
    ∀ (n i k : Nat) (x : ByteArray) (acc : List ByteArray), i + n = sg.size → (joinW (x :: acc)).size ≤ 100 + 210 * i → 4000 ≤ k →
    ∃ ws, fieldsFrom o (x :: acc) ((bytesOf sg).drop i) = some ws ∧ (joinW ws).size ≤ 100 + 210 * sg.size ∧ oublietteref39_Print.l0 (k + n + 1) (joinW (x :: acc)) sg i o.K o.G o.I o.E o.S o.N o.V o.X = printEnd o (joinW ws) := by
  intro n
  induction n with
  | zero =>
    intro i k x acc h hs hk
    refine ⟨x :: acc, ?_, by rw [show sg.size = i by omega]; exact hs, ?_⟩
    · rw [List.drop_eq_nil_of_le (by rw [bytesOf_length]; omega)]; rfl
    · rw [oublietteref39_Print.l0, if_neg (by omega)]
      exact (printEnd_ref o hX hl _ (by omega) _ (by omega)).1
  | succ n ih =>
    intro i k x acc h hs hk
    have hi : i < (bytesOf sg).length := by rw [bytesOf_length]; omega
    have hw : wrap64 ((i : Int) + 1) = ((i + 1 : Nat) : Int) := by unfold wrap64; omega
    have hg : bt sg ((i : Nat) : Int) = (bytesOf sg).getD i 0 := (bt_list sg i).symm
    rw [getD_drop _ _ hi]
    generalize (bytesOf sg).getD i 0 = g at hg ⊢
    obtain ⟨r, hr, hrs⟩ := field_small o hG hI hX g
    have hrf := at_rounds (g := fun k => oublietteref39_field.f k o.K o.G o.I o.E o.S o.N o.V o.X g) (fun k => oublietteref39_field.mono _ _ _ _ _ _ _ _ _ k) (k' := k + n + 1) (by omega) (ref_field o (by omega) (by omega) g r hr)
    have hj := join_snoc x acc r
    have hjs : (joinW (x :: acc ++ [r])).size = (joinW (x :: acc)).size + 1 + r.size := by
      rw [hj, ByteArray.size_append, ByteArray.size_append]
      rfl
    obtain ⟨ws, h1, h2, h3⟩ := ih (i + 1) k x (acc ++ [r]) (by omega) (by rw [← List.cons_append, hjs]; omega) hk
    refine ⟨ws, ?_, h2, ?_⟩
    · rw [fieldsFrom, hr, Option.bind_some]
      exact h1
    · have hrf' : oublietteref39_field.f (k + n + 1) o.K o.G o.I o.E o.S o.N o.V o.X g = some r := hrf
      rw [show k + (n + 1) + 1 = (k + n + 1) + 1 by omega, oublietteref39_Print.l0, if_pos (by omega), if_pos (by omega), if_pos (by omega), hg, hrf', Option.bind_some, if_pos (by rw [ByteArray.size_append]; show (joinW (x :: acc)).size + 1 + r.size ≤ _; omega), hw, ← hj]
      exact h3
theorem words_small : ∀ j : Fin 10, (wordOf j.val).size ≤ 100 := by decide +kernel
theorem ref_opPrint (o : OpV) (hG : o.G.size ≤ 200) (hI : o.I.size ≤ 200) (hX : Bytes8 o.X) (hl : o.X.length ≤ 1000) (k : Nat) :
    ∃ r, opPrint o = some r ∧ oublietteref39_Print.f (k + 5000) o.K o.G o.I o.E o.S o.N o.V o.X = some r := by
  unfold opPrint oublietteref39_Print.f
  by_cases hk : o.K < 1 ∨ o.K ≥ 10
  · rw [if_pos hk]
    refine ⟨_, rfl, ?_⟩
    have e : oublietteref39_kinds.f o.K = some (⟨#[]⟩, ⟨#[]⟩) := by
      unfold oublietteref39_kinds.f
      rw [Option.bind_some, Option.bind_some]
      by_cases c : o.K < 1
      · rw [if_pos c]
      · rw [if_neg c, if_pos (by omega)]
    rw [e, Option.bind_some]
    show oublietteref39_Print.l0 ((k + 4999) + 1) (⟨#[]⟩ : ByteArray) (⟨#[]⟩ : ByteArray) 0 o.K o.G o.I o.E o.S o.N o.V o.X = _
    rw [oublietteref39_Print.l0, if_neg (by decide), (printEnd_ref o hX hl ⟨#[]⟩ (by decide) (k + 4999) (by omega)).1]
    unfold printEnd
    have hp : opParse ⟨#[]⟩ = some (opZero 0, 3) := by
      unfold opParse
      rw [if_pos (by decide), splitO_cut]
      rfl
    rw [hp, Option.bind_some, if_neg (by decide)]
  · rw [if_neg hk]
    obtain ⟨m, hm⟩ : ∃ m : Nat, o.K = m := ⟨o.K.toNat, by omega⟩
    have hm10 : m < 10 := by omega
    have hk' : oublietteref39_kinds.f o.K = some (wordOf m, signsOf m) := by
      rw [hm]
      exact (kinds_all ⟨m, hm10⟩).resolve_left (by show ¬ m = 0; omega)
    have hsz := signsOf_size hm10
    have hwz := words_small ⟨m, hm10⟩
    have hone : joinW [wordOf m] = wordOf m := by
      unfold joinW
      rw [List.map_cons, List.map_nil, Lib.join_one]
    obtain ⟨ws, h1, h2, h3⟩ := print_ref_loop o hG hI hX hl (signsOf m) hsz (signsOf m).size 0 (k + 4999 - (signsOf m).size) (wordOf m) [] (by omega) (by rw [hone]; show (wordOf m).size ≤ _; omega) (by omega)
    rw [show k + 4999 - (signsOf m).size + (signsOf m).size + 1 = k + 5000 by omega, hone] at h3
    have h3' : oublietteref39_Print.l0 (k + 5000) (wordOf m) (signsOf m) 0 o.K o.G o.I o.E o.S o.N o.V o.X = _ := h3
    rw [List.drop_zero] at h1
    obtain ⟨q, hq⟩ := (printEnd_ref o hX hl (joinW ws) (by omega) 4000 (Nat.le_refl _)).2
    refine ⟨q, ?_, ?_⟩
    · have hmt : o.K.toNat = m := by omega
      rw [hmt, h1, Option.bind_some, if_pos (by omega)]
      exact hq
    · rw [hk', Option.bind_some]
      exact h3'.trans hq
end Go.Proofs.YtdcknajlioalgaaDoor.QD
namespace Go.Proofs.YtdcknajlioalgaaDoor.QD
open Go.RowKit Go.Proofs.YtdcknajlioalgaaDoorW.PrintWords Go.Proofs.YtdcknajlioalgaaDoorW.PrintLast Go.Proofs.YtdcknajlioalgaaDoorW.PrintMore Go.Proofs.YtdcknajlioalgaaDoor.Hex
set_option linter.unusedVariables false
set_option linter.unusedSimpArgs false
def wordsL : List ByteArray := [⟨#[111, 107]⟩, ⟨#[98, 97, 100, 97, 114, 103]⟩, ⟨#[114, 97, 110, 103, 101]⟩, ⟨#[115, 121, 110, 116, 97, 120]⟩, ⟨#[102, 111, 114, 109]⟩, ⟨#[102, 117, 108, 108]⟩, ⟨#[98, 105, 103]⟩, ⟨#[109, 105, 115, 115, 105, 110, 103]⟩, ⟨#[101, 120, 105, 115, 116, 115]⟩, ⟨#[117, 115, 101, 100]⟩, ⟨#[119, 105, 110, 100, 111, 119]⟩, ⟨#[99, 111, 114, 114, 117, 112, 116]⟩, ⟨#[100, 111, 119, 110]⟩, ⟨#[108, 105, 109, 105, 116]⟩, ⟨#[115, 116, 97, 116, 101]⟩]
def wordsC : Array Value := #[.string ⟨#[111, 107]⟩, .string ⟨#[98, 97, 100, 97, 114, 103]⟩, .string ⟨#[114, 97, 110, 103, 101]⟩, .string ⟨#[115, 121, 110, 116, 97, 120]⟩, .string ⟨#[102, 111, 114, 109]⟩, .string ⟨#[102, 117, 108, 108]⟩, .string ⟨#[98, 105, 103]⟩, .string ⟨#[109, 105, 115, 115, 105, 110, 103]⟩, .string ⟨#[101, 120, 105, 115, 116, 115]⟩, .string ⟨#[117, 115, 101, 100]⟩, .string ⟨#[119, 105, 110, 100, 111, 119]⟩, .string ⟨#[99, 111, 114, 114, 117, 112, 116]⟩, .string ⟨#[100, 111, 119, 110]⟩, .string ⟨#[108, 105, 109, 105, 116]⟩, .string ⟨#[115, 116, 97, 116, 101]⟩]
theorem wordsC_at (j : Nat) (hj : j < 15) : wordsC[j]? = some (.string (wordsL.getD j ⟨#[]⟩)) := by
  rcases (show j = 0 ∨ j = 1 ∨ j = 2 ∨ j = 3 ∨ j = 4 ∨ j = 5 ∨ j = 6 ∨ j = 7 ∨ j = 8 ∨ j = 9 ∨ j = 10 ∨ j = 11 ∨ j = 12 ∨ j = 13 ∨ j = 14 by omega) with rfl | rfl | rfl | rfl | rfl | rfl | rfl | rfl | rfl | rfl | rfl | rfl | rfl | rfl | rfl <;> rfl
theorem results_words {t : Tmp} {fn : Func} (h : fn.results = #[.cell t 135]) (tmps : Array Value) (w : World) (hp : tmps.getD t undef = .pointer (some ⟨w.heap.size, 0, none⟩)) :
    (results fn tmps).run Tryd.prog (w.alloc (.cells wordsC 135)) = .ok (.agg wordsC) (w.alloc (.cells wordsC 135)) := by
  have hl := run_loadVar_new (P := Tryd.prog) w 135 wordsC 15 9 Tryd.underlying135 (by kernel_rfl)
  simp [results, h]
  rw [show tmps[t]?.getD undef = .pointer (some ⟨w.heap.size, 0, none⟩) by simpa using hp]
  simp only [Sem.run_bind, Result.andThen]
  exact hl
theorem words (w : World) : Calls Tryd.prog 75 #[] w fun e w' => e = .returned (.agg wordsC) ∧ Below w.heap.size w w' := by
  go_enter Tryd.func75, Tryd.ntmps75
  go_wp2_with ((with_reducible refine gate_ (.store 135 (.tmp 0) (.tmp 1)) rfl ?_); go_loud (refine wpList_store_row rfl 135 (.tmp 0) (.tmp 1) rfl w.heap.size wordsC rfl rfl 135 _ (heap_alloc_new _ _) (by kernel_rfl) rfl (by kernel_rfl) ?_); rw [World.setRow_alloc_new])
  refine bodyPost_ret (results_words rfl _ w rfl) rfl ⟨rfl, below_alloc (Below.refl _ _) _⟩
def wordF (f : Int) : ByteArray := if f < 0 ∨ f ≥ 15 then ⟨#[]⟩ else wordsL.getD f.toNat ⟨#[]⟩
theorem wordCall (f : Int) (w : World) : Calls Tryd.prog 46 #[.int .i64 f] w fun e w' => e = .returned (.string (wordF f)) ∧ Below w.heap.size w w' := by
  have hu135 := Tryd.underlying135
  go_enter Tryd.func46, Tryd.ntmps46
  go_wp2_with (fail)
  refine (words _).mono ?_
  rintro _ w2 ⟨rfl, hb⟩
  have HB := Aside0.mk (below_alloc hb (.cells wordsC 135))
  have Z := Aside0.mk (heap_alloc_new w2 (.cells wordsC 135))
  clear hb
  by_cases h0 : f < 0
  · have e1 : decide (f < 0) = true := decide_eq_true h0
    have HE := Aside0.mk (show wordF f = ⟨#[]⟩ from by unfold wordF; rw [if_pos (.inl h0)])
    go_wp2_with ((with_reducible refine gate_ (.store 135 (.tmp 3) (.tmp 4)) rfl ?_); go_loud (refine wpList_store_row rfl 135 (.tmp 3) (.tmp 4) rfl w2.heap.size wordsC rfl rfl 135 _ (heap_alloc_new _ _) (by kernel_rfl) rfl (by kernel_rfl) ?_); rw [World.setRow_alloc_new])
    go_ret
    exact ⟨by rw [HE.out]; rfl, HB.out⟩
  · have e1 : decide (f < 0) = false := decide_eq_false h0
    by_cases h15 : f ≥ 15
    · have e2 : decide (f ≥ 15) = true := decide_eq_true h15
      have e3 : decide (15 ≤ f) = true := e2
      have HE := Aside0.mk (show wordF f = ⟨#[]⟩ from by unfold wordF; rw [if_pos (.inr h15)])
      go_wp2_with ((with_reducible refine gate_ (.store 135 (.tmp 3) (.tmp 4)) rfl ?_); go_loud (refine wpList_store_row rfl 135 (.tmp 3) (.tmp 4) rfl w2.heap.size wordsC rfl rfl 135 _ (heap_alloc_new _ _) (by kernel_rfl) rfl (by kernel_rfl) ?_); rw [World.setRow_alloc_new])
      go_ret
      exact ⟨by rw [HE.out]; rfl, HB.out⟩
    · obtain ⟨k, rfl⟩ : ∃ k : Nat, f = k := ⟨f.toNat, by omega⟩
      have e2 : decide ((k : Int) ≥ 15) = false := decide_eq_false h15
      have e3 : decide (15 ≤ (k : Int)) = false := e2
      have i1 : (k : Int) < 15 := by omega
      have hE : wordF k = wordsL.getD k ⟨#[]⟩ := by unfold wordF; rw [if_neg (by omega)]; rfl
      generalize hg : wordsL.getD k ⟨#[]⟩ = g at hE
      have HE := Aside0.mk hE
      have c1 : (w2.alloc (.cells wordsC 135)).cell? ⟨w2.heap.size, k, none⟩ = some (.string g) := by rw [← hg]; exact cell_of Z.out (wordsC_at k (by omega))
      clear hE hg
      go_wp2_with ((with_reducible refine gate_ (.store 135 (.tmp 3) (.tmp 4)) rfl ?_); go_loud (refine wpList_store_row rfl 135 (.tmp 3) (.tmp 4) rfl w2.heap.size wordsC rfl rfl 135 _ (heap_alloc_new _ _) (by kernel_rfl) rfl (by kernel_rfl) ?_); rw [World.setRow_alloc_new])
      go_ret
      exact ⟨by rw [HE.out]; rfl, HB.out⟩
end Go.Proofs.YtdcknajlioalgaaDoor.QD
namespace Go.Proofs.YtdcknajlioalgaaDoor.QD
open Go.RowKit Go.Proofs.YtdcknajlioalgaaDoorW.PrintWords Go.Proofs.YtdcknajlioalgaaDoorW.PrintLast Go.Proofs.YtdcknajlioalgaaDoorW.PrintMore Go.Proofs.YtdcknajlioalgaaDoor.Hex
set_option linter.unusedVariables false
set_option linter.unusedSimpArgs false
def numsFrom : List ByteArray → List Int → Option (List ByteArray)
  | acc, [] => some acc
  | acc, n :: ns => (op_count.f n).bind fun r => numsFrom (acc ++ [r]) ns
def emptyIn (ws : List ByteArray) : Bool := ws.any fun x => decide (x = ⟨#[]⟩)
def tellEnd (B : List Int) (T : ByteArray) (ws : List ByteArray) : Option ByteArray :=
  (if B.length = 0 then some ws else (hex_Print.f B).bind fun h => some (ws ++ [(⟨#[35]⟩ : ByteArray) ++ h])).bind fun ws1 =>
    if (joinW (if T = ⟨#[]⟩ then ws1 else ws1 ++ [(⟨#[61]⟩ : ByteArray) ++ T])).size ≤ 1000000 then some (joinW (if T = ⟨#[]⟩ then ws1 else ws1 ++ [(⟨#[61]⟩ : ByteArray) ++ T])) else none
def tellP (F : Int) (B Nm : List Int) (T : ByteArray) : Option ByteArray :=
  if F ≠ 0 then some (wordF F)
  else if B.length ≤ 1000000 ∧ Nm.length ≤ 100000 ∧ T.size ≤ 1000000 then
    (numsFrom [wordF F] Nm).bind fun ws => if emptyIn ws = true then some ⟨#[]⟩
      else if T = ⟨#[]⟩ then tellEnd B T ws else (op_part.f T).bind fun p => if p = ⟨#[]⟩ then some ⟨#[]⟩ else tellEnd B T ws
  else none
theorem contains_loop (ws : List ByteArray) (s : ByteArray) (hl : ws.length ≤ 1000000) : ∀ (n i k : Nat), i + n = ws.length → ∃ j : Int, slices_Index_string_string.l0 (k + n + 1) ws s (ws.length : Int) i = some j ∧ decide (j ≥ 0) = (ws.drop i).any fun x => decide (x = s)
  | 0, i, k, h => by
    refine ⟨-1, ?_, ?_⟩
    · rw [slices_Index_string_string.l0, if_neg (by omega)]
    · rw [List.drop_eq_nil_of_le (by omega)]; rfl
  | n + 1, i, k, h => by
    have hi : i < ws.length := by omega
    have hw : wrap64 ((i : Int) + 1) = ((i + 1 : Nat) : Int) := by unfold wrap64; omega
    have hx : rdOf ByteArray.empty ws ((i : Nat) : Int) = ws[i] := by
      unfold rdOf
      rw [Int.toNat_natCast, List.getD_eq_getElem?_getD, List.getElem?_eq_getElem hi]
      rfl
    rw [show k + (n + 1) + 1 = (k + n + 1) + 1 by omega, slices_Index_string_string.l0, if_pos (by omega), if_pos (by omega), if_pos (by omega), hx, List.drop_eq_getElem_cons hi, List.any_cons]
    by_cases c : s = ws[i]
    · refine ⟨i, by rw [if_pos (by rw [← c])], ?_⟩
      rw [decide_eq_true (show (i : Int) ≥ 0 by omega), ← c, decide_eq_true rfl, Bool.true_or]
    · obtain ⟨j, h1, h2⟩ := contains_loop ws s hl n (i + 1) k (by omega)
      refine ⟨j, ?_, ?_⟩
      · rw [if_neg (by rw [tl_iff]; exact c), hw, h1]
      · rw [h2, decide_eq_false (show ¬ ws[i] = s from fun e => c e.symm), Bool.false_or]
theorem contains_eq (ws : List ByteArray) (s : ByteArray) (hl : ws.length ≤ 1000000) : slices_Contains_string_string.f (ws.length + 1) ws s = some (ws.any fun x => decide (x = s)) := by
  obtain ⟨j, h1, h2⟩ := contains_loop ws s hl ws.length 0 0 (by omega)
  unfold slices_Contains_string_string.f slices_Index_string_string.f
  rw [Nat.zero_add] at h1
  have h1' : slices_Index_string_string.l0 (ws.length + 1) ws s (ws.length : Int) 0 = some j := h1
  rw [h1', Option.bind_some, h2, List.drop_zero]
theorem numsFrom_len : ∀ (ns : List Int) (acc ws : List ByteArray), numsFrom acc ns = some ws → ws.length = acc.length + ns.length
  | [], acc, ws, h => by
    obtain rfl := Option.some.inj h
    simp
  | n :: ns, acc, ws, h => by
    rw [numsFrom] at h
    obtain ⟨r, _, h2⟩ := Option.bind_eq_some_iff.1 h
    have := numsFrom_len ns _ ws h2
    simp at this ⊢
    omega
theorem join_calls (b5 c : Nat) (ws : List ByteArray) (n : Nat) (hn : ws.length = n) (w : World) (hcells : ∀ (j : Nat) x, ws[j]? = some x → w.cell? ⟨b5, 0 + j, none⟩ = some (.string x)) (hb : b5 < w.heap.size) (hc : ws.length ≤ c) (hj : (joinW ws).size ≤ 1000000) (hl : ws.length ≤ 2000000) :
    Calls Tryd.prog 35 #[.slice (some ⟨b5, 0, none⟩) n c, .string ⟨#[32]⟩] w fun e w' => e = .returned (.string (joinW ws)) ∧ Below w.heap.size w w' := by
  subst hn
  have h1 : (joinW ws).size = (Lib.join (ws.map (·.data.toList)) [32]).length := by simp [joinW, ByteArray.size]
  exact Tryd.strings_Join b5 0 c ws ⟨#[32]⟩ w hcells hb (by omega) hc (by
    show (Lib.join (ws.map (·.data.toList)) [32]).length ≤ _
    omega)
theorem hexPrint_size {B : List Int} {h : ByteArray} (e : hex_Print.f B = some h) : h.size ≤ 2000000 := by
  unfold hex_Print.f at e
  split at e
  case isFalse => cases e
  rename_i hc
  obtain rfl := Option.some.inj e
  unfold hexS
  rw [strOf_size, hexL_len]
  omega
set_option maxHeartbeats 2000000 in
set_option maxRecDepth 100000 in
theorem tell_calls (F : Int) (B Nm : List Int) (T : ByteArray) (A1 A2 : Option Addr) (c1 c2 : Nat) (r : ByteArray) (w : World) (HLD : Laid w) (hr1 : Kd.C (Kd.int .u8) w A1 B.length B) (hc1 : B.length ≤ c1) (hr2 : Kd.C (Kd.int .i64) w A2 Nm.length Nm) (hc2 : Nm.length ≤ c2) (h : tellP F B Nm T = some r) :
    Calls Tryd.prog 21 #[.agg #[.int .i64 F, .slice A1 B.length c1, .slice A2 Nm.length c2, .string T]] w fun e w' => e = .returned (.string r) ∧ Below w.heap.size w w' := by
  have hu54 := Tryd.underlying54
  have hu84 := Tryd.underlying84
  have hu29 := Tryd.underlying29
  have HL := Aside0.mk HLD
  have H1 := Aside0.mk hr1
  have H2 := Aside0.mk hr2
  have HC1 := Aside0.mk hc1
  have HC2 := Aside0.mk hc2
  have HH := Aside0.mk h
  clear HLD hr1 hr2 hc1 hc2 h
  have X0 := Aside0.mk (heap_alloc_new w (.cells #[.int .i64 F, .slice A1 B.length c1, .slice A2 Nm.length c2, .string T] 54))
  have XB := Aside0.mk (below_alloc (Below.refl w.heap.size w) (.cells #[.int .i64 F, .slice A1 B.length c1, .slice A2 Nm.length c2, .string T] 54))
  have f0 : (w.alloc (.cells #[.int .i64 F, .slice A1 B.length c1, .slice A2 Nm.length c2, .string T] 54)).cell? ⟨w.heap.size, 0, none⟩ = some (.int .i64 F) := cell_of X0.out rfl
  go_enter Tryd.func21, Tryd.ntmps21
  go_wp2_with (fail)
  refine (wordCall F _).mono ?_
  rintro _ w2 ⟨rfl, hb⟩
  have Y0 := Aside0.mk ((hb.block w.heap.size (alloc_lt w _)).trans X0.out)
  have YB := Aside0.mk (XB.out.trans (hb.mono XB.out.size))
  clear hb X0 XB f0
  obtain ⟨wd, hwd⟩ : ∃ wd, wordF F = wd := ⟨_, rfl⟩
  rw [hwd]
  have hh := HH.out
  clear HH
  unfold tellP at hh
  by_cases hF : F ≠ 0
  · rw [if_pos hF, hwd] at hh
    obtain rfl := Option.some.inj hh
    have e1 : (F != 0) = true := bne_iff_ne.mpr hF
    clear hh hF
    go_wp2_with (first
    | ((with_reducible refine gate_dst (N := 9) rfl ?_); refine Kd.R_lit Kd.string _ 9 ?hg (N := 9) ?hd (xs := [wd]) (inner := [.string wd]) (ok := fun _ => True) (okp := fun _ => True) ?hr ?hp (fun _ hk => hk) trivial (Below.refl _ _) (Nat.le_refl _) (by simp) ?_; (case hd => rfl); (case hg => rfl); (case hr => first | (go_simp; done) | (go_simp; rfl)); (case hp => exact (Reps.one (show Kd.M Kd.string _ _ _ wd [.string wd] from rfl) (Reps.none _ _)))
       intro v9 w3 ho hb hg_ hnew_
       have U0 := Aside0.mk (blk_below Y0.out hb)
       have UB := Aside0.mk (YB.out.trans (hb.mono YB.out.size))
       have UR := Aside0.mk (Kd.R_lower ho YB.out.size)
       have p0 : w3.cell? ⟨w.heap.size, 0, none⟩ = some (.int .i64 F) := cell_of U0.out rfl
       have p1 : w3.cell? ⟨w.heap.size, 1, none⟩ = some (.slice A1 B.length c1) := cell_of U0.out rfl
       have p2 : w3.cell? ⟨w.heap.size, 2, none⟩ = some (.slice A2 Nm.length c2) := cell_of U0.out rfl
       have p3 : w3.cell? ⟨w.heap.size, 3, none⟩ = some (.string T) := cell_of U0.out rfl
       clear ho hb hg_ hnew_ Y0 YB
       obtain ⟨b9, c9, rfl, hc9, hb9, hcells⟩ := rowOf UR.out (by simp)
       have q0 := hcells 0 wd rfl
       clear hcells hc9))
    go_ret
    exact ⟨rfl, UB.out⟩
  have hF0 : F = 0 := Decidable.not_not.mp hF
  rw [if_neg hF] at hh
  have e1 : (F != 0) = false := by rw [hF0]; rfl
  by_cases hsz0 : ¬ (B.length ≤ 1000000 ∧ Nm.length ≤ 100000 ∧ T.size ≤ 1000000)
  · rw [if_neg hsz0] at hh; cases hh
  have hsz := Decidable.not_not.mp hsz0
  rw [if_pos hsz, hwd] at hh
  have HSZ := Aside0.mk hsz
  have HH := Aside0.mk hh
  have HF := Aside0.mk hF0
  have HWD := Aside0.mk hwd
  clear hh hF hF0 hsz hsz0 hwd
  go_wp2_with (first
    | ((with_reducible refine gate_dst (N := 9) rfl ?_); refine Kd.R_lit Kd.string _ 9 ?hg (N := 9) ?hd (xs := [wd]) (inner := [.string wd]) (ok := fun _ => True) (okp := fun _ => True) ?hr ?hp (fun _ hk => hk) trivial (Below.refl _ _) (Nat.le_refl _) (by simp) ?_; (case hd => rfl); (case hg => rfl); (case hr => first | (go_simp; done) | (go_simp; rfl)); (case hp => exact (Reps.one (show Kd.M Kd.string _ _ _ wd [.string wd] from rfl) (Reps.none _ _)))
       intro v9 w3 ho hb hg_ hnew_
       have U0 := Aside0.mk (blk_below Y0.out hb)
       have UB := Aside0.mk (YB.out.trans (hb.mono YB.out.size))
       have UR := Aside0.mk (Kd.R_lower ho YB.out.size)
       have p0 : w3.cell? ⟨w.heap.size, 0, none⟩ = some (.int .i64 F) := cell_of U0.out rfl
       have p1 : w3.cell? ⟨w.heap.size, 1, none⟩ = some (.slice A1 B.length c1) := cell_of U0.out rfl
       have p2 : w3.cell? ⟨w.heap.size, 2, none⟩ = some (.slice A2 Nm.length c2) := cell_of U0.out rfl
       have p3 : w3.cell? ⟨w.heap.size, 3, none⟩ = some (.string T) := cell_of U0.out rfl
       clear ho hb hg_ hnew_ Y0 YB))
  clear p0 p1 p2 p3
  go_loopw [3, 5, 19] (fun v3 v5 v19 wr => ∃ (i : Nat) (xs : List ByteArray), v19 = .int .i64 i ∧ i ≤ Nm.length ∧ Aside0 (wr.heap[w.heap.size]? = some (.cells #[.int .i64 F, .slice A1 B.length c1, .slice A2 Nm.length c2, .string T] 54 (0, 0)))
      ∧ Aside0 (Kd.R Kd.string 9 wr w.heap.size (fun _ => True) v3 xs) ∧ Aside0 (xs.length = i + 1) ∧ Aside0 (Below w.heap.size w wr) ∧ Aside0 (numsFrom [wd] Nm = numsFrom xs (Nm.drop i)))
    (fun _ _ v19 _ => Nm.length - (intOf v19).toNat)
  case atStart => exact ⟨0, [wd], rfl, Nat.zero_le _, U0, UR, ⟨rfl⟩, UB, ⟨rfl⟩⟩
  case round =>
    obtain ⟨i, xs, rfl, hi, G0, HO, HX, HB, HA⟩ := hrel
    clear U0 UR UB
    by_cases hlt : i < Nm.length
    · have i1 : decide ((i : Int) < (Nm.length : Int)) = true := decide_eq_true (by omega)
      have i2 : (i : Int) < (Nm.length : Int) := by omega
      obtain ⟨n, hn⟩ : ∃ n, Nm.getD i 0 = n := ⟨_, rfl⟩
      have hd := getD_drop Nm i hlt
      rw [hn] at hd
      obtain ⟨ad, cs, rfl, _, hK, hcell⟩ := Kd.C_get (Kd.C_below H2.out HB.out) 0 i (by omega) i2
      have hK' : cs = [.int .i64 n] := by rw [← hn]; exact hK
      subst hK'
      have hcl := hcell 0 (.int .i64 n) rfl
      have q1 : wr.cell? (ad.add i) = some (.int .i64 n) := by simpa [Kd.int, Kd.scalar] using hcl
      have ha := HA.out
      rw [hd, numsFrom] at ha
      have hh := HH.out
      cases hf : op_count.f n with
      | none =>
        rw [ha, hf] at hh
        cases hh
      | some rr =>
      rw [hf, Option.bind_some] at ha
      have HA2 := Aside0.mk ha
      have HWR := Aside0.mk (show wrap64 ((i : Int) + 1) = ((i + 1 : Nat) : Int) from by have h1 := HSZ.out; unfold wrap64; omega)
      have CC := Aside0.mk (op_count.calls n rr wr (HL.out.below HB.out) hf)
      clear ha hh hf hd hn hK hcell HA hcl
      go_wp2_with (fail)
      refine CC.out.mono ?_
      rintro _ w6 ⟨rfl, hb6⟩
      have N0 := Aside0.mk (blk_below G0.out hb6)
      have NO := Aside0.mk (Kd.R_below HO.out hb6)
      have NB := Aside0.mk (HB.out.trans (hb6.mono HB.out.size))
      clear hb6 G0 HO HB CC q1
      go_wp2_with (first
        | ((with_reducible refine gate_builtin (b := .append) (xs := #[.tmp 23, .tmp 26]) rfl ?_); at_builtin; refine Kd.R_append Kd.string (w0 := w) w.heap.size rfl (.tmp 23) (.tmp 26) 84 9 (.string ⟨#[]⟩) 16 rfl Tryd.underlying84 info9 rfl (by decide) (by omega) u3 xs rr [.string rr] (fun _ => True) (fun _ => False) rfl rfl ?aP (fun _ hk => hk.elim) ?aF ?aO ?aB ?aS ?aL ?_; (case aP => exact rfl); (case aB => exact NB.out); (case aF => exact (fun _ _ => trivial)); (case aO => exact NO.out); (case aS => exact NB.out.size); (case aL => have h1 := HX.out; have h2 := HSZ.out; omega)
           intro v40 w7 ho hb hg hat
           have M0 := Aside0.mk ((hg.block _ (Array.getElem?_eq_some_iff.1 N0.out).1 (Kd.R_ne NO.out N0.out (by decide))).trans N0.out)
           have MO := Aside0.mk ho
           have MB := Aside0.mk hb
           clear ho hb hg hat N0 NO NB))
      exact ⟨⟨i + 1, xs ++ [rr], by rw [HWR.out], by omega, M0, MO, ⟨by rw [List.length_append, HX.out]; rfl⟩, MB, HA2⟩, by show Nm.length - (intOf (.int .i64 (wrap64 ((i : Int) + 1)))).toNat < _; rw [HWR.out]; simp only [intOf]; omega⟩
    · have i1 : decide ((i : Int) < (Nm.length : Int)) = false := decide_eq_false (by omega)
      have ha := HA.out
      rw [List.drop_eq_nil_of_le (by omega), numsFrom] at ha
      have hh := HH.out
      rw [ha, Option.bind_some] at hh
      have hxl : xs.length ≤ 1000000 := by rw [HX.out]; have := HSZ.out.2.1; omega
      obtain ⟨A5, c5, rfl, hc5, hC5⟩ := Kd.R_reads HO.out
      have CT := Aside0.mk (slices_Contains_string_string.calls (xs.length + 1) A5 c5 xs ⟨#[]⟩ (emptyIn xs) wr hC5 hc5 (contains_eq xs ⟨#[]⟩ hxl))
      have HXL := Aside0.mk hxl
      clear ha HA HH hc5 hC5 hxl i1
      have i1 : decide ((i : Int) < (Nm.length : Int)) = false := decide_eq_false (by omega)
      go_wp2_with (fail)
      refine CT.out.mono ?_
      rintro _ w6 ⟨rfl, hd6⟩
      have hb6 := hd6.below
      clear hd6
      have N0 := Aside0.mk (blk_below G0.out hb6)
      have NO := Aside0.mk (Kd.R_below HO.out hb6)
      have NB := Aside0.mk (HB.out.trans (hb6.mono HB.out.size))
      have N1 := Aside0.mk (Kd.C_below (Kd.C_below H1.out HB.out) hb6)
      clear hb6 G0 HO HB CT
      have p1 : w6.cell? ⟨w.heap.size, 1, none⟩ = some (.slice A1 B.length c1) := cell_of N0.out rfl
      have p3 : w6.cell? ⟨w.heap.size, 3, none⟩ = some (.string T) := cell_of N0.out rfl
      by_cases hem : emptyIn xs = true
      · rw [if_pos hem] at hh
        obtain rfl := Option.some.inj hh
        rw [hem]
        clear hh hem
        go_wp2_with (fail)
        go_ret
        exact ⟨rfl, NB.out⟩
      have hem0 : emptyIn xs = false := by simpa using hem
      rw [if_neg hem] at hh
      rw [hem0]
      clear hem hem0
      by_cases hT : T = ⟨#[]⟩
      · have eT : T.toList.isEmpty = true := by rw [hT, Lib.toList_data]; rfl
        rw [if_pos hT] at hh
        by_cases hB : B.length = 0
        · have e5 : decide ((B.length : Int) > 0) = false := decide_eq_false (by omega)
          have e6 : decide (0 < (B.length : Int)) = false := e5
          have e7 : decide (0 < B.length) = false := decide_eq_false (by omega)
          unfold tellEnd at hh
          rw [if_pos hB, Option.bind_some] at hh
          simp only [if_pos hT] at hh
          by_cases hj0 : ¬ (joinW xs).size ≤ 1000000
          · rw [if_neg hj0] at hh; cases hh
          have hj : (joinW xs).size ≤ 1000000 := Decidable.not_not.mp hj0
          rw [if_pos hj] at hh
          obtain rfl := Option.some.inj hh
          clear hj0 hh
          have HJ := Aside0.mk hj
          clear hj hB hT
          obtain ⟨b5, c6, hve, hc6, hb5, hcells⟩ := rowOf NO.out (by rw [HX.out]; omega)
          obtain ⟨rfl, _, rfl⟩ := Value.slice.inj hve
          go_wp2_with (fail)
          refine (join_calls b5 c5 xs (xs.length) (by simp) w6 hcells hb5 hc6 HJ.out (by have h1 := HXL.out; simp; omega)).mono ?_
          clear hcells
          rintro _ wz ⟨rfl, hbz⟩
          go_wp2_with (fail)
          go_ret
          exact ⟨rfl, NB.out.trans (hbz.mono NB.out.size)⟩
        · have e5 : decide ((B.length : Int) > 0) = true := decide_eq_true (by omega)
          have e6 : decide (0 < (B.length : Int)) = true := e5
          have e7 : decide (0 < B.length) = true := decide_eq_true (by omega)
          unfold tellEnd at hh
          rw [if_neg hB] at hh
          cases hpr : hex_Print.f B with
          | none => rw [hpr] at hh; cases hh
          | some hx =>
          rw [hpr, Option.bind_some, Option.bind_some] at hh
          have HHX := Aside0.mk (hexPrint_size hpr)
          have HP := Aside0.mk (hex_Print.calls A1 c1 B hx w6 N1.out HC1.out hpr)
          have s1 : ¬ 9223372036854775807 < 1 + hx.size := by have := HHX.out; omega
          clear hpr
          simp only [if_pos hT] at hh
          by_cases hj0 : ¬ (joinW (xs ++ [(⟨#[35]⟩ : ByteArray) ++ hx])).size ≤ 1000000
          · rw [if_neg hj0] at hh; cases hh
          have hj : (joinW (xs ++ [(⟨#[35]⟩ : ByteArray) ++ hx])).size ≤ 1000000 := Decidable.not_not.mp hj0
          rw [if_pos hj] at hh
          obtain rfl := Option.some.inj hh
          clear hj0 hh
          have HJ := Aside0.mk hj
          clear hj hB hT
          go_wp2_with (fail)
          refine HP.out.mono ?_
          rintro _ w9 ⟨rfl, hb9⟩
          have K0 := Aside0.mk (blk_below N0.out hb9)
          have KO := Aside0.mk (Kd.R_below NO.out hb9)
          have KB := Aside0.mk (NB.out.trans (hb9.mono NB.out.size))
          clear hb9
          go_wp2_with (first
        | ((with_reducible refine gate_builtin (b := .append) (xs := #[.tmp 46, .tmp 51]) rfl ?_); at_builtin; refine Kd.R_append Kd.string (w0 := w) w.heap.size rfl (.tmp 46) (.tmp 51) 84 9 (.string ⟨#[]⟩) 16 rfl Tryd.underlying84 info9 rfl (by decide) (by omega) (.slice A5 xs.length c5) xs ((⟨#[35]⟩ : ByteArray) ++ hx) [.string ((⟨#[35]⟩ : ByteArray) ++ hx)] (fun _ => True) (fun _ => False) rfl rfl ?aP (fun _ hk => hk.elim) ?aF ?aO ?aB ?aS ?aL ?_; (case aP => exact rfl); (case aB => exact KB.out); (case aF => exact (fun _ _ => trivial)); (case aO => exact KO.out); (case aS => exact KB.out.size); (case aL => have h1 := HXL.out; omega)
           intro v50 w50 ho hb hg hat
           have M50 := Aside0.mk ((hg.block _ (Array.getElem?_eq_some_iff.1 K0.out).1 (Kd.R_ne KO.out K0.out (by decide))).trans K0.out)
           have R50 := Aside0.mk ho
           have B50 := Aside0.mk hb
           have d50 : w50.cell? ⟨w.heap.size, 3, none⟩ = some (.string T) := cell_of M50.out rfl
           clear ho hb hg hat
           obtain ⟨b5, c6, rfl, hc6, hb5, hcells⟩ := rowOf R50.out (by simp)))
          refine (join_calls b5 c6 (xs ++ [(⟨#[35]⟩ : ByteArray) ++ hx]) (xs.length + 1) (by simp) w50 hcells hb5 hc6 HJ.out (by have h1 := HXL.out; simp; omega)).mono ?_
          clear hcells
          rintro _ wz ⟨rfl, hbz⟩
          go_wp2_with (fail)
          go_ret
          exact ⟨rfl, B50.out.trans (hbz.mono B50.out.size)⟩
      · have eT := isEmpty_false hT
        rw [if_neg hT] at hh
        cases hpt : op_part.f T with
        | none => rw [hpt] at hh; cases hh
        | some p =>
        rw [hpt, Option.bind_some] at hh
        have PC := Aside0.mk (op_part.calls T p w6 hpt)
        clear hpt
        go_wp2_with (fail)
        refine PC.out.mono ?_
        rintro _ w8 ⟨rfl, hb8⟩
        have Q0 := Aside0.mk (blk_below N0.out hb8)
        have QO := Aside0.mk (Kd.R_below NO.out hb8)
        have QB := Aside0.mk (NB.out.trans (hb8.mono NB.out.size))
        have Q1 := Aside0.mk (Kd.C_below N1.out hb8)
        clear hb8 p1 p3 PC
        have p1 : w8.cell? ⟨w.heap.size, 1, none⟩ = some (.slice A1 B.length c1) := cell_of Q0.out rfl
        have p3 : w8.cell? ⟨w.heap.size, 3, none⟩ = some (.string T) := cell_of Q0.out rfl
        by_cases hp : p = ⟨#[]⟩
        · rw [if_pos hp] at hh
          obtain rfl := Option.some.inj hh
          have ep : p.toList.isEmpty = true := by rw [hp, Lib.toList_data]; rfl
          clear hh hp hT
          go_wp2_with (fail)
          go_ret
          exact ⟨rfl, QB.out⟩
        · rw [if_neg hp] at hh
          have ep := isEmpty_false hp
          clear hp
          by_cases hB : B.length = 0
          · have e5 : decide ((B.length : Int) > 0) = false := decide_eq_false (by omega)
            have e6 : decide (0 < (B.length : Int)) = false := e5
            have e7 : decide (0 < B.length) = false := decide_eq_false (by omega)
            unfold tellEnd at hh
            rw [if_pos hB, Option.bind_some] at hh
            simp only [if_neg hT] at hh
            by_cases hj0 : ¬ (joinW (xs ++ [(⟨#[61]⟩ : ByteArray) ++ T])).size ≤ 1000000
            · rw [if_neg hj0] at hh; cases hh
            have hj : (joinW (xs ++ [(⟨#[61]⟩ : ByteArray) ++ T])).size ≤ 1000000 := Decidable.not_not.mp hj0
            rw [if_pos hj] at hh
            obtain rfl := Option.some.inj hh
            clear hj0 hh
            have s2 : ¬ 9223372036854775807 < 1 + T.size := by have := HSZ.out.2.2; omega
            have HJ := Aside0.mk hj
            clear hj hB hT
            go_wp2_with (first
        | ((with_reducible refine gate_builtin (b := .append) (xs := #[.tmp 56, .tmp 60]) rfl ?_); at_builtin; refine Kd.R_append Kd.string (w0 := w) w.heap.size rfl (.tmp 56) (.tmp 60) 84 9 (.string ⟨#[]⟩) 16 rfl Tryd.underlying84 info9 rfl (by decide) (by omega) (.slice A5 xs.length c5) xs ((⟨#[61]⟩ : ByteArray) ++ T) [.string ((⟨#[61]⟩ : ByteArray) ++ T)] (fun _ => True) (fun _ => False) rfl rfl ?aP (fun _ hk => hk.elim) ?aF ?aO ?aB ?aS ?aL ?_; (case aP => exact rfl); (case aB => exact QB.out); (case aF => exact (fun _ _ => trivial)); (case aO => exact QO.out); (case aS => exact QB.out.size); (case aL => have h1 := HXL.out; omega)
           intro v60 w60 ho hb hg hat
           have M60 := Aside0.mk ((hg.block _ (Array.getElem?_eq_some_iff.1 Q0.out).1 (Kd.R_ne QO.out Q0.out (by decide))).trans Q0.out)
           have R60 := Aside0.mk ho
           have B60 := Aside0.mk hb
           have d60 : w60.cell? ⟨w.heap.size, 3, none⟩ = some (.string T) := cell_of M60.out rfl
           clear ho hb hg hat
           obtain ⟨b5, c6, rfl, hc6, hb5, hcells⟩ := rowOf R60.out (by simp)))
            refine (join_calls b5 c6 (xs ++ [(⟨#[61]⟩ : ByteArray) ++ T]) (xs.length + 1) (by simp) w60 hcells hb5 hc6 HJ.out (by have h1 := HXL.out; simp; omega)).mono ?_
            clear hcells
            rintro _ wz ⟨rfl, hbz⟩
            go_wp2_with (fail)
            go_ret
            exact ⟨rfl, B60.out.trans (hbz.mono B60.out.size)⟩
          · have e5 : decide ((B.length : Int) > 0) = true := decide_eq_true (by omega)
            have e6 : decide (0 < (B.length : Int)) = true := e5
            have e7 : decide (0 < B.length) = true := decide_eq_true (by omega)
            unfold tellEnd at hh
            rw [if_neg hB] at hh
            cases hpr : hex_Print.f B with
            | none => rw [hpr] at hh; cases hh
            | some hx =>
            rw [hpr, Option.bind_some, Option.bind_some] at hh
            have HHX := Aside0.mk (hexPrint_size hpr)
            have HP := Aside0.mk (hex_Print.calls A1 c1 B hx w8 Q1.out HC1.out hpr)
            have s1 : ¬ 9223372036854775807 < 1 + hx.size := by have := HHX.out; omega
            clear hpr
            simp only [if_neg hT] at hh
            by_cases hj0 : ¬ (joinW ((xs ++ [(⟨#[35]⟩ : ByteArray) ++ hx]) ++ [(⟨#[61]⟩ : ByteArray) ++ T])).size ≤ 1000000
            · rw [if_neg hj0] at hh; cases hh
            have hj : (joinW ((xs ++ [(⟨#[35]⟩ : ByteArray) ++ hx]) ++ [(⟨#[61]⟩ : ByteArray) ++ T])).size ≤ 1000000 := Decidable.not_not.mp hj0
            rw [if_pos hj] at hh
            obtain rfl := Option.some.inj hh
            clear hj0 hh
            have s2 : ¬ 9223372036854775807 < 1 + T.size := by have := HSZ.out.2.2; omega
            have HJ := Aside0.mk hj
            clear hj hB hT
            go_wp2_with (fail)
            refine HP.out.mono ?_
            rintro _ w9 ⟨rfl, hb9⟩
            have K0 := Aside0.mk (blk_below Q0.out hb9)
            have KO := Aside0.mk (Kd.R_below QO.out hb9)
            have KB := Aside0.mk (QB.out.trans (hb9.mono QB.out.size))
            clear hb9
            go_wp2_with (first
        | ((with_reducible refine gate_builtin (b := .append) (xs := #[.tmp 46, .tmp 51]) rfl ?_); at_builtin; refine Kd.R_append Kd.string (w0 := w) w.heap.size rfl (.tmp 46) (.tmp 51) 84 9 (.string ⟨#[]⟩) 16 rfl Tryd.underlying84 info9 rfl (by decide) (by omega) (.slice A5 xs.length c5) xs ((⟨#[35]⟩ : ByteArray) ++ hx) [.string ((⟨#[35]⟩ : ByteArray) ++ hx)] (fun _ => True) (fun _ => False) rfl rfl ?aP (fun _ hk => hk.elim) ?aF ?aO ?aB ?aS ?aL ?_; (case aP => exact rfl); (case aB => exact KB.out); (case aF => exact (fun _ _ => trivial)); (case aO => exact KO.out); (case aS => exact KB.out.size); (case aL => have h1 := HXL.out; omega)
           intro v50 w50 ho hb hg hat
           have M50 := Aside0.mk ((hg.block _ (Array.getElem?_eq_some_iff.1 K0.out).1 (Kd.R_ne KO.out K0.out (by decide))).trans K0.out)
           have R50 := Aside0.mk ho
           have B50 := Aside0.mk hb
           have d50 : w50.cell? ⟨w.heap.size, 3, none⟩ = some (.string T) := cell_of M50.out rfl
           clear ho hb hg hat)
        | ((with_reducible refine gate_builtin (b := .append) (xs := #[.tmp 56, .tmp 60]) rfl ?_); at_builtin; refine Kd.R_append Kd.string (w0 := w) w.heap.size rfl (.tmp 56) (.tmp 60) 84 9 (.string ⟨#[]⟩) 16 rfl Tryd.underlying84 info9 rfl (by decide) (by omega) v50 (xs ++ [(⟨#[35]⟩ : ByteArray) ++ hx]) ((⟨#[61]⟩ : ByteArray) ++ T) [.string ((⟨#[61]⟩ : ByteArray) ++ T)] (fun _ => True) (fun _ => False) rfl rfl ?aP (fun _ hk => hk.elim) ?aF ?aO ?aB ?aS ?aL ?_; (case aP => exact rfl); (case aB => exact B50.out); (case aF => exact (fun _ _ => trivial)); (case aO => exact R50.out); (case aS => exact B50.out.size); (case aL => have h1 := HXL.out; rw [List.length_append, List.length_singleton]; omega)
           intro v60 w60 ho hb hg hat
           have M60 := Aside0.mk ((hg.block _ (Array.getElem?_eq_some_iff.1 M50.out).1 (Kd.R_ne R50.out M50.out (by decide))).trans M50.out)
           have R60 := Aside0.mk ho
           have B60 := Aside0.mk hb
           have d60 : w60.cell? ⟨w.heap.size, 3, none⟩ = some (.string T) := cell_of M60.out rfl
           clear ho hb hg hat
           obtain ⟨b5, c6, rfl, hc6, hb5, hcells⟩ := rowOf R60.out (by simp)))
            refine (join_calls b5 c6 ((xs ++ [(⟨#[35]⟩ : ByteArray) ++ hx]) ++ [(⟨#[61]⟩ : ByteArray) ++ T]) (xs.length + 1 + 1) (by simp) w60 hcells hb5 hc6 HJ.out (by have h1 := HXL.out; simp; omega)).mono ?_
            clear hcells
            rintro _ wz ⟨rfl, hbz⟩
            go_wp2_with (fail)
            go_ret
            exact ⟨by rw [List.append_assoc]; rfl, B60.out.trans (hbz.mono B60.out.size)⟩
end Go.Proofs.YtdcknajlioalgaaDoor.QD
namespace Go.Proofs.YtdcknajlioalgaaDoor.QD
open Go.RowKit Go.Proofs.YtdcknajlioalgaaDoorW.PrintWords Go.Proofs.YtdcknajlioalgaaDoorW.PrintLast Go.Proofs.YtdcknajlioalgaaDoorW.PrintMore Go.Proofs.YtdcknajlioalgaaDoor.Hex
set_option linter.unusedVariables false
set_option linter.unusedSimpArgs false
def lookA : OpV := ⟨9, ⟨#[97]⟩, ⟨#[]⟩, 0, 0, 0, 0, []⟩
theorem look_parse : opParse ⟨#[108, 111, 111, 107, 32, 97]⟩ = some (lookA, 0) := by
  unfold opParse
  rw [if_pos (by decide), splitO_cut]
  kernel_rfl
theorem nums_tell : tellP 0 [] [3, 2, 1] ⟨#[]⟩ = some ⟨#[111, 107, 32, 51, 32, 50, 32, 49]⟩ := by
  have d : ∀ n : Nat, n < 10 → op_count.f (n : Int) = some ⟨#[UInt8.ofNat (48 + n)]⟩ := fun n hn => by
    unfold op_count.f num_Print.f
    rw [if_neg (by omega), if_neg (by omega), if_pos (by omega), Lib.itoa_nonneg, Lib.decDigits, dif_pos hn]
    rfl
  unfold tellP
  rw [if_neg (by decide), if_pos (by decide)]
  have d3 := d 3 (by decide)
  have d2 := d 2 (by decide)
  have d1 := d 1 (by decide)
  rw [numsFrom, show op_count.f 3 = _ from d3, Option.bind_some, numsFrom, show op_count.f 2 = _ from d2, Option.bind_some, numsFrom, show op_count.f 1 = _ from d1, Option.bind_some, numsFrom, Option.bind_some]
  clear d d1 d2 d3
  decide +kernel
theorem alive_calls (w : World) (HLD : Laid w) : Calls Tryd.prog 14 #[] w fun e w' => e = .returned (.bool true) ∧ Below w.heap.size w w' := by
  have hu28 := Tryd.underlying28
  have hu29 := Tryd.underlying29
  have hu54 := Tryd.underlying54
  have HL := Aside0.mk HLD
  clear HLD
  go_enter Tryd.func14, Tryd.ntmps14
  go_wp2_with (fail)
  refine (opParse_calls _ lookA 0 w HL.out look_parse).mono ?_
  rintro _ w2 ⟨v, rfl, hr, hb⟩
  obtain ⟨A, c, rfl, hc, hC⟩ := Kd.R_reads hr
  have Z0 := Aside0.mk (heap_alloc_new w2 (.cells (lookA.cells (.slice A lookA.X.length c)) 28))
  have ZB := Aside0.mk (below_alloc hb (.cells (lookA.cells (.slice A lookA.X.length c)) 28))
  clear hr hc hC hb
  have p0 : (w2.alloc (.cells (lookA.cells (.slice A lookA.X.length c)) 28)).cell? ⟨w2.heap.size, 0, none⟩ = some (.int .i64 9) := cell_of Z0.out rfl
  have p1 : (w2.alloc (.cells (lookA.cells (.slice A lookA.X.length c)) 28)).cell? ⟨w2.heap.size, 1, none⟩ = some (.string ⟨#[97]⟩) := cell_of Z0.out rfl
  go_wp2_with (first
    | ((with_reducible refine gate_ (.store 28 (.tmp 1) (.tmp 5)) rfl ?_); go_loud (refine wpList_store_row rfl 28 (.tmp 1) (.tmp 5) rfl w2.heap.size (lookA.cells (.slice A lookA.X.length c)) rfl rfl 28 _ (heap_alloc_new _ _) (by kernel_rfl) rfl (by kernel_rfl) ?_); rw [World.setRow_alloc_new]))
  have hC3 : Kd.C (Kd.int .i64) ((w2.alloc (.cells (lookA.cells (.slice A lookA.X.length c)) 28)).alloc (.cells #[.int .i64 3, .int .i64 2, .int .i64 1] 3)) (some ⟨w2.heap.size + 1, 0, none⟩) 3 [3, 2, 1] := by
    have hnew := heap_alloc_new (w2.alloc (.cells (lookA.cells (.slice A lookA.X.length c)) 28)) (.cells #[.int .i64 3, .int .i64 2, .int .i64 1] 3)
    rw [size_alloc] at hnew
    refine Kd.C_of_reads (enc := Value.int .i64) (d := 0) ⟨rfl, by decide, fun _ => ⟨_, rfl, fun j hj => ?_⟩⟩
    rw [add_plain]
    rcases (show j = 0 ∨ j = 1 ∨ j = 2 by omega) with rfl | rfl | rfl <;> exact cell_of hnew rfl
  refine (tell_calls 0 [] [3, 2, 1] ⟨#[]⟩ none (some ⟨w2.heap.size + 1, 0, none⟩) 0 3 _ _ (HL.out.below (below_alloc ZB.out _)) (Kd.C_nil _ _) (Nat.le_refl _) hC3 (Nat.le_refl _) nums_tell).mono ?_
  rintro _ w5 ⟨rfl, hb5⟩
  have HB := Aside0.mk ((below_alloc ZB.out (.cells #[.int .i64 3, .int .i64 2, .int .i64 1] 3)).trans (hb5.mono (below_alloc ZB.out _).size))
  clear hb5 hC3
  go_wp2_with (fail)
  go_ret
  exact ⟨rfl, HB.out⟩
end Go.Proofs.YtdcknajlioalgaaDoor.QD
namespace Go.Proofs.YtdcknajlioalgaaDoor.QD
open Go.RowKit Go.Proofs.YtdcknajlioalgaaDoorW.PrintWords Go.Proofs.YtdcknajlioalgaaDoorW.PrintLast Go.Proofs.YtdcknajlioalgaaDoorW.PrintMore Go.Proofs.YtdcknajlioalgaaDoor.Hex
set_option linter.unusedVariables false
set_option linter.unusedSimpArgs false
theorem same_self (a : OpV) : a.same a = true := by
  unfold OpV.same op_same.f num_Same.f bytes_Equal.f
  simp
def OpV.light (o : OpV) : Bool := decide (o.G.size ≤ 100 ∧ o.I.size ≤ 100 ∧ o.X.length ≤ 100)
def OpV.rec28 (o : OpV) : S28 := ⟨o.K, o.G, o.I, o.E, o.S, o.N, o.V, o.X⟩
theorem light_eq (o : OpV) : oubliettelaw37_Light.f 3 [o.rec28] = some o.light := by
  have h0 : rd_T28 [o.rec28] 0 = o.rec28 := rfl
  have hw : wrap64 (0 + 1) = 1 := by unfold wrap64; omega
  unfold oubliettelaw37_Light.f
  rw [if_neg (by simp), oubliettelaw37_Light.l0, if_pos (by simp), if_pos (by decide), h0]
  show (if (o.G.size : Int) > 100 then some false else if (o.I.size : Int) > 100 then some false else if (o.X.length : Int) > 100 then some false else oubliettelaw37_Light.l0 2 [o.rec28] (wrap64 (0 + 1))) = _
  unfold OpV.light
  by_cases c1 : (o.G.size : Int) > 100
  · rw [if_pos c1, decide_eq_false (by omega)]
  rw [if_neg c1]
  by_cases c2 : (o.I.size : Int) > 100
  · rw [if_pos c2, decide_eq_false (by omega)]
  rw [if_neg c2]
  by_cases c3 : (o.X.length : Int) > 100
  · rw [if_pos c3, decide_eq_false (by omega)]
  rw [if_neg c3, decide_eq_true (by omega), hw, oubliettelaw37_Light.l0, if_neg (by simp)]
theorem one28 (w : World) (o : OpV) (A : Option Addr) (c b : Nat) (hc : o.X.length ≤ c) (hr : Kd.C (Kd.int .u8) w A o.X.length o.X) (hb : w.heap[b]? = some (.cells (o.cells (.slice A o.X.length c)) 28 (0, 0))) :
    Kd.C k28 w (some ⟨b, 0, none⟩) 1 [o.rec28] := by
  refine ⟨rfl, by decide, fun _ => ⟨_, rfl, fun j p hj => ?_⟩⟩
  have hj0 : j = 0 := by
    have := (List.getElem?_eq_some_iff.1 hj).1
    simpa using this
  subst hj0
  obtain rfl : o.rec28 = p := Option.some.inj hj
  refine ⟨_, rfl, k28_mk w o.rec28 (A7 := A) (c7 := c) hc hr, fun i u hu => ?_⟩
  rw [add_plain]
  have hi : i < 8 := (List.getElem?_eq_some_iff.1 hu).1
  refine cell_of hb ?_
  rw [← hu]
  rcases (show i = 0 ∨ i = 1 ∨ i = 2 ∨ i = 3 ∨ i = 4 ∨ i = 5 ∨ i = 6 ∨ i = 7 by omega) with rfl | rfl | rfl | rfl | rfl | rfl | rfl | rfl <;> rfl
end Go.Proofs.YtdcknajlioalgaaDoor.QD
