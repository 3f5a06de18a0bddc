/- ptext: what is shown is read back; what is read is shown. -/
import Derived.Test.YtmhdcjjcddpciaaUg
namespace Go.Proofs.Ytmhdcjjcddpciaa
set_option linter.unusedSimpArgs false
set_option linter.unusedVariables false
open Go.RowKit
theorem pre_get {l s : List Nat} {a i c : Nat} (h : s <+: l.drop a) (hi : s[i]? = some c) : l[a + i]? = some c := by
  obtain ⟨r, hr⟩ := h
  have hl : i < s.length := (List.getElem?_eq_some_iff.1 hi).1
  have : (l.drop a)[i]? = some c := by rw [← hr, List.getElem?_append_left hl]; exact hi
  rwa [List.getElem?_drop] at this
theorem pre_left {l s r : List Nat} {a : Nat} (h : s ++ r <+: l.drop a) : s <+: l.drop a := (List.prefix_append s r).trans h
theorem pre_right {l s r : List Nat} {a : Nat} (h : s ++ r <+: l.drop a) : r <+: l.drop (a + s.length) := by
  obtain ⟨q, hq⟩ := h
  refine ⟨q, ?_⟩
  rw [← List.drop_drop, ← hq, List.append_assoc, List.drop_left]
theorem pre_join {l s r : List Nat} {a : Nat} (h : s <+: l.drop a) (h2 : r <+: l.drop (a + s.length)) : s ++ r <+: l.drop a := by
  obtain ⟨q, hq⟩ := h
  rw [← List.drop_drop, ← hq, List.drop_left] at h2
  obtain ⟨q2, hq2⟩ := h2
  exact ⟨q2, by rw [← hq, ← hq2, List.append_assoc]⟩
theorem pre_cons {l : List Nat} {a c : Nat} (h : l[a]? = some c) : [c] <+: l.drop a := by
  have hl := (List.getElem?_eq_some_iff.1 h).1
  rw [List.drop_eq_getElem_cons hl, (List.getElem?_eq_some_iff.1 h).2]
  exact ⟨_, rfl⟩
theorem sword_pre (l : List Nat) : ∀ (cs : List Nat) (a : Nat), cs <+: l.drop a → sword l a cs = (a + cs.length, true)
  | [], a, _ => rfl
  | c :: cs, a, h => by
    rw [sword, if_pos (by simpa using pre_get (i := 0) h rfl), sword_pre l cs (a + 1) (pre_right (s := [c]) h), List.length_cons]
    congr 1
    omega
theorem sword_true (l : List Nat) : ∀ (cs : List Nat) (a : Nat), (sword l a cs).2 = true → cs <+: l.drop a
  | [], a, _ => List.nil_prefix
  | c :: cs, a, h => by
    rw [sword] at h
    split at h
    · rename_i hc
      exact pre_join (s := [c]) (pre_cons hc) (sword_true l cs (a + 1) h)
    · cases h
theorem Dg.form {l : List Nat} {f j : Nat} (h : Dg l f j) (hj : 0 < j) : formB ((l.drop f).take j) = true ∧ neg ((l.drop f).take j) = false ∧ strip ((l.drop f).take j) = (l.drop f).take j := by
  obtain ⟨ha, hl⟩ := h.all
  have hlead : ((l.drop f).take j).head? = l[f]? := by
    rw [List.head?_eq_getElem?, List.getElem?_take_of_lt hj, List.getElem?_drop]; rfl
  have h45 : ((l.drop f).take j).head? ≠ some 45 := by
    intro he
    cases hd : (l.drop f).take j with
    | nil => rw [hd] at hl; simp at hl; omega
    | cons x xs =>
      rw [hd] at he ha
      simp at he
      subst he
      simp [dig] at ha
  have hst : strip ((l.drop f).take j) = (l.drop f).take j := by unfold strip; rw [if_neg h45]
  have hng : neg ((l.drop f).take j) = false := by unfold neg; simpa using h45
  refine ⟨?_, hng, hst⟩
  unfold formB
  rw [hst]
  by_cases h0 : (l.drop f).take j = [48]
  · rw [h0]; rfl
  · have hne : (l.drop f).take j ≠ [] := by intro he; rw [he] at hl; simp at hl; omega
    have h48 : ((l.drop f).take j).head? ≠ some 48 := by
      intro he
      rcases Nat.lt_or_ge 1 j with h1 | h1
      · exact h.lead h1 (by rw [← hlead]; exact he)
      · have : j = 1 := by omega
        subst this
        apply h0
        cases hd : (l.drop f).take 1 with
        | nil => exact absurd hd hne
        | cons x xs =>
          rw [hd] at he hl
          simp at he hl
          rw [he, hl]
    have hok : okD ((l.drop f).take j) = true := by
      unfold okD
      rw [ha]
      simp only [Bool.and_true, Bool.and_eq_true, Bool.not_eq_true', bne_iff_ne, ne_eq]
      exact ⟨by simpa using hne, h48⟩
    rw [hok, Bool.or_true]
theorem Dg.run {l : List Nat} {f : Nat} : ∀ (m j : Nat), 4 - j ≤ m → Dg l f j → ∃ j', j ≤ j' ∧ Dg l f j' ∧ nameEnd l f = f + j'
  | 0, j, hm, h => ⟨j, Nat.le_refl _, h, h.stop (.inl (by have := h.le; omega))⟩
  | m + 1, j, hm, h => by
    by_cases h4 : j = 4
    · exact ⟨j, Nat.le_refl _, h, h.stop (.inl h4)⟩
    by_cases hd : isDig l[f + j]? = true
    · by_cases h0 : 0 < j ∧ l[f]? = some 48
      · exact ⟨j, Nat.le_refl _, h, h.stop (.inr (.inr h0))⟩
      · have hle := h.le
        obtain ⟨j', h1, h2, h3⟩ := Dg.run m (j + 1) (by omega) (h.step (by omega) hd (by
          rcases Nat.eq_zero_or_pos j with hj | hj
          · exact .inl hj
          · exact .inr fun e => h0 ⟨hj, e⟩))
        exact ⟨j', by omega, h2, h3⟩
    · exact ⟨j, Nat.le_refl _, h, h.stop (.inr (.inl (by simpa using hd)))⟩
theorem nameVal_take (l : List Nat) (f j : Nat) : nameVal l f (f + j) = val (ds ((l.drop f).take j)) := by unfold nameVal; rw [show f + j - f = j by omega]
/-- The digits that a name is read from are its number's text. -/
theorem name_txt {l : List Nat} {f : Nat} (h : f < nameEnd l f) : txt (nameVal l f (nameEnd l f)) <+: l.drop f ∧ nameEnd l f = f + (txt (nameVal l f (nameEnd l f))).length := by
  obtain ⟨j, _, hD, he⟩ := Dg.run 4 0 (by omega) (Dg.zero l f)
  have hj : 0 < j := by omega
  obtain ⟨h1, h2, h3⟩ := hD.form hj
  have hs : sval ((l.drop f).take j) = (nameVal l f (nameEnd l f) : Int) := by
    rw [he, nameVal_take]
    unfold sval
    rw [h2, h3]
    simp
  have ht := txt_sval _ h1
  rw [hs] at ht
  rw [ht]
  refine ⟨List.take_prefix _ _, ?_⟩
  rw [he, hD.all.2]
theorem txt_digits {n : Int} (h0 : 0 ≤ n) : (txt n).all dig = true ∧ neg (txt n) = false ∧ strip (txt n) = txt n := by
  have hn : neg (txt n) = false := by rw [txt_neg]; simpa using h0
  have hs : strip (txt n) = txt n := by unfold strip; rw [if_neg (by unfold neg at hn; simpa using hn)]
  refine ⟨?_, hn, hs⟩
  have := txt_strip n
  rw [hs] at this
  rw [this]
  exact dig_all _ (dg_lt _)
/-- A number's text is read as the number, where no digit follows. -/
theorem name_read {l : List Nat} {f : Nat} {n : Int} (h0 : 0 ≤ n) (h1 : n < 100) (hp : txt n <+: l.drop f) (hend : isDig l[f + (txt n).length]? = false) : nameEnd l f = f + (txt n).length ∧ (nameVal l f (nameEnd l f) : Int) = n ∧ 0 < (txt n).length := by
  obtain ⟨hd, hng, hst⟩ := txt_digits h0
  have hl := txt_len h0 h1
  have hpos : 0 < (txt n).length := by
    have := txt_form n
    cases ht : txt n with
    | nil => rw [ht] at this; exact absurd this (by decide)
    | cons _ _ => simp
  have hlead : 2 ≤ (txt n).length → l[f]? ≠ some 48 := fun h2 e => by
    have hf := txt_form n
    unfold formB at hf
    rw [hst] at hf
    have h3 : decide (txt n = [48]) = false := by
      simp only [decide_eq_false_iff_not]
      intro e2; rw [e2] at h2; simp at h2
    rw [h3, Bool.false_or] at hf
    unfold okD at hf
    simp only [Bool.and_eq_true, bne_iff_ne, ne_eq] at hf
    apply hf.1.2
    cases ht : txt n with
    | nil => rw [ht] at hpos; simp at hpos
    | cons c cs =>
      rw [ht] at hp
      have := pre_get (i := 0) hp rfl
      rw [Nat.add_zero, e] at this
      injection this with this
      rw [← this]; rfl
  have run : ∀ j, j ≤ (txt n).length → Dg l f j := fun j => by
    induction j with
    | zero => exact fun _ => Dg.zero l f
    | succ j ih =>
      intro hj
      have hjl : j < (txt n).length := by omega
      have hg := List.getElem?_eq_getElem hjl
      refine (ih (by omega)).step (by omega) ?_ ?_
      · rw [pre_get hp hg]
        have := List.all_eq_true.1 hd _ (List.getElem_mem hjl)
        simpa [isDig, dig] using this
      · rcases Nat.eq_zero_or_pos j with h | h
        · exact .inl h
        · exact .inr (hlead (by omega))
  have hD := run _ (Nat.le_refl _)
  have he := hD.stop (.inr (.inl hend))
  refine ⟨he, ?_, hpos⟩
  rw [he, nameVal_take]
  have ht : (l.drop f).take (txt n).length = txt n := by
    obtain ⟨q, hq⟩ := hp
    rw [← hq, List.take_left]
  rw [ht]
  have := txt_val n
  unfold sval at this
  rw [hng, hst] at this
  simpa using this
end Go.Proofs.Ytmhdcjjcddpciaa
