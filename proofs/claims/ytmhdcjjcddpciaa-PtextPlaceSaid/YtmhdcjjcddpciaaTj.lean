/- ptext: the reader's variable. -/
import Derived.Test.YtmhdcjjcddpciaaTi
namespace Go.Proofs.Ytmhdcjjcddpciaa
set_option linter.unusedSimpArgs false
set_option linter.unusedVariables false
open Go.RowKit
theorem lst_ext (s : ByteArray) (a b : Nat) : lst (s.extract a b) = ((lst s).drop a).take (b - a) := by
  unfold lst
  rw [Lib.extract_data, ← List.map_drop, ← List.map_take]
theorem hasB_digits (o : Option Nat) : hasB (lst ⟨#[48, 49, 50, 51, 52, 53, 54, 55, 56, 57]⟩) o = isDig o := by
  rw [show lst ⟨#[48, 49, 50, 51, 52, 53, 54, 55, 56, 57]⟩ = [48, 49, 50, 51, 52, 53, 54, 55, 56, 57] by decide]
  cases o with
  | none => rfl
  | some c =>
    unfold hasB isDig
    rw [Bool.eq_iff_iff]
    simp only [List.contains_eq_mem, List.mem_cons, List.not_mem_nil, or_false, decide_eq_true_eq, Bool.and_eq_true]
    omega
/-- j digits have been read. -/
structure Dg (l : List Nat) (f j : Nat) : Prop where
  le : j ≤ 4
  all : ((l.drop f).take j).all dig = true ∧ ((l.drop f).take j).length = j
  lead : 2 ≤ j → l[f]? ≠ some 48
  rest : nameEnd l f = sdig l f (4 - j) (f + j)
theorem Dg.zero (l : List Nat) (f : Nat) : Dg l f 0 := ⟨by omega, by simp, by omega, rfl⟩
theorem Dg.step {l : List Nat} {f j : Nat} (h : Dg l f j) (hj : j < 4) (hd : isDig l[f + j]? = true) (h3 : j = 0 ∨ l[f]? ≠ some 48) : Dg l f (j + 1) := by
  cases hc : l[f + j]? with
  | none => rw [hc] at hd; cases hd
  | some c =>
    have hg : (l.drop f)[j]? = some c := by rw [List.getElem?_drop]; exact hc
    refine ⟨by omega, ?_, fun h2 => ?_, ?_⟩
    · rw [List.take_add_one, hg]
      rw [hc] at hd
      have hdc : dig c = true := by simpa [isDig, dig] using hd
      refine ⟨?_, ?_⟩
      · rw [List.all_append, h.all.1]
        simp [hdc]
      · rw [List.length_append, h.all.2]; rfl
    · rcases h3 with h3 | h3
      · omega
      · exact h3
    · rw [h.rest, show 4 - j = (4 - (j + 1)) + 1 by omega, sdig, if_pos ⟨hd, h3.imp (fun e => by omega) id⟩, Nat.add_assoc]
theorem Dg.stop {l : List Nat} {f j : Nat} (h : Dg l f j) (hs : j = 4 ∨ isDig l[f + j]? = false ∨ (0 < j ∧ l[f]? = some 48)) : nameEnd l f = f + j := by
  rw [h.rest]
  have := h.le
  rcases hs with rfl | hs | ⟨h0, hs⟩
  · rfl
  · rcases Nat.eq_zero_or_pos (4 - j) with h4 | h4
    · rw [h4]; rfl
    · obtain ⟨q, hq⟩ : ∃ q, 4 - j = q + 1 := ⟨4 - j - 1, by omega⟩
      rw [hq, sdig, if_neg (by rw [hs]; simp)]
  · rcases Nat.eq_zero_or_pos (4 - j) with h4 | h4
    · rw [h4]; rfl
    · obtain ⟨q, hq⟩ : ∃ q, 4 - j = q + 1 := ⟨4 - j - 1, by omega⟩
      rw [hq, sdig, if_neg]
      rintro ⟨_, h | h⟩
      · omega
      · exact h hs
theorem val_bound (l : List Nat) (h : ∀ d ∈ l, d < 10) : val l < 10 ^ l.length := by
  induction l using snocRec with
  | nil => simp [val]
  | snoc b d ih =>
    rw [val_snoc, List.length_append, List.length_singleton, Nat.pow_succ]
    have h1 := ih fun x hx => h x (List.mem_append_left _ hx)
    have h2 := h d (by simp)
    omega
/-- What num.Parse makes of the digits. -/
theorem Dg.num {l : List Nat} {f j : Nat} (h : Dg l f j) (hj : 0 < j) : prN ((l.drop f).take j) 0 9999 = (nameVal l f (f + j) : Int) := by
  have hn : nameVal l f (f + j) = val (ds ((l.drop f).take j)) := by unfold nameVal; rw [show f + j - f = j by omega]
  rw [hn]
  obtain ⟨ha, hl⟩ := h.all
  have hlead : ((l.drop f).take j).head? = l[f]? := by
    rw [List.head?_eq_getElem?, List.getElem?_take_of_lt hj, List.getElem?_drop]; rfl
  have hb : val (ds ((l.drop f).take j)) ≤ 9999 := by
    have h1 := val_bound (ds ((l.drop f).take j)) (ds_lt _ ha)
    have h2 : (ds ((l.drop f).take j)).length = j := by simp only [ds, List.length_map]; exact hl
    rw [h2] at h1
    have h3 : (10 : Nat) ^ j ≤ 10 ^ 4 := Nat.pow_le_pow_right (by omega) h.le
    omega
  have h45 : ((l.drop f).take j).head? ≠ some 45 := by
    intro he
    cases hd : (l.drop f).take j with
    | nil => rw [hd] at hl; simp at hl; omega
    | cons x xs =>
      rw [hd] at he ha
      simp at he
      subst he
      simp [dig] at ha
  have hst : strip ((l.drop f).take j) = (l.drop f).take j := by unfold strip; rw [if_neg h45]
  have hng : neg ((l.drop f).take j) = false := by unfold neg; simpa using h45
  have hform : formB ((l.drop f).take j) = true := by
    unfold formB
    rw [hst]
    by_cases h0 : (l.drop f).take j = [48]
    · rw [h0]; rfl
    · have hne : (l.drop f).take j ≠ [] := by intro he; rw [he] at hl; simp at hl; omega
      have h48 : ((l.drop f).take j).head? ≠ some 48 := by
        intro he
        rcases Nat.lt_or_ge 1 j with h1 | h1
        · exact h.lead h1 (by rw [← hlead]; exact he)
        · have : j = 1 := by omega
          subst this
          apply h0
          cases hd : (l.drop f).take 1 with
          | nil => exact absurd hd hne
          | cons x xs =>
            rw [hd] at he hl
            simp at he hl
            rw [he, hl]
      have hok : okD ((l.drop f).take j) = true := by
        unfold okD
        rw [ha]
        simp only [Bool.and_true, Bool.and_eq_true, Bool.not_eq_true', bne_iff_ne, ne_eq]
        exact ⟨by simpa using hne, h48⟩
      rw [hok, Bool.or_true]
  unfold prN sval
  rw [hng, hst, hform]
  simp only [Bool.false_eq_true, if_false, true_and]
  rw [if_pos ⟨by omega, by omega⟩]
def varE (l : List Nat) (f : Nat) : Ending := if f < nameEnd l f then .returned (.int .i64 (nameVal l f (nameEnd l f))) else wrongE (f : Int)
end Go.Proofs.Ytmhdcjjcddpciaa
