/- ptext: an error's place. -/
import Derived.Test.YtmhdcjjcddpciaaUg
namespace Go.Proofs.Ytmhdcjjcddpciaa
set_option linter.unusedSimpArgs false
set_option linter.unusedVariables false
open Go.RowKit
/-- Two texts that agree below b; at b they agree, or the second ends. -/
def Agr (l m : List Nat) (b : Nat) : Prop := (∀ i, i < b → m[i]? = l[i]?) ∧ (m[b]? = l[b]? ∨ m[b]? = none)
theorem Agr.to {l m : List Nat} {b c : Nat} (h : Agr l m b) (hc : c ≤ b) : Agr l m c := by
  refine ⟨fun i hi => h.1 i (by omega), ?_⟩
  rcases Nat.lt_or_ge c b with h1 | h1
  · exact .inl (h.1 c h1)
  · obtain rfl : c = b := by omega
    exact h.2
theorem sword_agr {l m : List Nat} : ∀ (cs : List Nat) (a : Nat), Agr l m (sword l a cs).1 → sword m a cs = sword l a cs
  | [], a, _ => rfl
  | c :: cs, a, h => by
    rw [sword] at h
    rw [sword, sword]
    by_cases hc : l[a]? = some c
    · rw [if_pos hc] at h ⊢
      have hge : a + 1 ≤ (sword l (a + 1) cs).1 := by
        have := (List.getElem?_eq_some_iff.1 hc).1
        exact (sword_le l cs (a + 1) (by omega)).1
      rw [h.1 a (by omega), if_pos hc]
      exact sword_agr cs (a + 1) h
    · rw [if_neg hc] at h ⊢
      rcases h.2 with h1 | h1
      · rw [h1, if_neg hc]
      · rw [h1, if_neg (by simp)]
theorem sdig_agr {l m : List Nat} (f : Nat) : ∀ (k a : Nat), f ≤ a → Agr l m (sdig l f k a) → sdig m f k a = sdig l f k a
  | 0, a, _, _ => rfl
  | k + 1, a, hf, h => by
    rw [sdig] at h
    rw [sdig, sdig]
    by_cases hc : isDig l[a]? = true ∧ (a = f ∨ l[f]? ≠ some 48)
    · rw [if_pos hc] at h ⊢
      have hge := (sdig_ge l f k (a + 1)).1
      have h1 := h.1 a (by omega)
      have h2 := h.1 f (by omega)
      rw [h1, h2, if_pos hc]
      exact sdig_agr f k (a + 1) (by omega) h
    · rw [if_neg hc] at h ⊢
      rcases h.2 with h1 | h1
      · rcases Nat.lt_or_ge f a with h2 | h2
        · rw [h1, h.1 f h2, if_neg hc]
        · obtain rfl : a = f := by omega
          rw [h1, if_neg hc]
      · rw [h1, if_neg (by rintro ⟨h2, _⟩; cases h2)]
theorem name_agr {l m : List Nat} {f : Nat} (h : Agr l m (nameEnd l f)) : nameEnd m f = nameEnd l f ∧ nameVal m f (nameEnd l f) = nameVal l f (nameEnd l f) := by
  refine ⟨sdig_agr f 4 f (Nat.le_refl _) h, ?_⟩
  unfold nameVal
  congr 2
  apply List.ext_getElem?
  intro i
  rw [List.getElem?_take, List.getElem?_take]
  split
  · rw [List.getElem?_drop, List.getElem?_drop]
    exact h.1 _ (by omega)
  · rfl
theorem signOp_none : signOp none = 0 := rfl
/-- What is read, and where it fails, hangs on the bytes up to there alone. -/
theorem pex_agr {l m : List Nat} : ∀ k, (∀ a, a ≤ l.length → Agr l m (pex l k a).at_ → pex m k a = pex l k a) ∧
    (∀ op a ts, a ≤ l.length → Agr l m (pks l k op a ts).at_ → pks m k op a ts = pks l k op a ts) := by
  intro k
  induction k with
  | zero => exact ⟨fun a _ _ => rfl, fun op a ts _ _ => rfl⟩
  | succ k ih =>
    constructor
    · intro a ha h
      rw [pex] at h
      rw [pex, pex]
      have kw : ∀ (cs : List Nat) (op : Int), Agr l m (kwRd (sword l a cs) op).at_ → kwRd (sword m a cs) op = kwRd (sword l a cs) op := fun cs op h => by
        rw [sword_agr cs a h]
      by_cases h1 : l[a]? = some 116
      · rw [if_pos h1] at h ⊢
        have hge : a + 1 ≤ (kwRd (sword l a [116, 114, 117, 101]) 1).at_ := by
          show a + 1 ≤ (sword l a [116, 114, 117, 101]).1
          rw [sword, if_pos h1]
          have := (List.getElem?_eq_some_iff.1 h1).1
          exact (sword_le l _ (a + 1) (by omega)).1
        rw [h.1 a (by omega), if_pos h1]
        exact kw _ _ h
      rw [if_neg h1] at h ⊢
      by_cases h2 : l[a]? = some 102
      · rw [if_pos h2] at h ⊢
        have hge : a + 1 ≤ (kwRd (sword l a [102, 97, 108, 115, 101]) 2).at_ := by
          show a + 1 ≤ (sword l a [102, 97, 108, 115, 101]).1
          rw [sword, if_pos h2]
          have := (List.getElem?_eq_some_iff.1 h2).1
          exact (sword_le l _ (a + 1) (by omega)).1
        rw [h.1 a (by omega), if_neg h1, if_pos h2]
        exact kw _ _ h
      rw [if_neg h2] at h ⊢
      by_cases h3 : l[a]? = some 118
      · rw [if_pos h3] at h ⊢
        have hge := (sdig_ge l (a + 1) 4 (a + 1)).1
        have hge2 : a + 1 ≤ nameEnd l (a + 1) := hge
        simp only at h
        obtain ⟨n1, n2⟩ := name_agr h
        rw [h.1 a (by omega), if_neg h1, if_neg h2, if_pos h3, n1, n2]
      rw [if_neg h3] at h ⊢
      by_cases h4 : l[a]? = some 40
      · rw [if_pos h4] at h ⊢
        have hlt := (List.getElem?_eq_some_iff.1 h4).1
        by_cases h5 : signOp l[a + 1]? = 0
        · rw [if_pos h5] at h ⊢
          simp only at h
          rw [h.1 a (by omega), if_neg h1, if_neg h2, if_neg h3, if_pos h4]
          rw [if_pos]
          rcases h.2 with h6 | h6
          · rw [h6]; exact h5
          · rw [h6]; rfl
        · rw [if_neg h5] at h ⊢
          obtain ⟨c, hc⟩ := signOp_some h5
          have hlt2 := (List.getElem?_eq_some_iff.1 hc).1
          have hge := ((pex_le l k).2 (signOp l[a + 1]?) (a + 2) [] (by omega)).1
          rw [h.1 a (by omega), h.1 (a + 1) (by omega), if_neg h1, if_neg h2, if_neg h3, if_pos h4, if_neg h5]
          exact ih.2 _ _ _ (by omega) h
      · rw [if_neg h4] at h ⊢
        simp only at h
        rcases h.2 with h6 | h6
        · rw [h6, if_neg h1, if_neg h2, if_neg h3, if_neg h4]
        · rw [h6]; rfl
    · intro op a ts ha h
      rw [pks] at h
      rw [pks, pks]
      by_cases h1 : l[a]? = some 32
      · rw [if_pos h1] at h ⊢
        have hlt := (List.getElem?_eq_some_iff.1 h1).1
        have hle := (pex_le l k).1 (a + 1) (by omega)
        have hx := ih.1 (a + 1) (by omega)
        cases hp : pex l k (a + 1) with
        | mk o b =>
          rw [hp] at h hle hx
          cases o with
          | none =>
            simp only at h hle hx ⊢
            rw [h.1 a (by omega), if_pos h1, hx h]
          | some t =>
            simp only at h hle hx ⊢
            have hge := ((pex_le l k).2 op b (ts ++ [t]) hle.2.1).1
            rw [h.1 a (by omega), if_pos h1, hx (h.to hge)]
            exact ih.2 _ _ _ hle.2.1 h
      · rw [if_neg h1] at h ⊢
        by_cases h2 : l[a]? = some 41
        · rw [if_pos h2] at h ⊢
          simp only at h
          rw [h.1 a (by omega), if_neg h1, if_pos h2]
        · rw [if_neg h2] at h ⊢
          simp only at h
          rcases h.2 with h6 | h6
          · rw [h6, if_neg h1, if_neg h2]
          · rw [h6]; rfl
/-- Fuel beyond the text's end changes nothing. -/
theorem pex_fuel {l : List Nat} : ∀ k k', (∀ a, a ≤ l.length → l.length < a + k → l.length < a + k' → pex l k a = pex l k' a) ∧
    (∀ op a ts, a ≤ l.length → l.length < a + k → l.length < a + k' → pks l k op a ts = pks l k' op a ts) := by
  intro k
  induction k with
  | zero => intro k'; exact ⟨fun a h1 h2 _ => by omega, fun op a ts h1 h2 _ => by omega⟩
  | succ k ih =>
    intro k'
    cases k' with
    | zero => exact ⟨fun a h1 _ h3 => by omega, fun op a ts h1 _ h3 => by omega⟩
    | succ k' =>
      obtain ⟨i1, i2⟩ := ih k'
      constructor
      · intro a ha h1 h2
        rw [pex, pex]
        by_cases c1 : l[a]? = some 116
        · rw [if_pos c1, if_pos c1]
        rw [if_neg c1, if_neg c1]
        by_cases c2 : l[a]? = some 102
        · rw [if_pos c2, if_pos c2]
        rw [if_neg c2, if_neg c2]
        by_cases c3 : l[a]? = some 118
        · rw [if_pos c3, if_pos c3]
        rw [if_neg c3, if_neg c3]
        by_cases c4 : l[a]? = some 40
        · rw [if_pos c4, if_pos c4]
          by_cases c5 : signOp l[a + 1]? = 0
          · rw [if_pos c5, if_pos c5]
          · rw [if_neg c5, if_neg c5]
            obtain ⟨c, hc⟩ := signOp_some c5
            have hlt2 := (List.getElem?_eq_some_iff.1 hc).1
            exact i2 _ _ _ (by omega) (by omega) (by omega)
        · rw [if_neg c4, if_neg c4]
      · intro op a ts ha h1 h2
        rw [pks, pks]
        by_cases c1 : l[a]? = some 32
        · rw [if_pos c1, if_pos c1]
          have hlt := (List.getElem?_eq_some_iff.1 c1).1
          rw [i1 (a + 1) (by omega) (by omega) (by omega)]
          have hle := (pex_le l k').1 (a + 1) (by omega)
          cases hp : pex l k' (a + 1) with
          | mk o b =>
            rw [hp] at hle
            cases o with
            | none => rfl
            | some t =>
              simp only at hle ⊢
              have := hle.2.2 (by simp)
              exact i2 _ _ _ hle.2.1 (by omega) (by omega)
        · rw [if_neg c1, if_neg c1]
end Go.Proofs.Ytmhdcjjcddpciaa
