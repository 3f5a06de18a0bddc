/- Plain law of a line: what the words of a line say, by the prefix. -/
import Derived.Test.YtmgjoggffnogfaaDoorWd
import Derived.Test.YtmgjoggffnogfaaDoorKq
namespace Go.Proofs.YtmgjoggffnogfaaDoor
set_option linter.unusedSimpArgs false
set_option linter.unusedVariables false
open Go.RowKit
set_option linter.unusedVariables false
theorem formB_chars {l : List Nat} (h : formB l = true) : ∀ c ∈ l, c = 45 ∨ (48 ≤ c ∧ c ≤ 57) := by
  rw [← ok_form] at h
  obtain ⟨_, h2, _⟩ := ok_parts h
  intro c hc
  rw [List.all_eq_true] at h2
  unfold strip at h2
  by_cases hh : l.head? = some 45
  · rw [if_pos hh] at h2
    cases l with
    | nil => cases hc
    | cons a t =>
      rcases List.mem_cons.1 hc with rfl | hc
      · exact .inl (by simpa using hh)
      · exact .inr (by simpa [dig] using h2 c hc)
  · rw [if_neg hh] at h2
    exact .inr (by simpa [dig] using h2 c hc)
theorem prE_sp {l : List Nat} (h : 32 ∈ l) (lo hi : Int) : prE l lo hi ≠ 0 := by
  cases hf : formB l with
  | false => rw [(prE_form hf).2]; omega
  | true => rcases formB_chars hf 32 h with h1 | h1 <;> omega
theorem prE_nil (lo hi : Int) : prE [] lo hi ≠ 0 := by
  have : formB [] = false := rfl
  rw [(prE_form this).2]; omega
def pre (l : List Nat) (k : Int) : Prop := ∃ rest, rest ≠ [] ∧ l = wordL k ++ 32 :: rest
theorem word_sp (k : Int) : 32 ∉ wordL k := by
  unfold wordL
  split
  · decide
  · split
    · decide
    · split
      · decide
      · decide
theorem kAt_word {k : Int} (h : k = 1 ∨ k = 2 ∨ k = 3) : kAt (wordL k) 3 = k := by
  rcases h with rfl | rfl | rfl <;> decide
theorem evL_cons (k : Int) (rest : List Nat) : evL (wordL k ++ 32 :: rest) = evW (wordL k :: spl 32 rest) := by
  unfold evL; rw [spl_hit _ _ _ (word_sp k)]
theorem evL_pre13 {k : Int} (h : k = 1 ∨ k = 3) (rest : List Nat) : evL (wordL k ++ 32 :: rest) = if prE rest 1 MXI = 0 then some (prN rest 1 MXI, k, 0) else none := by
  have hk := kAt_word (k := k) (by omega)
  rw [evL_cons]
  by_cases h32 : 32 ∈ rest
  · rw [if_neg (prE_sp h32 _ _)]
    obtain ⟨x, y, rfl, hx⟩ := mem_split_first h32
    rw [spl_hit _ _ _ hx]
    refine evW_len1 (by omega) _ ?_
    have := spl_ne 32 y
    cases hy : spl 32 y with
    | nil => exact absurd hy this
    | cons _ _ => simp
  · rw [spl_miss _ _ h32]
    simp only [evW, hk, h, true_and]
theorem evL_pre2 {x y : List Nat} (hx : 32 ∉ x) : evL (wordL 2 ++ 32 :: (x ++ 32 :: y)) = if prE x 1 MXI = 0 ∧ prE y 0 MXI = 0 then some (prN x 1 MXI, 2, prN y 0 MXI) else none := by
  have hk := kAt_word (k := 2) (by omega)
  rw [evL_cons, spl_hit _ _ _ hx]
  by_cases h32 : 32 ∈ y
  · rw [if_neg (fun h => prE_sp h32 _ _ h.2)]
    obtain ⟨a, b, rfl, ha⟩ := mem_split_first h32
    rw [spl_hit _ _ _ ha]
    refine evW_len2 hk _ ?_
    have := spl_ne 32 b
    cases hy : spl 32 b with
    | nil => exact absurd hy this
    | cons _ _ => simp
  · rw [spl_miss _ _ h32]
    simp only [evW, hk, true_and]
theorem evL_pre2n {x : List Nat} (hx : 32 ∉ x) : evL (wordL 2 ++ 32 :: x) = none := by
  rw [evL_cons, spl_miss _ _ hx]
  exact evW_len2 (kAt_word (by omega)) _ (by simp)
theorem kAt_inv {h : List Nat} {k : Int} (hk : kAt h 3 = k) (h0 : k ≠ 0) : h = wordL k ∧ (k = 1 ∨ k = 2 ∨ k = 3) := by
  unfold kAt kAt kAt kAt at hk
  split at hk
  · subst hk; exact ⟨by assumption, by omega⟩
  · split at hk
    · subst hk; exact ⟨by assumption, by omega⟩
    · split at hk
      · subst hk; exact ⟨by assumption, by omega⟩
      · exact absurd hk.symm h0
theorem spl_join {l h x : List Nat} {t : List (List Nat)} (hs : spl 32 l = h :: x :: t) : ∃ rest, l = h ++ 32 :: rest ∧ spl 32 rest = x :: t := by
  by_cases h32 : 32 ∈ l
  · obtain ⟨a, b, rfl, ha⟩ := mem_split_first h32
    rw [spl_hit _ _ _ ha] at hs
    injection hs with h1 h2
    exact ⟨b, by rw [h1], h2⟩
  · rw [spl_miss _ _ h32] at hs
    injection hs with _ h2
    cases h2
theorem evL_none {l : List Nat} (h1 : ¬ pre l 1) (h2 : ¬ pre l 2) (h3 : ¬ pre l 3) : evL l = none := by
  have key : ∀ h x t, spl 32 l = h :: x :: t → kAt h 3 ≠ 0 → prE x 1 MXI = 0 → False := fun h x t hs hk hp => by
    obtain ⟨rest, hl, hr⟩ := spl_join hs
    obtain ⟨e, hk3⟩ := kAt_inv (k := kAt h 3) rfl hk
    have hne : rest ≠ [] := by
      rintro rfl
      simp only [spl] at hr
      injection hr with hx _
      subst hx
      exact prE_nil _ _ hp
    have hp : pre l (kAt h 3) := ⟨rest, hne, by rw [hl, ← e]⟩
    rcases hk3 with e3 | e3 | e3 <;> rw [e3] at hp
    · exact h1 hp
    · exact h2 hp
    · exact h3 hp
  unfold evL
  match hs : spl 32 l with
  | [] => rfl
  | [h] => rfl
  | [h, a] =>
    simp only [evW]
    rw [if_neg]
    rintro ⟨hk, hp⟩
    exact key _ _ _ hs (by omega) hp
  | [h, a, b] =>
    simp only [evW]
    rw [if_neg]
    rintro ⟨hk, hp, _⟩
    exact key _ _ _ hs (by omega) hp
  | _ :: _ :: _ :: _ :: _ => rfl
end Go.Proofs.YtmgjoggffnogfaaDoor
