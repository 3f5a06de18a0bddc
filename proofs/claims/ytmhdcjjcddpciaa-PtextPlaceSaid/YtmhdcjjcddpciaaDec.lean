/- Decimal digits, plainly: no program in sight. -/
import Derived.WalkKit
namespace Go.Proofs.Ytmhdcjjcddpciaa
set_option linter.unusedSimpArgs false
set_option linter.unusedVariables false
theorem snocRec {α : Type} {P : List α → Prop} (nil : P []) (snoc : ∀ l d, P l → P (l ++ [d])) (l : List α) : P l := by
  have h : ∀ r : List α, P r.reverse := by
    intro r
    induction r with
    | nil => exact nil
    | cons a r ih => rw [List.reverse_cons]; exact snoc _ _ ih
  have := h l.reverse
  rwa [List.reverse_reverse] at this
/-- The decimal digits of a number, as numbers. -/
def dg (n : Nat) : List Nat := if n < 10 then [n] else dg (n / 10) ++ [n % 10]
termination_by n
decreasing_by omega
def val (l : List Nat) : Nat := l.foldl (fun a d => 10 * a + d) 0
theorem val_nil : val [] = 0 := rfl
theorem val_snoc (l : List Nat) (d : Nat) : val (l ++ [d]) = 10 * val l + d := by simp [val]
theorem dg_small {n : Nat} (h : n < 10) : dg n = [n] := by rw [dg, if_pos h]
theorem dg_big {n : Nat} (h : 10 ≤ n) : dg n = dg (n / 10) ++ [n % 10] := by rw [dg, if_neg (by omega)]
theorem val_dg (n : Nat) : val (dg n) = n := by
  induction n using Nat.strongRecOn with
  | _ n ih =>
    by_cases h : n < 10
    · rw [dg_small h]; simp [val]
    · rw [dg_big (by omega), val_snoc, ih (n / 10) (by omega)]; omega
theorem dg_lt (n : Nat) : ∀ d ∈ dg n, d < 10 := by
  induction n using Nat.strongRecOn with
  | _ n ih =>
    by_cases h : n < 10
    · rw [dg_small h]; simpa using h
    · rw [dg_big (by omega)]
      intro d hd
      rcases List.mem_append.1 hd with h1 | h1
      · exact ih (n / 10) (by omega) d h1
      · simp at h1; omega
theorem dg_ne (n : Nat) : dg n ≠ [] := by
  by_cases h : n < 10
  · rw [dg_small h]; simp
  · rw [dg_big (by omega)]; simp
/-- The form of a number without sign. -/
def Canon (l : List Nat) : Prop := l ≠ [] ∧ (∀ d ∈ l, d < 10) ∧ (l = [0] ∨ l.head? ≠ some 0)
theorem dg_head (n : Nat) (h : 0 < n) : (dg n).head? ≠ some 0 := by
  induction n using Nat.strongRecOn with
  | _ n ih =>
    by_cases h1 : n < 10
    · rw [dg_small h1]; simp; omega
    · rw [dg_big (by omega)]
      have := ih (n / 10) (by omega) (by omega)
      cases hd : dg (n / 10) with
      | nil => exact absurd hd (dg_ne _)
      | cons a l => rw [hd] at this; simpa using this
theorem dg_canon (n : Nat) : Canon (dg n) := by
  refine ⟨dg_ne n, dg_lt n, ?_⟩
  by_cases h : n = 0
  · left; subst h; rw [dg_small (by omega)]
  · right; exact dg_head n (by omega)
theorem val_pos (l : List Nat) (hne : l ≠ []) (h : l.head? ≠ some 0) : 0 < val l := by
  induction l using snocRec with
  | nil => exact absurd rfl hne
  | snoc l d ih =>
    rw [val_snoc]
    by_cases hl : l = []
    · subst hl; simp at h; simp [val]; omega
    · have : l.head? ≠ some 0 := by
        cases l with
        | nil => exact absurd rfl hl
        | cons a l => simpa using h
      have := ih hl this
      omega
theorem dg_val (l : List Nat) (h : Canon l) : dg (val l) = l := by
  obtain ⟨hne, hlt, hh⟩ := h
  rcases hh with rfl | hh
  · rw [show val [0] = 0 from rfl, dg_small (by omega)]
  induction l using snocRec with
  | nil => exact absurd rfl hne
  | snoc l d ih =>
    have hd : d < 10 := hlt d (by simp)
    by_cases hl : l = []
    · subst hl; simp only [List.nil_append, val, List.foldl]; rw [dg_small (by omega)]; simp
    · have hh' : l.head? ≠ some 0 := by
        cases l with
        | nil => exact absurd rfl hl
        | cons a l => simpa using hh
      have hp := val_pos l hl hh'
      have hi := ih hl (fun x hx => hlt x (by simp [hx])) hh'
      rw [val_snoc, dg_big (by omega), show (10 * val l + d) / 10 = val l by omega, show (10 * val l + d) % 10 = d by omega, hi]
theorem val_lt_pow (l : List Nat) (h : ∀ d ∈ l, d < 10) : val l < 10 ^ l.length := by
  induction l using snocRec with
  | nil => simp [val]
  | snoc l d ih =>
    have := ih (fun x hx => h x (by simp [hx]))
    have hd : d < 10 := h d (by simp)
    rw [val_snoc, List.length_append, List.length_singleton, Nat.pow_succ]
    omega
theorem pow_le_val (l : List Nat) (hne : l ≠ []) (h : l.head? ≠ some 0) : 10 ^ (l.length - 1) ≤ val l := by
  induction l using snocRec with
  | nil => exact absurd rfl hne
  | snoc l d ih =>
    rw [val_snoc]
    by_cases hl : l = []
    · subst hl
      have := val_pos ([] ++ [d]) (by simp) h
      rw [val_snoc] at this
      simp only [List.nil_append, List.length_singleton, Nat.sub_self, Nat.pow_zero]
      omega
    · have hh' : l.head? ≠ some 0 := by
        cases l with
        | nil => exact absurd rfl hl
        | cons a l => simpa using h
      have hi := ih hl hh'
      have hlen : 0 < l.length := List.length_pos_iff.2 hl
      rw [List.length_append, List.length_singleton, show l.length + 1 - 1 = (l.length - 1) + 1 by omega, Nat.pow_succ]
      omega
theorem val_cons (a : Nat) (l : List Nat) : val (a :: l) = a * 10 ^ l.length + val l := by
  induction l using snocRec with
  | nil => simp [val]
  | snoc l d ih =>
    rw [← List.cons_append, val_snoc, ih, val_snoc, List.length_append, List.length_singleton, Nat.pow_succ, Nat.mul_add, ← Nat.mul_assoc, Nat.mul_comm 10 a, Nat.mul_assoc a 10, Nat.mul_comm 10 (10 ^ _)]
    omega
/-- Lists of digits of one length: the order of their numbers is the order of the first digits that part. -/
theorem val_lt_iff (a b : List Nat) (hl : a.length = b.length) (ha : ∀ d ∈ a, d < 10) (hb : ∀ d ∈ b, d < 10) (i : Nat) (hi : i < a.length)
    (hpre : a.take i = b.take i) (hne : a.getD i 0 ≠ b.getD i 0) : val a < val b ↔ a.getD i 0 < b.getD i 0 := by
  induction i generalizing a b with
  | zero =>
    cases a with
    | nil => simp at hi
    | cons x a =>
      cases b with
      | nil => simp at hl
      | cons y b =>
        simp only [List.getD_cons_zero] at hne ⊢
        have h1 := val_lt_pow a (fun d hd => ha d (by simp [hd]))
        have h2 := val_lt_pow b (fun d hd => hb d (by simp [hd]))
        have hl' : a.length = b.length := by simpa using hl
        rw [val_cons, val_cons, hl']
        rw [hl'] at h1
        generalize 10 ^ b.length = p at *
        constructor
        · intro h
          rcases Nat.lt_or_ge x y with h3 | h3
          · exact h3
          · have h4 : y + 1 ≤ x := by omega
            have := Nat.mul_le_mul_right p h4
            rw [Nat.add_mul, Nat.one_mul] at this
            generalize x * p = u at *
            generalize y * p = v at *
            omega
        · intro h
          have := Nat.mul_le_mul_right p (show x + 1 ≤ y from h)
          rw [Nat.add_mul, Nat.one_mul] at this
          generalize x * p = u at *
          generalize y * p = v at *
          omega
  | succ i ih =>
    cases a with
    | nil => simp at hi
    | cons x a =>
      cases b with
      | nil => simp at hl
      | cons y b =>
        simp only [List.take_succ_cons, List.cons.injEq] at hpre
        simp only [List.getD_cons_succ] at hne ⊢
        have hl' : a.length = b.length := by simpa using hl
        rw [val_cons, val_cons, hl', hpre.1, Nat.add_lt_add_iff_left]
        exact ih a b hl' (fun d hd => ha d (by simp [hd])) (fun d hd => hb d (by simp [hd])) (by simpa using hi) hpre.2 hne
theorem len_lt_val {a b : List Nat} (ha : ∀ d ∈ a, d < 10) (hb : Canon b) (h : a.length < b.length) : val a < val b ∨ (a = [] ) := by
  by_cases he : a = []
  · exact Or.inr he
  · left
    have h1 := val_lt_pow a ha
    obtain ⟨hbn, hbl, hbh⟩ := hb
    rcases hbh with rfl | hbh
    · have : 0 < a.length := List.length_pos_iff.2 he
      rw [List.length_singleton] at h; omega
    · have h2 := pow_le_val b hbn hbh
      have h3 : 10 ^ a.length ≤ 10 ^ (b.length - 1) := Nat.pow_le_pow_right (by omega) (by omega)
      omega
/-- The bytes of a list of digits. -/
def bytes (l : List Nat) : List UInt8 := l.map fun d => UInt8.ofNat (48 + d)
theorem bytes_len (l : List Nat) : (bytes l).length = l.length := by simp [bytes]
theorem bytes_append (a b : List Nat) : bytes (a ++ b) = bytes a ++ bytes b := by simp [bytes]
theorem dg_len_le (n k : Nat) (h : n < 10 ^ k) (hk : 0 < k) : (dg n).length ≤ k := by
  induction k generalizing n with
  | zero => omega
  | succ k ih =>
    by_cases h1 : n < 10
    · rw [dg_small h1]; simp
    · rw [dg_big (by omega), List.length_append, List.length_singleton]
      have hk' : 0 < k := by
        rcases Nat.eq_zero_or_pos k with rfl | hk'
        · simp at h; omega
        · exact hk'
      have := ih (n / 10) (by rw [Nat.pow_succ] at h; omega) hk'
      omega
end Go.Proofs.Ytmhdcjjcddpciaa
