/- ptext: the reference's expr, a bracket. -/
import Derived.Test.YtmhdcjjcddpciaaTe
import Derived.Test.YtmhdcjjcddpciaaSh
namespace Go.Proofs.Ytmhdcjjcddpciaa
set_option linter.unusedSimpArgs false
set_option linter.unusedVariables false
open Go.RowKit
section
variable {P : Program} {o : Oper} {a : Act} {w E : World} {Q : Exit → Act → World → Prop} {I : PH} {ms : List PH} {ops : Array Oper} {rest : List Oper}
/-- A load of some cells out of the k-th piece, one block known whole. -/
theorem ldPt (k : Nat) (hS : Sat E I ms w) (hg : o.guard = none) {T : TypeId} {x : Operand} (ho : o.op = .load T x) (hT : aggB P T = some true) {X off n : Nat} {c : Array Value} {T' : TypeId} {z : Nat × Nat}
    (hx : a.eval x = .pointer (some ⟨X, off, none⟩)) (hm : ms[k]? = some (PH.one X (.cells c T' z))) (hs : sizeB P T = some n) (hn : ((c.toList.drop off).take n).length = n) (h : wpList P ops Q rest (a.put o.dst (.agg ((c.toList.drop off).take n).toArray)) w) : wpList P ops Q (o :: rest) a w :=
  wpList_plain hg fun _ hK => wp_ldN (hS.mle hm) ho hT hx (by have := (Cells.one X c T' z).part off n; rwa [Nat.zero_add] at this) (by rw [hs, hn]) (hK _ _ h)
end
theorem sword_le (l : List Nat) : ∀ (cs : List Nat) (a : Nat), a ≤ l.length → a ≤ (sword l a cs).1 ∧ (sword l a cs).1 ≤ l.length ∧ ((sword l a cs).2 = true → (sword l a cs).1 = a + cs.length)
  | [], a, h => ⟨Nat.le_refl _, h, fun _ => rfl⟩
  | c :: cs, a, h => by
    rw [sword]
    by_cases hc : l[a]? = some c
    · rw [if_pos hc]
      have hlt := (List.getElem?_eq_some_iff.1 hc).1
      obtain ⟨h1, h2, h3⟩ := sword_le l cs (a + 1) (by omega)
      exact ⟨by omega, h2, fun e => by rw [h3 e, List.length_cons]; omega⟩
    · rw [if_neg hc]
      exact ⟨Nat.le_refl _, h, fun e => by cases e⟩
theorem sdig_le (l : List Nat) (f : Nat) : ∀ (k a : Nat), a ≤ l.length → sdig l f k a ≤ l.length
  | 0, a, h => h
  | k + 1, a, h => by
    rw [sdig]
    split
    · rename_i hc
      refine sdig_le l f k (a + 1) ?_
      have h1 := hc.1
      cases hl : l[a]? with
      | none => rw [hl] at h1; cases h1
      | some c => exact (List.getElem?_eq_some_iff.1 hl).1
    · exact h
theorem nameEnd_le (l : List Nat) (f : Nat) (h : f ≤ l.length) : f ≤ nameEnd l f ∧ nameEnd l f ≤ l.length := ⟨(sdig_ge l f 4 f).1, sdig_le l f 4 f h⟩
theorem signOp_some {o : Option Nat} (h : signOp o ≠ 0) : ∃ c, o = some c := by
  cases o with
  | none => exact absurd rfl h
  | some c => exact ⟨c, rfl⟩
/-- Where the grammar's reading ends. -/
theorem pex_le (l : List Nat) : ∀ k, (∀ a, a ≤ l.length → a ≤ (pex l k a).at_ ∧ (pex l k a).at_ ≤ l.length ∧ ((pex l k a).t ≠ none → a < (pex l k a).at_)) ∧
    (∀ op a ts, a ≤ l.length → a ≤ (pks l k op a ts).at_ ∧ (pks l k op a ts).at_ ≤ l.length ∧ ((pks l k op a ts).t ≠ none → a < (pks l k op a ts).at_)) := by
  intro k
  induction k with
  | zero => exact ⟨fun a h => ⟨Nat.le_refl _, h, fun e => absurd rfl e⟩, fun op a ts h => ⟨Nat.le_refl _, h, fun e => absurd rfl e⟩⟩
  | succ k ih =>
    constructor
    · intro a h
      have kw : ∀ (cs : List Nat) (op : Int), 0 < cs.length → a ≤ (kwRd (sword l a cs) op).at_ ∧ (kwRd (sword l a cs) op).at_ ≤ l.length ∧ ((kwRd (sword l a cs) op).t ≠ none → a < (kwRd (sword l a cs) op).at_) := fun cs op hc => by
        obtain ⟨h1, h2, h3⟩ := sword_le l cs a h
        refine ⟨h1, h2, fun e => ?_⟩
        unfold kwRd at e ⊢
        cases hb : (sword l a cs).2 with
        | false => rw [hb] at e; exact absurd rfl e
        | true => have := h3 hb; simp only; omega
      rw [pex]
      by_cases h1 : l[a]? = some 116
      · rw [if_pos h1]; exact kw _ _ (by decide)
      rw [if_neg h1]
      by_cases h2 : l[a]? = some 102
      · rw [if_pos h2]; exact kw _ _ (by decide)
      rw [if_neg h2]
      by_cases h3 : l[a]? = some 118
      · rw [if_pos h3]
        have hlt := (List.getElem?_eq_some_iff.1 h3).1
        obtain ⟨h4, h5⟩ := nameEnd_le l (a + 1) hlt
        exact ⟨by simp only; omega, h5, fun _ => by simp only; omega⟩
      rw [if_neg h3]
      by_cases h4 : l[a]? = some 40
      · rw [if_pos h4]
        have hlt := (List.getElem?_eq_some_iff.1 h4).1
        by_cases h5 : signOp l[a + 1]? = 0
        · rw [if_pos h5]; exact ⟨by simp only; omega, hlt, fun e => absurd rfl e⟩
        · rw [if_neg h5]
          obtain ⟨c, hc⟩ := signOp_some h5
          have hlt2 := (List.getElem?_eq_some_iff.1 hc).1
          obtain ⟨h6, h7, h8⟩ := ih.2 (signOp l[a + 1]?) (a + 2) [] (by omega)
          exact ⟨by omega, h7, fun _ => by omega⟩
      · rw [if_neg h4]; exact ⟨Nat.le_refl _, h, fun e => absurd rfl e⟩
    · intro op a ts h
      rw [pks]
      by_cases h1 : l[a]? = some 32
      · rw [if_pos h1]
        have hlt := (List.getElem?_eq_some_iff.1 h1).1
        obtain ⟨h2, h3, h4⟩ := ih.1 (a + 1) (by omega)
        cases hp : pex l k (a + 1) with
        | mk o b =>
          rw [hp] at h2 h3 h4
          simp only at h2 h3 h4
          cases o with
          | none => exact ⟨by simp only; omega, h3, fun e => absurd rfl e⟩
          | some t =>
            obtain ⟨h6, h7, h8⟩ := ih.2 op b (ts ++ [t]) h3
            exact ⟨by simp only; omega, h7, fun _ => by simp only; omega⟩
      · rw [if_neg h1]
        by_cases h2 : l[a]? = some 41
        · rw [if_pos h2]
          have hlt := (List.getElem?_eq_some_iff.1 h2).1
          exact ⟨by simp only; omega, hlt, fun _ => by simp only; omega⟩
        · rw [if_neg h2]; exact ⟨Nat.le_refl _, h, fun e => absurd rfl e⟩
def signAtO (o : Option Nat) (i : Nat) : Int := match o with | some c => signAt c i | none => 0
theorem signAtO_all (o : Option Nat) : signAtO o 7 = signOp o := by
  cases o with
  | none => rfl
  | some c => exact signAt_all c
end Go.Proofs.Ytmhdcjjcddpciaa
