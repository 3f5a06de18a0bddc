/- PoolAgain, plain: the states of a full pool, a slot released, taken again. -/
import Derived.Test.YtcnejokbldohlaaPk
namespace Go.Proofs.Ytcnejokbldohlaa
open Go.ChangeShapes Go.WideShapes Go.ChangeAt Go.RowKit
set_option linter.unusedVariables false
def Ag1 (n : Nd) (i : Nat) : Nd := { n with id := (i : Int) + 1 }
/-- The pool of room M behind k calls of Take of n. -/
def Ag (M : Nat) (n : Nd) (k : Nat) : Pl := ⟨M, Nd.zero :: (List.range k).map (Ag1 n), false :: List.replicate k true, [], k⟩
theorem ag_zero (M : Nat) (n : Nd) : Ag M n 0 = Pl.new M := rfl
theorem ag_take (M : Nat) (n : Nd) (k : Nat) (h : k < M) : TakeV (Ag M n k) = .tuple #[.int .i64 ((k : Int) + 1), .int .i64 0] ∧ (Ag M n k).take n = Ag M n (k + 1) := by
  have hs : (Ag M n k).slot = some (k + 1, { Ag M n k with at_ := (Ag M n k).at_ ++ [Nd.zero], taken := (Ag M n k).taken ++ [false] }) := by
    unfold Pl.slot
    rw [if_pos (by rfl), if_neg (by simp [Ag]; omega)]
    simp [Ag]
  constructor
  · unfold TakeV; rw [hs]; simp
  · unfold Pl.take
    rw [hs]
    simp only [Pl.lay, Ag, List.cons_append, List.set_cons_succ]
    congr 1
    · rw [List.range_succ, List.map_append, List.set_append_right _ _ (by simp)]
      simp [Ag1]
    · rw [List.set_append_right _ _ (by simp), List.replicate_succ']
      simp
theorem ag_full (M : Nat) (n m : Nd) : TakeV (Ag M n M) = .tuple #[.int .i64 0, .int .i64 7] ∧ (Ag M n M).take m = Ag M n M := by
  have hs : (Ag M n M).slot = none := by
    unfold Pl.slot
    rw [if_pos (by rfl), if_pos (by simp [Ag]; omega)]
  constructor
  · unfold TakeV; rw [hs]
  · unfold Pl.take; rw [hs]
theorem ag_tk (M : Nat) (n : Nd) (k j : Nat) (h : j < k) : (Ag M n k).taken.getD (j + 1) false = true := by simp [Ag, h]
theorem ag_is (M : Nat) (n : Nd) (k j : Nat) (h : j < k) : (Ag M n k).is ((j : Int) + 1) = true := by
  unfold Pl.is
  rw [decide_eq_true (by omega), show (((j : Int) + 1).toNat) = j + 1 by omega, ag_tk M n k j h]
  rfl
/-- Behind a release of slot j + 1. -/
def Ag' (M : Nat) (n : Nd) (j : Nat) : Pl := ⟨M, Nd.zero :: ((List.range M).map (Ag1 n)).set j Nd.zero, false :: (List.replicate M true).set j false, [(j : Int) + 1], (M : Int) - 1⟩
theorem ag_give (M : Nat) (n : Nd) (j : Nat) (h : j < M) : (Ag M n M).give ((j : Int) + 1) = Ag' M n j := by
  unfold Pl.give
  rw [if_pos (ag_is M n M j h), show (((j : Int) + 1).toNat) = j + 1 by omega]
  rfl
theorem ag_not (M : Nat) (n : Nd) (j : Nat) (h : j < M) : (Ag' M n j).is ((j : Int) + 1) = false := by
  unfold Pl.is
  rw [show (((j : Int) + 1).toNat) = j + 1 by omega]
  simp [Ag', h]
theorem ag_give2 (M : Nat) (n : Nd) (j : Nat) (h : j < M) : (Ag' M n j).give ((j : Int) + 1) = Ag' M n j := by
  unfold Pl.give
  rw [ag_not M n j h]; rfl
theorem ag_take2 (M : Nat) (n : Nd) (j : Nat) (h : j < M) : TakeV (Ag' M n j) = .tuple #[.int .i64 ((j : Int) + 1), .int .i64 0] ∧ (Ag' M n j).take n = Ag M n M := by
  have hs : (Ag' M n j).slot = some (j + 1, { Ag' M n j with free := [] }) := by
    unfold Pl.slot
    rw [if_neg (by simp [Ag'])]
    simp [Ag']
  constructor
  · unfold TakeV; rw [hs]; simp
  · unfold Pl.take
    rw [hs]
    simp only [Pl.lay, Ag', Ag, List.set_cons_succ, List.set_set]
    congr 1
    · congr 1
      apply List.ext_getElem?
      intro i
      rw [List.getElem?_set]
      by_cases hi : j = i
      · subst hi; simp [h, Ag1]
      · rw [if_neg hi]
    · congr 1
      apply List.ext_getElem?
      intro i
      rw [List.getElem?_set]
      by_cases hi : j = i
      · subst hi; simp [h]
      · rw [if_neg hi]
    · omega
theorem ag_nodes (M : Nat) (n : Nd) : (Ag M n M).nodes = (List.range M).map (Ag1 n) := by
  have hids : (Ag M n M).ids = (List.range M).map (· + 1) := by
    unfold Pl.ids
    have h : ∀ j, j ≤ M → (Ag M n M).upto (j + 1) = (List.range j).map (· + 1) := fun j => by
      induction j with
      | zero => intro _; simp [Pl.upto, Ag, List.range_succ]
      | succ j ih =>
        intro hj
        rw [Pl.upto_succ, ih (by omega), if_pos (ag_tk M n M j (by omega)), List.range_succ, List.map_append]
        rfl
    have := h M (Nat.le_refl _)
    simpa [Ag] using this
  unfold Pl.nodes
  rw [hids, List.map_map]
  apply List.map_congr_left
  intro i hi
  have := List.mem_range.1 hi
  simp [Ag, this]
theorem ag_take99 (M : Nat) (n : Nd) (h : M ≤ 40) : (Ag M n M).nodes.take 99 = (List.range M).map (Ag1 n) := by
  rw [ag_nodes, List.take_of_length_le (by simp; omega)]
end Go.Proofs.Ytcnejokbldohlaa
