/- What an expression means; that one that passes the check is sound in every part. -/
import Derived.Test.YtmhdcjjcddpciaaQe
namespace Go.Proofs.Ytmhdcjjcddpciaa
set_option linter.unusedSimpArgs false
set_option linter.unusedVariables false
open Go.RowKit
def vOf (bl : List Bool) (op var : Int) (vs : List Bool) : Bool :=
  if op = 1 then true else if op = 2 then false else if op = 3 then (decide (var < (bl.length : Int)) && bl.getD var.toNat false)
  else if op = 4 then !(vs.getD 0 false) else if op = 8 then (!(vs.getD 0 false) || vs.getD 1 false) else if op = 9 then (vs.getD 0 false == vs.getD 1 false)
  else if op = 10 then (if vs.getD 0 false then vs.getD 1 false else vs.getD 2 false)
  else if op = 5 then decide ((vs.count true : Int) = (vs.length : Int)) else if op = 6 then decide (0 < (vs.count true : Int)) else decide ((vs.count true : Int) % 2 = 1)
mutual
def Tr.value (bl : List Bool) : Tr → Bool
  | .mk op var _ _ ks => vOf bl op var (Tr.values bl ks)
def Tr.values (bl : List Bool) : List Tr → List Bool
  | [] => []
  | k :: ks => k.value bl :: Tr.values bl ks
end
theorem Tr.value_eq (bl : List Bool) (t : Tr) : t.value bl = vOf bl t.op t.var (Tr.values bl t.kids) := by cases t; rw [Tr.value]; rfl
theorem Tr.values_map (bl : List Bool) (l : List Tr) : Tr.values bl l = l.map (Tr.value bl) := by
  induction l with
  | nil => rw [Tr.values]; rfl
  | cons k ks ih => rw [Tr.values, ih]; rfl
inductive Ok : Tr → Prop
  | mk {op var : Int} {A : Option Addr} {cap : Nat} {kids : List Tr} : wrongP op var kids.length = 0 → (∀ t ∈ kids, Ok t) → Ok (.mk op var A cap kids)
theorem Ok.here {t : Tr} (h : Ok t) : wrongP t.op t.var t.kids.length = 0 := by cases h; assumption
theorem Ok.kid {t : Tr} (h : Ok t) : ∀ k ∈ t.kids, Ok k := by cases h; assumption
theorem wrap64_small {n : Int} (h : 0 ≤ n ∧ n ≤ 100000) : wrap64 n = n := IntWalk.wrap64_in n (by omega)
mutual
theorem rchk_ok : ∀ (t : Tr) (d n : Int), 0 ≤ n → n ≤ 4096 → d ≤ 65 → (rchk t d n).1 = 0 → Ok t ∧ d + t.deep ≤ 65 ∧ (rchk t d n).2 = n + t.size ∧ n + t.size ≤ 4096
  | .mk op var A cap ks, d, n, h0, h1, hd, h => by
    rw [rchk] at h ⊢
    have hw : wrap64 (n + 1) = n + 1 := wrap64_small ⟨by omega, by omega⟩
    rw [hw] at h ⊢
    by_cases hp : partE (.mk op var A cap ks) d (n + 1) = 0
    · rw [if_pos hp] at h ⊢
      have hpp : partP op var ks.length d (n + 1) = 0 := hp
      unfold partP at hpp
      by_cases h64 : 64 < d
      · rw [if_pos h64] at hpp; omega
      rw [if_neg h64] at hpp
      by_cases hwr : wrongP op var ks.length = 0
      · rw [if_pos hwr] at hpp
        by_cases h4 : 4096 < n + 1
        · rw [if_pos h4] at hpp; omega
        · obtain ⟨a1, a2, a3, a4⟩ := rchks_ok ks (d + 1) (n + 1) (by omega) (by omega) (by omega) h
          rw [Tr.deep, Tr.size]
          refine ⟨.mk hwr a1, ?_, ?_, ?_⟩
          · omega
          · rw [a3]; omega
          · omega
      · rw [if_neg hwr] at hpp; exact absurd hpp hwr
    · rw [if_neg hp] at h; exact absurd h hp
theorem rchks_ok : ∀ (l : List Tr) (d n : Int), 0 ≤ n → n ≤ 4096 → d ≤ 65 → (rchks l d n).1 = 0 → (∀ t ∈ l, Ok t) ∧ d + Tr.deeps l ≤ 65 ∧ (rchks l d n).2 = n + Tr.sizes l ∧ n + Tr.sizes l ≤ 4096
  | [], d, n, h0, h1, hd, _ => by
    rw [rchks, Tr.deeps, Tr.sizes]
    exact ⟨by simp, by omega, by simp, by omega⟩
  | k :: ks, d, n, h0, h1, hd, h => by
    rw [rchks] at h ⊢
    by_cases hk : (rchk k d n).1 = 0
    · rw [if_pos hk] at h ⊢
      obtain ⟨a1, a2, a3, a4⟩ := rchk_ok k d n h0 h1 hd hk
      rw [a3] at h ⊢
      obtain ⟨b1, b2, b3, b4⟩ := rchks_ok ks d (n + k.size) (by omega) a4 hd h
      rw [Tr.deeps, Tr.sizes]
      refine ⟨fun t ht => ?_, by omega, by rw [b3]; omega, by omega⟩
      rcases List.mem_cons.1 ht with rfl | ht
      · exact a1
      · exact b1 t ht
    · rw [if_neg hk] at h; exact absurd h hk
end
theorem op_cases {op : Int} (h : ¬ few op < 0) : op = 1 ∨ op = 2 ∨ op = 3 ∨ op = 4 ∨ op = 5 ∨ op = 6 ∨ op = 7 ∨ op = 8 ∨ op = 9 ∨ op = 10 := by
  unfold few at h
  repeat' split at h
  all_goals omega
end Go.Proofs.Ytmhdcjjcddpciaa
