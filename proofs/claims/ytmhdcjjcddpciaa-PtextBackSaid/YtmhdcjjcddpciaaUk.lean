/- ptext: what is shown is read back; what is read is shown; an error's place. -/
import Derived.Test.YtmhdcjjcddpciaaUj
namespace Go.Proofs.Ytmhdcjjcddpciaa
set_option linter.unusedSimpArgs false
set_option linter.unusedVariables false
open Go.RowKit
theorem sgn_op {o : Option Nat} (h : signOp o ≠ 0) : ∃ c, o = some c ∧ sgn (signOp o) = c ∧ (signOp o = 4 ∨ signOp o = 5 ∨ signOp o = 6 ∨ signOp o = 7 ∨ signOp o = 8 ∨ signOp o = 9 ∨ signOp o = 10) := by
  obtain ⟨c, rfl⟩ := signOp_some h
  refine ⟨c, rfl, ?_⟩
  by_cases h1 : c = 33 ∨ c = 38 ∨ c = 124 ∨ c = 94 ∨ c = 62 ∨ c = 61 ∨ c = 63
  · rcases h1 with rfl | rfl | rfl | rfl | rfl | rfl | rfl <;> decide
  · exfalso
    apply h
    simp only [not_or] at h1
    obtain ⟨h1, h2, h3, h4, h5, h6, h7⟩ := h1
    unfold signOp
    split <;> simp_all
theorem op_sgn {op : Int} (h : op = 4 ∨ op = 5 ∨ op = 6 ∨ op = 7 ∨ op = 8 ∨ op = 9 ∨ op = 10) : signOp (some (sgn op)) = op := by
  rcases h with rfl | rfl | rfl | rfl | rfl | rfl | rfl <;> decide
theorem many_leaf {op var : Int} {n : Nat} (h : wrongP op var n = 0) (ho : op = 1 ∨ op = 2 ∨ op = 3) : n = 0 := by
  obtain ⟨_, _, _, h4⟩ := wrongP_ok h
  unfold many at h4
  rw [if_pos ho] at h4
  omega
theorem head_ptxs (ks : List PT) : ∃ c r, ptxs ks ++ [41] = c :: r ∧ (c = 32 ∨ c = 41) := by
  cases ks with
  | nil => exact ⟨41, [], rfl, .inr rfl⟩
  | cons k ks => exact ⟨32, _, rfl, .inl rfl⟩
theorem end_ptxs {l : List Nat} {a : Nat} (ks : List PT) (h : ptxs ks ++ [41] <+: l.drop a) : isDig l[a]? = false := by
  obtain ⟨c, r, e, hc⟩ := head_ptxs ks
  rw [e] at h
  have := pre_get (i := 0) h rfl
  rw [Nat.add_zero] at this
  rw [this]
  rcases hc with rfl | rfl <;> decide
mutual
/-- A valid tree's text is read as the tree. -/
theorem pex_ptx (l : List Nat) : ∀ (t : Tr) (k a : Nat), Ok t → ptx t.pure <+: l.drop a → isDig l[a + (ptx t.pure).length]? = false → (ptx t.pure).length < k → pex l k a = ⟨some t.pure, a + (ptx t.pure).length⟩
  | .mk op var A cap ks, 0, a, _, _, _, hk => by omega
  | .mk op var A cap ks, k + 1, a, hok, hp, he, hk => by
    have hw := hok.here
    have hops := ok_ops hok
    simp only [Tr.op, Tr.var, Tr.kids] at hw hops
    obtain ⟨_, hv, _, _⟩ := wrongP_ok hw
    rw [Tr.pure] at hp he hk ⊢
    by_cases h1 : op = 1
    · subst h1
      have hks : ks = [] := List.eq_nil_of_length_eq_zero (many_leaf hw (.inl rfl))
      have hvar : var = 0 := by omega
      subst hks; subst hvar
      have hp' : [116, 114, 117, 101] <+: l.drop a := hp
      rw [pex, if_pos (by simpa using pre_get (i := 0) hp' rfl), sword_pre l _ a hp']
      rfl
    by_cases h2 : op = 2
    · subst h2
      have hks : ks = [] := List.eq_nil_of_length_eq_zero (many_leaf hw (.inr (.inl rfl)))
      have hvar : var = 0 := by omega
      subst hks; subst hvar
      have hp' : [102, 97, 108, 115, 101] <+: l.drop a := hp
      have hc := pre_get (i := 0) hp' rfl
      rw [Nat.add_zero] at hc
      rw [pex, hc, if_neg (by decide), if_pos rfl, sword_pre l _ a hp']
      rfl
    by_cases h3 : op = 3
    · subst h3
      have hks : ks = [] := List.eq_nil_of_length_eq_zero (many_leaf hw (.inr (.inr rfl)))
      subst hks
      have hpt : ptx (.mk 3 var (Tr.pures [])) = 118 :: txt var := by rw [ptx]; rfl
      rw [hpt] at hp he hk ⊢
      have hc := pre_get (i := 0) hp rfl
      rw [Nat.add_zero] at hc
      have hv2 := hops.2 rfl
      obtain ⟨n1, n2, n3⟩ := name_read (f := a + 1) hv2.1 (by omega) (pre_right (s := [118]) hp) (by
        rw [List.length_cons] at he
        rw [show a + 1 + (txt var).length = a + ((txt var).length + 1) by omega]; exact he)
      rw [pex, hc, if_neg (by decide), if_neg (by decide), if_pos rfl, if_pos (by omega), n2, n1, List.length_cons, Tr.pures]
      congr 1
      omega
    · have h4 : op = 4 ∨ op = 5 ∨ op = 6 ∨ op = 7 ∨ op = 8 ∨ op = 9 ∨ op = 10 := by omega
      have hvar : var = 0 := by omega
      subst hvar
      have hpt : ptx (.mk op 0 (Tr.pures ks)) = 40 :: sgn op :: (ptxs (Tr.pures ks) ++ [41]) := by rw [ptx, if_neg h1, if_neg h2, if_neg h3]
      rw [hpt] at hp he hk ⊢
      have hc := pre_get (i := 0) hp rfl
      have hc1 := pre_get (i := 1) hp rfl
      rw [Nat.add_zero] at hc
      have hp2 : ptxs (Tr.pures ks) ++ [41] <+: l.drop (a + 2) := pre_right (s := [40, sgn op]) hp
      rw [pex, hc, if_neg (by decide), if_neg (by decide), if_neg (by decide), if_pos rfl, hc1, op_sgn h4, if_neg (by omega)]
      simp only [List.length_cons, List.length_append, List.length_nil] at hk ⊢
      rw [pks_ptx l ks k op (a + 2) [] hok.kid hp2 (by omega), List.nil_append]
      congr 1
      omega
theorem pks_ptx (l : List Nat) : ∀ (ks : List Tr) (k : Nat) (op : Int) (a : Nat) (ts : List PT), (∀ t ∈ ks, Ok t) → ptxs (Tr.pures ks) ++ [41] <+: l.drop a → (ptxs (Tr.pures ks)).length < k → pks l k op a ts = ⟨some (.mk op 0 (ts ++ Tr.pures ks)), a + (ptxs (Tr.pures ks)).length + 1⟩
  | [], 0, op, a, ts, _, _, hk => by omega
  | [], k + 1, op, a, ts, _, hp, _ => by
    have hc := pre_get (i := 0) (s := [41]) hp rfl
    rw [Nat.add_zero] at hc
    rw [pks, hc, if_neg (by decide), if_pos rfl, Tr.pures, List.append_nil]
    rfl
  | t :: ks, 0, op, a, ts, _, _, hk => by omega
  | t :: ks, k + 1, op, a, ts, hok, hp, hk => by
    rw [Tr.pures, ptxs] at hp hk ⊢
    have hc := pre_get (i := 0) hp rfl
    rw [Nat.add_zero] at hc
    have hp1 : ptx t.pure ++ (ptxs (Tr.pures ks) ++ [41]) <+: l.drop (a + 1) := by
      have := pre_right (s := [32]) (r := ptx t.pure ++ ptxs (Tr.pures ks) ++ [41]) hp
      rwa [List.append_assoc] at this
    have hp2 := pre_right hp1
    simp only [List.length_cons, List.length_append] at hk ⊢
    rw [pks, hc, if_pos rfl, pex_ptx l t k (a + 1) (hok t (.head _)) (pre_left hp1) (end_ptxs _ hp2) (by omega)]
    simp only
    rw [pks_ptx l ks k op (a + 1 + (ptx t.pure).length) (ts ++ [t.pure]) (fun u hu => hok u (.tail _ hu)) hp2 (by omega), List.append_assoc]
    congr 1
    omega
end
/-- What is read is what its tree shows. -/
theorem ptx_pex (l : List Nat) : ∀ k, (∀ a p b, pex l k a = ⟨some p, b⟩ → ptx p <+: l.drop a ∧ b = a + (ptx p).length) ∧
    (∀ op a ts p b, (op = 4 ∨ op = 5 ∨ op = 6 ∨ op = 7 ∨ op = 8 ∨ op = 9 ∨ op = 10) → pks l k op a ts = ⟨some p, b⟩ → ∃ ks, p = .mk op 0 (ts ++ ks) ∧ ptxs ks ++ [41] <+: l.drop a ∧ b = a + (ptxs ks).length + 1) := by
  intro k
  induction k with
  | zero => exact ⟨fun a p b h => (by rw [pex] at h; cases h), fun op a ts p b _ h => (by rw [pks] at h; cases h)⟩
  | succ k ih =>
    constructor
    · intro a p b h
      rw [pex] at h
      have kw : ∀ (cs : List Nat) (op : Int), ptx (.mk op 0 []) = cs → kwRd (sword l a cs) op = ⟨some p, b⟩ → ptx p <+: l.drop a ∧ b = a + (ptx p).length := fun cs op hc h => by
        unfold kwRd at h
        cases hb : (sword l a cs).2 with
        | false => rw [hb] at h; simp at h
        | true =>
          have hp := sword_true l cs a hb
          rw [sword_pre l cs a hp] at h
          simp at h
          obtain ⟨rfl, rfl⟩ := h
          rw [hc]
          exact ⟨hp, rfl⟩
      by_cases h1 : l[a]? = some 116
      · rw [if_pos h1] at h; exact kw _ 1 (by rw [ptx]; rfl) h
      rw [if_neg h1] at h
      by_cases h2 : l[a]? = some 102
      · rw [if_pos h2] at h; exact kw _ 2 (by rw [ptx]; rfl) h
      rw [if_neg h2] at h
      by_cases h3 : l[a]? = some 118
      · rw [if_pos h3] at h
        by_cases h4 : a + 1 < nameEnd l (a + 1)
        · rw [if_pos h4] at h
          injection h with h5 h6
          injection h5 with h5
          subst h5
          obtain ⟨n1, n2⟩ := name_txt h4
          have hpt : ptx (.mk 3 (nameVal l (a + 1) (nameEnd l (a + 1))) []) = 118 :: txt (nameVal l (a + 1) (nameEnd l (a + 1))) := by rw [ptx]; rfl
          rw [hpt]
          refine ⟨pre_join (s := [118]) (pre_cons h3) n1, ?_⟩
          rw [← h6, List.length_cons]
          omega
        · rw [if_neg h4] at h; cases h
      rw [if_neg h3] at h
      by_cases h4 : l[a]? = some 40
      · rw [if_pos h4] at h
        by_cases h5 : signOp l[a + 1]? = 0
        · rw [if_pos h5] at h; cases h
        · rw [if_neg h5] at h
          obtain ⟨c, hc, hs, hop⟩ := sgn_op h5
          obtain ⟨ks, rfl, hp, rfl⟩ := ih.2 _ _ _ _ _ hop h
          have hpt : ptx (.mk (signOp l[a + 1]?) 0 ([] ++ ks)) = 40 :: c :: (ptxs ks ++ [41]) := by
            rw [ptx, if_neg (by omega), if_neg (by omega), if_neg (by omega), hs]; rfl
          rw [hpt]
          refine ⟨pre_join (s := [40]) (pre_cons h4) (pre_join (s := [c]) (pre_cons hc) hp), ?_⟩
          simp only [List.length_cons, List.length_append, List.length_nil]
          omega
      · rw [if_neg h4] at h; cases h
    · intro op a ts p b hop h
      rw [pks] at h
      by_cases h1 : l[a]? = some 32
      · rw [if_pos h1] at h
        cases hp : pex l k (a + 1) with
        | mk o b' =>
          rw [hp] at h
          cases o with
          | none => cases h
          | some t =>
            simp only at h
            obtain ⟨h2, h3⟩ := ih.1 _ _ _ hp
            obtain ⟨ks, rfl, h4, rfl⟩ := ih.2 _ _ _ _ _ hop h
            refine ⟨t :: ks, by rw [List.append_assoc]; rfl, ?_, ?_⟩
            · rw [ptxs]
              have h4' : ptxs ks ++ [41] <+: l.drop (a + 1 + (ptx t).length) := by rw [← h3]; exact h4
              have := pre_join (s := [32]) (pre_cons h1) (pre_join (a := a + 1) h2 h4')
              simpa using this
            · rw [ptxs]
              simp only [List.length_cons, List.length_append]
              omega
      · rw [if_neg h1] at h
        by_cases h2 : l[a]? = some 41
        · rw [if_pos h2] at h
          injection h with h5 h6
          injection h5 with h5
          subst h5
          exact ⟨[], by rw [List.append_nil], pre_cons h2, h6.symm⟩
        · rw [if_neg h2] at h; cases h
end Go.Proofs.Ytmhdcjjcddpciaa
