/- Plain laws: Parse undoes Text, Text undoes Parse, what the generator makes can be scheduled. -/
import Derived.Test.YtmgjoggffnogfaaDoorWt
namespace Go.Proofs.YtmgjoggffnogfaaDoor
set_option linter.unusedSimpArgs false
set_option linter.unusedVariables false
open Go.RowKit
set_option linter.unusedVariables false
def ln (v : Ev) : List Nat := wordL v.2.1 ++ 32 :: txt v.1 ++ (if v.2.1 = 2 then 32 :: txt v.2.2 else [])
theorem evT_ln (v : Ev) : evT v = ln v ++ [10] := rfl
theorem txt_not {n : Int} {c : Nat} (h : c ≠ 45) (h2 : c < 48 ∨ 57 < c) : c ∉ txt n := fun hm => by
  rcases formB_chars (txt_form n) c hm with h1 | h1 <;> omega
theorem word10 (k : Int) : 10 ∉ wordL k := by
  unfold wordL
  split
  · decide
  · split
    · decide
    · split
      · decide
      · decide
theorem ln10 (v : Ev) : 10 ∉ ln v := by
  unfold ln
  have h1 := word10 v.2.1
  have h2 : 10 ∉ txt v.1 := txt_not (by omega) (by omega)
  have h3 : 10 ∉ txt v.2.2 := txt_not (by omega) (by omega)
  split <;> simp [h1, h2, h3]
theorem prE_txt {n lo : Int} (h : lo ≤ n) (h2 : I64 n) : prE (txt n) lo MXI = 0 ∧ prN (txt n) lo MXI = n := by
  have hv := txt_val n
  have := prE_in (l := txt n) (lo := lo) (hi := MXI) (txt_form n) ⟨by rw [hv]; exact h, by rw [hv]; exact h2.2⟩
  rw [hv] at this
  exact ⟨this.2, this.1⟩
theorem evE_ok {v : Ev} (h : evE v = 0) : 1 ≤ v.2.1 ∧ v.2.1 ≤ 3 ∧ 1 ≤ v.1 ∧ 0 ≤ v.2.2 ∧ (v.2.1 ≠ 2 → v.2.2 = 0) := by
  unfold evE at h
  split at h
  · cases h
  · split at h
    · cases h
    · omega
theorem evL_ln {v : Ev} (hok : EvOk v) (h : evE v = 0) : evL (ln v) = some v := by
  obtain ⟨h1, h2, h3, h4, h5⟩ := evE_ok h
  obtain ⟨a, k, lv⟩ := v
  obtain ⟨o1, o2, o3⟩ := hok
  simp only at h1 h2 h3 h4 h5 o1 o2 o3
  obtain ⟨e1, e2⟩ := prE_txt h3 o1
  by_cases hk : k = 2
  · subst hk
    obtain ⟨e3, e4⟩ := prE_txt h4 o3
    have hl : ln (a, 2, lv) = wordL 2 ++ 32 :: (txt a ++ 32 :: txt lv) := by simp [ln]
    rw [hl, evL_pre2 (txt_not (by omega) (by omega)), if_pos ⟨e1, e3⟩, e2, e4]
  · have hl : ln (a, k, lv) = wordL k ++ 32 :: txt a := by simp [ln, hk]
    have h0 := h5 hk
    subst h0
    rw [hl, evL_pre13 (by omega), if_pos e1, e2]
theorem spl_one {c : Nat} : ∀ {l a : List Nat}, spl c l = [a] → l = a := fun {l a} h => by
  by_cases hc : c ∈ l
  · obtain ⟨x, y, rfl, hx⟩ := mem_split_first hc
    rw [spl_hit _ _ _ hx] at h
    injection h with _ h
    exact absurd h (spl_ne _ _)
  · rw [spl_miss _ _ hc] at h
    injection h with h _
theorem pr_inv {l : List Nat} {lo : Int} (h : prE l lo MXI = 0) (hlo : 0 ≤ lo) : lo ≤ prN l lo MXI ∧ I64 (prN l lo MXI) ∧ txt (prN l lo MXI) = l := by
  cases hf : formB l with
  | false => rw [(prE_form hf).2] at h; cases h
  | true =>
    by_cases hr : lo ≤ sval l ∧ sval l ≤ MXI
    · rw [(prE_in hf hr).1]
      exact ⟨hr.1, ⟨by have := hr.1; omega, hr.2⟩, txt_sval l hf⟩
    · rw [(prE_out hf hr).2] at h; cases h
theorem evL_inv {x : List Nat} {v : Ev} (h : evL x = some v) : ln v = x ∧ evE v = 0 ∧ EvOk v := by
  unfold evL at h
  match hs : spl 32 x with
  | [] => rw [hs] at h; cases h
  | [w] => rw [hs] at h; cases h
  | [w, a] =>
    rw [hs] at h
    simp only [evW] at h
    split at h
    · rename_i hc
      obtain ⟨hk, hp⟩ := hc
      obtain ⟨e, _⟩ := kAt_inv (k := kAt w 3) rfl (by omega)
      obtain ⟨rest, hx, hr⟩ := spl_join hs
      have hra := spl_one hr
      obtain ⟨q1, q2, q3⟩ := pr_inv hp (by omega)
      generalize kAt w 3 = k at *
      injection h with h
      subst h
      refine ⟨?_, ?_, q2, ?_, ?_⟩
      · unfold ln
        simp only
        rw [if_neg (by omega), q3, hx, hra, ← e]
        simp
      · unfold evE
        rw [if_neg (by simp only; omega), if_neg (by simp only; omega)]
      · show I64 k
        unfold I64; omega
      · show I64 0
        unfold I64; omega
    · cases h
  | [w, a, b] =>
    rw [hs] at h
    simp only [evW] at h
    split at h
    · rename_i hc
      obtain ⟨hk, hp, hp2⟩ := hc
      obtain ⟨e, _⟩ := kAt_inv (k := 2) hk (by omega)
      obtain ⟨rest, hx, hr⟩ := spl_join hs
      obtain ⟨rest2, hx2, hr2⟩ := spl_join hr
      have hra := spl_one hr2
      obtain ⟨q1, q2, q3⟩ := pr_inv hp (by omega)
      obtain ⟨q4, q5, q6⟩ := pr_inv hp2 (by omega)
      injection h with h
      subst h
      refine ⟨?_, ?_, q2, ?_, q5⟩
      · unfold ln
        simp only [if_true]
        rw [q3, q6, hx, hx2, hra, ← e]
        simp
      · unfold evE
        rw [if_neg (by simp only; omega), if_neg (by simp only; omega)]
      · show I64 2
        unfold I64; omega
    · cases h
  | _ :: _ :: _ :: _ :: _ => rw [hs] at h; cases h
theorem prsW_inv : ∀ (n : Nat) (s : List Nat) (l : List Ev), prsW n (spl 10 s) = some l → s = l.flatMap evT ∧ l.length ≤ n ∧ ∀ v ∈ l, EvOk v ∧ evE v = 0 := by
  intro n
  induction n with
  | zero =>
    intro s l h
    by_cases h10 : 10 ∈ s
    · obtain ⟨x, y, rfl, hx⟩ := mem_split_first h10
      rw [prsW_hit _ _ hx] at h; cases h
    · by_cases h0 : s = []
      · subst h0
        rw [prsW_nil] at h
        injection h with h; subst h
        exact ⟨rfl, Nat.le_refl _, fun v hv => by cases hv⟩
      · rw [prsW_miss _ h10 h0] at h; cases h
  | succ n ih =>
    intro s l h
    by_cases h10 : 10 ∈ s
    · obtain ⟨x, y, rfl, hx⟩ := mem_split_first h10
      rw [prsW_hit _ _ hx] at h
      simp only at h
      cases hv : evL x with
      | none => rw [hv] at h; cases h
      | some v =>
        rw [hv] at h
        simp only [Option.map_eq_some_iff] at h
        obtain ⟨r, hr, rfl⟩ := h
        obtain ⟨h1, h2, h3⟩ := ih y r hr
        obtain ⟨e1, e2, e3⟩ := evL_inv hv
        refine ⟨?_, by simp; omega, fun u hu => ?_⟩
        · rw [List.flatMap_cons, evT_ln, e1, ← h1]; simp
        · rcases List.mem_cons.1 hu with rfl | hu
          · exact ⟨e3, e2⟩
          · exact h3 u hu
    · by_cases h0 : s = []
      · subst h0
        rw [prsW_nil] at h
        injection h with h; subst h
        exact ⟨rfl, Nat.zero_le _, fun v hv => by cases hv⟩
      · rw [prsW_miss _ h10 h0] at h; cases h
theorem prsW_txt : ∀ (l : List Ev) (n : Nat), l.length ≤ n → (∀ v ∈ l, EvOk v ∧ evE v = 0) → prsW n (spl 10 (l.flatMap evT)) = some l
  | [], n, _, _ => prsW_nil n
  | v :: l, 0, h, _ => by simp at h
  | v :: l, n + 1, h, hv => by
    have ih := prsW_txt l n (by simp at h; omega) fun u hu => hv u (.tail _ hu)
    have hvv := hv v (.head _)
    rw [List.flatMap_cons, evT_ln, List.append_assoc, List.singleton_append, prsW_hit _ _ (ln10 v), evL_ln hvv.1 hvv.2]
    simp only [ih, Option.map_some]
/-- Parse undoes Text. -/
theorem back_text {l : List Ev} (h : l.length ≤ 256) (hv : ∀ v ∈ l, EvOk v ∧ evE v = 0) : txC l = 0 ∧ prsE (txS l) = 0 ∧ prsL (txS l) = l := by
  have hg := tx_good l fun j u hu => (hv u (List.mem_of_getElem? hu)).2
  have hC : txC l = 0 := by unfold txC; rw [if_neg (by omega), hg]
  have hS : txS l = l.flatMap evT := by unfold txS; rw [if_neg (by omega), hg]
  have hlen := flat_evT_len l fun v hm => (hv v hm).1
  rw [hS]
  obtain ⟨h1, h2⟩ := prs_good (l := l.flatMap evT) (by omega) (prsW_txt l 256 h hv)
  exact ⟨hC, h1, h2⟩
/-- Text undoes Parse. -/
theorem back_parse {s : List Nat} (h : prsE s = 0) : txC (prsL s) = 0 ∧ txS (prsL s) = s ∧ ∀ v ∈ prsL s, EvOk v := by
  unfold prsE at h
  split at h
  · cases h
  · rename_i hl
    split at h
    · rename_i hs
      obtain ⟨l, hp⟩ := Option.isSome_iff_exists.1 hs
      obtain ⟨h1, h2, h3⟩ := prsW_inv 256 s l hp
      have hL : prsL s = l := by unfold prsL; rw [if_neg hl, hp]; rfl
      rw [hL]
      have hg := tx_good l fun j u hu => (h3 u (List.mem_of_getElem? hu)).2
      exact ⟨by unfold txC; rw [if_neg (by omega), hg], by unfold txS; rw [if_neg (by omega), hg]; exact h1.symm, fun v hv => (h3 v hv).1⟩
    · cases h
theorem prs_bad_nil {s : List Nat} (h : prsE s ≠ 0) : prsL s = [] := by
  unfold prsE at h
  unfold prsL
  split
  · rfl
  · rename_i hl
    rw [if_neg hl] at h
    cases hp : prs s with
    | none => rfl
    | some l => rw [hp] at h; simp at h
theorem spV_ok {M vars x : Int} (h1 : 1 ≤ M) (h2 : M ≤ 1048576) (hv : 0 ≤ vars) (hv2 : vars ≤ 64) : EvOk (spV M vars x) ∧ evE (spV M vars x) = 0 ∧ evP vars.toNat (spV M vars x) = 0 := by
  have m1 : 0 ≤ up (nx x) % M := Int.emod_nonneg _ (by omega)
  have m2 : up (nx x) % M < M := Int.emod_lt_of_pos _ (by omega)
  have m3 : 0 ≤ up (nx (nx x)) % 3 := Int.emod_nonneg _ (by omega)
  have m4 : up (nx (nx x)) % 3 < 3 := Int.emod_lt_of_pos _ (by omega)
  unfold spV
  generalize up (nx x) % M = a at *
  generalize up (nx (nx x)) % 3 = b at *
  by_cases hb : b = 1
  · rw [if_pos hb]
    by_cases hw : vars < 2
    · rw [if_pos hw]
      refine ⟨⟨?_, ?_, ?_⟩, ?_, ?_⟩
      · show I64 (1 + a); unfold I64; omega
      · show I64 1; unfold I64; omega
      · show I64 0; unfold I64; omega
      · unfold evE; rw [if_neg (by simp only; omega), if_neg (by simp only; omega)]
      · unfold evP; rw [if_neg (by simp only; omega), if_neg (by simp only; omega)]
    · rw [if_neg hw]
      have m5 : 0 ≤ up (nx (nx (nx x))) % (vars - 1) := Int.emod_nonneg _ (by omega)
      have m6 : up (nx (nx (nx x))) % (vars - 1) < vars - 1 := Int.emod_lt_of_pos _ (by omega)
      generalize up (nx (nx (nx x))) % (vars - 1) = c at *
      refine ⟨⟨?_, ?_, ?_⟩, ?_, ?_⟩
      · show I64 (1 + a); unfold I64; omega
      · show I64 2; unfold I64; omega
      · show I64 c; unfold I64; omega
      · unfold evE; rw [if_neg (by simp only; omega), if_neg (by simp only; omega)]
      · unfold evP; rw [if_neg (by simp only; omega), if_neg (by simp only; omega)]
  · rw [if_neg hb]
    refine ⟨⟨?_, ?_, ?_⟩, ?_, ?_⟩
    · show I64 (1 + a); unfold I64; omega
    · show I64 (1 + b); unfold I64; omega
    · show I64 0; unfold I64; omega
    · unfold evE; rw [if_neg (by simp only; omega), if_neg (by simp only; omega)]
    · unfold evP; rw [if_neg (by simp only; omega), if_neg (by simp only; omega)]
theorem spL_ok {M vars : Int} (h1 : 1 ≤ M) (h2 : M ≤ 1048576) (hv : 0 ≤ vars) (hv2 : vars ≤ 64) : ∀ (n : Nat) (x : Int), ∀ v ∈ spL M vars n x, EvOk v ∧ evE v = 0 ∧ evP vars.toNat v = 0
  | 0, _, v, h => by cases h
  | n + 1, x, v, h => by
    rcases List.mem_cons.1 h with rfl | h
    · exact spV_ok h1 h2 hv hv2
    · exact spL_ok h1 h2 hv hv2 n _ v h
end Go.Proofs.YtmgjoggffnogfaaDoor
