/- The laws of chapter 28, walked. -/
import Derived.Test.YtmgjoggffnogfaaDoorWu
import Derived.Test.YtmgjoggffnogfaaDoorWv
namespace Go.Proofs.YtmgjoggffnogfaaDoor
set_option linter.unusedSimpArgs false
set_option linter.unusedVariables false
open Go.RowKit
set_option linter.unusedVariables false
theorem OwnP.len16 {m : PH} {e : TypeId} {v : Value} {xs : List Ev} (h : OwnP m e 3 v xs.length (evR xs)) : xs.length ≤ maxLen := h.le_max
theorem prsL_len (s : List Nat) : (prsL s).length ≤ 256 := by
  unfold prsL
  split
  · exact Nat.zero_le _
  · cases hp : prs s with
    | none => exact Nat.zero_le _
    | some l => exact (prsW_inv 256 s l hp).2.1
set_option maxHeartbeats 2000000 in
set_option maxRecDepth 100000 in
theorem ereads_any (W : World) (s : ByteArray) (hI : MaxIn (heapOf W)) : Calls Tryd.prog 4 #[.string s] W fun e w' => e = .returned (.bool true) ∧ Below W.heap.size W w' := by
  have hS := Sat.start W
  go_enter Tryd.func4, Tryd.ntmps4
  go_wp2_with fail
  refine (eparse_any _ _ _ _ _ hI hS).mono ?_
  clear hS
  rintro e w ⟨v, m, rfl, hO, hS⟩
  refine Veil.out ?_
  obtain ⟨J, hJ, hm, hS⟩ := hS.frz
  have hR := hO.rowG (f := evC) hm
  obtain ⟨A, c, rfl, _, _, _⟩ := id hR
  refine ⟨?_⟩
  go_wp2_with fail
  refine (rparse28_any _ _ _ _ _ hS).mono ?_
  clear hS
  rintro e w ⟨v2, m2, rfl, hO2, hS⟩
  refine Veil.out ?_
  obtain ⟨J2, hJ2, hm2, hS⟩ := hS.frz
  have hR2 := hO2.rowG (f := evC) hm2
  obtain ⟨A2, c2, rfl, _, _, _⟩ := id hR2
  refine ⟨?_⟩
  go_wp2_with fail
  refine (lsame_any _ _ _ _ _ _ _ (hR.le hJ2) hR2 (by have := prsL_len (lst s); omega) hS).mono ?_
  clear hS
  rintro e w ⟨rfl, hS⟩
  go_wp2_with fail
  refine (lives_any _ _ _ ((hI.le hJ).le hJ2) hS).mono ?_
  clear hS
  rintro e w ⟨rfl, hS⟩
  go_wp2
  go_ret
  exact ⟨rfl, hS.end_ (hJ.trans hJ2)⟩
set_option maxHeartbeats 2000000 in
set_option maxRecDepth 100000 in
theorem espread_any (W : World) (seed many most vars : Int) (hm : I64 many) (hv : I64 vars) (hI : MaxIn (heapOf W)) : Calls Tryd.prog 5 #[.int .u64 seed, .int .i64 many, .int .i64 most, .int .i64 vars] W fun e w' => e = .returned (.bool true) ∧ Below W.heap.size W w' := by
  have hS := Sat.start W
  have hlen : (spL (mostC most) vars (manyC many) seed).length ≤ 256 := by rw [spL_len]; unfold manyC; omega
  go_enter Tryd.func5, Tryd.ntmps5
  go_wp2_with fail
  refine (spread_any _ _ _ _ _ _ _ _ hv hS).mono ?_
  clear hS
  rintro e w ⟨v, m, rfl, hO, hS⟩
  refine Veil.out ?_
  obtain ⟨J, hJ, hm1, hS⟩ := hS.frz
  have hR := hO.rowG (f := evC) hm1
  obtain ⟨A, c, rfl, _, _, _⟩ := id hR
  refine ⟨?_⟩
  go_wp2_with fail
  refine (rspread_any _ _ _ _ _ _ _ _ hm hv hS).mono ?_
  clear hS
  rintro e w ⟨v2, m2, rfl, hO2, hS⟩
  refine Veil.out ?_
  obtain ⟨J2, hJ2, hm2, hS⟩ := hS.frz
  have hR2 := hO2.rowG (f := evC) hm2
  obtain ⟨A2, c2, rfl, _, _, _⟩ := id hR2
  refine ⟨?_⟩
  go_wp2_with fail
  refine (lsame_any _ _ _ _ _ _ _ (hR.le hJ2) hR2 (by omega) hS).mono ?_
  clear hS
  rintro e w ⟨rfl, hS⟩
  go_wp2_with fail
  refine (lives_any _ _ _ ((hI.le hJ).le hJ2) hS).mono ?_
  clear hS
  rintro e w ⟨rfl, hS⟩
  go_wp2
  go_ret
  exact ⟨rfl, hS.end_ (hJ.trans hJ2)⟩
set_option maxHeartbeats 4000000 in
set_option maxRecDepth 100000 in
theorem eright_any (W : World) (vars : Int) (v : Value) (l : List Ev) (hR : RowG (heapOf W) evC v l) (hok : ∀ u ∈ l, EvOk u) (hI : MaxIn (heapOf W)) : Calls Tryd.prog 3 #[.int .i64 vars, v] W fun e w' => e = .returned (.bool true) ∧ Below W.heap.size W w' := by
  have hS := Sat.start W
  obtain ⟨A, c, rfl, hc1, hc2, _⟩ := id hR
  have LV := Lib.hid (fun w hS => lives_any W w (heapOf W) hI hS)
  by_cases h300 : 300 < l.length
  · have h3 : (300 : Int) < l.length := by omega
    go_enter Tryd.func3, Tryd.ntmps3
    go_wp2_with fail
    refine (LV.out _ hS).mono ?_
    clear hS
    rintro e w ⟨rfl, hS⟩
    go_wp2
    go_ret
    exact ⟨rfl, hS.end_ (PH.le.refl _)⟩
  · have h3 : (l.length : Int) ≤ 300 := by omega
    have HR := Lib.hid hR
    have Hok := Lib.hid hok
    clear hR hok h300
    go_enter Tryd.func3, Tryd.ntmps3
    go_wp2_with fail
    refine (etext_any _ _ _ _ l _ HR.out Hok.out hI hS).mono ?_
    clear hS
    rintro e w ⟨str, rfl, hstr, hS⟩
    go_wp2_with fail
    refine (rtext28_any _ _ _ _ l _ HR.out Hok.out hS).mono ?_
    clear hS
    rintro e w ⟨str2, rfl, hstr2, hS⟩
    have he : str2 = str := lst_inj (hstr2.trans hstr.symm)
    subst he
    clear hstr hstr2
    go_wp2_with fail
    refine (right_any _ _ _ _ l _ HR.out hS).mono ?_
    clear hS
    rintro e w ⟨rfl, hS⟩
    go_wp2_with fail
    refine (rright_any _ _ _ _ _ l _ HR.out hS).mono ?_
    clear hS
    rintro e w ⟨rfl, hS⟩
    by_cases hv : vars < 0 ∨ 64 < vars
    · have hr : riE vars l = 2 := by unfold riE; rw [if_pos hv]
      rw [hr]
      go_wp2_with (first | (go_at_call 12; (with_reducible refine Calls.mono (dnew_bad _ _ _ (by omega)) ?_); rintro e w' ⟨rfl, rfl⟩) | (go_at_call 7; (with_reducible refine Calls.mono (LV.out _ hS) ?_); clear hS; rintro e w ⟨rfl, hS⟩))
      go_ret
      exact ⟨rfl, hS.end_ (PH.le.refl _)⟩
    · obtain ⟨n, rfl⟩ : ∃ n : Nat, vars = (n : Int) := ⟨vars.toNat, by omega⟩
      have hr : riE (n : Int) l = plE n 0 l := by unfold riE; rw [if_neg hv]; simp
      rw [hr]
      have hn : n ≤ 64 := by omega
      clear hr hv
      go_wp2_with (first | (go_at_call 12; (with_reducible refine Calls.mono (dnew_ok _ _ _ _ _ _ hn (by omega) (by omega) hS) ?_); clear hS; rintro e w ⟨X, M, H, S, L, P, V1, V2, A1, T, v, m, tl, rfl, htl, hO, hS⟩) | (go_at_call 13; (with_reducible refine Calls.mono (dplan_new _ _ _ _ _ _ _ _ _ _ _ _ _ _ _ _ _ _ hn _ _ _ HR.out hS) ?_); clear hS; rintro e w ⟨rfl, hS⟩) | (go_at_call 7; (with_reducible refine Calls.mono (LV.out _ hS) ?_); clear hS; rintro e w ⟨rfl, hS⟩))
      go_ret
      exact ⟨rfl, hS.end_ (PH.le.refl _)⟩
set_option maxHeartbeats 4000000 in
set_option maxRecDepth 100000 in
theorem eback_any (W : World) (s : ByteArray) (seed many most vars : Int) (hm : I64 many) (hv : I64 vars) (hI : MaxIn (heapOf W)) : Calls Tryd.prog 6 #[.string s, .int .u64 seed, .int .i64 many, .int .i64 most, .int .i64 vars] W fun e w' => e = .returned (.bool true) ∧ Below W.heap.size W w' := by
  have hS := Sat.start W
  by_cases hvv : vars < 0 ∨ 64 < vars
  · have h : decide (vars < 0) = true ∨ (decide (vars < 0) = false ∧ decide (64 < vars) = true) := by simp only [decide_eq_true_eq, decide_eq_false_iff_not]; omega
    rcases h with h | ⟨h, h2⟩
    all_goals
      go_enter Tryd.func6, Tryd.ntmps6
      go_wp2_with (go_at_call 7; (with_reducible refine Calls.mono (lives_any _ _ _ hI hS) ?_); clear hS; rintro e w ⟨rfl, hS⟩)
      go_ret
      exact ⟨rfl, hS.end_ (PH.le.refl _)⟩
  · have d0 : decide (vars < 0) = false := by rw [decide_eq_false_iff_not]; omega
    have d1 : decide (64 < vars) = false := by rw [decide_eq_false_iff_not]; omega
    have hlen : (spL (mostC most) vars (manyC many) seed).length ≤ 256 := by rw [spL_len]; unfold manyC; omega
    have hM1 : 1 ≤ mostC most ∧ mostC most ≤ 1048576 := by unfold mostC; omega
    have hsp := spL_ok (M := mostC most) (vars := vars) hM1.1 hM1.2 (by omega) (by omega) (manyC many) seed
    have hri : riE vars (spL (mostC most) vars (manyC many) seed) = 0 := by
      unfold riE plE
      rw [if_neg (by omega), if_neg (by omega)]
      exact plF_good _ _ fun j u hu => (hsp u (List.mem_of_getElem? hu)).2.2
    obtain ⟨hb1, hb2, hb3⟩ := back_text hlen fun v h => ⟨(hsp v h).1, (hsp v h).2.1⟩
    have hspk : ∀ u ∈ spL (mostC most) vars (manyC many) seed, EvOk u := fun u h => (hsp u h).1
    have SP := Lib.hid (fun w hS => spread_any W (heapOf W) [] seed many most vars w hv hS)
    generalize spL (mostC most) vars (manyC many) seed = made at *
    clear hsp hM1 hm hv hvv
    go_enter Tryd.func6, Tryd.ntmps6
    go_wp2_with fail
    refine (SP.out _ hS).mono ?_
    clear hS SP
    rintro e w ⟨v, m, rfl, hO, hS⟩
    refine Veil.out ?_
    obtain ⟨J, hJ, hm1, hS⟩ := hS.frz
    have hR := hO.rowG (f := evC) hm1
    have hI := hI.le hJ
    obtain ⟨A, c, rfl, _, _, _⟩ := id hR
    refine ⟨?_⟩
    go_wp2_with fail
    refine (right_any _ _ _ _ made _ hR hS).mono ?_
    clear hS
    rintro e w ⟨rfl, hS⟩
    rw [hri]
    go_wp2_with fail
    refine (etext_any _ _ _ _ made _ hR hspk hI hS).mono ?_
    clear hS
    rintro e w ⟨str, rfl, hstr, hS⟩
    rw [hb1]
    rw [← hstr] at hb2 hb3
    go_wp2_with fail
    refine (eparse_any _ _ _ _ _ hI hS).mono ?_
    clear hS
    rintro e w ⟨v2, m2, rfl, hO2, hS⟩
    rw [hb2]
    rw [hb3] at hO2
    refine Veil.out ?_
    obtain ⟨J2, hJ2, hm2, hS⟩ := hS.frz
    have hR2 := hO2.rowG (f := evC) hm2
    have hI := hI.le hJ2
    obtain ⟨A2, c2, rfl, _, _, _⟩ := id hR2
    refine ⟨?_⟩
    clear hb1 hb2 hb3 hstr
    go_wp2_with fail
    refine (lsame_any _ _ _ _ _ _ _ (hR.le hJ2) hR2 (by omega) hS).mono ?_
    clear hS
    rintro e w ⟨rfl, hS⟩
    go_wp2_with fail
    refine (eparse_any _ _ _ _ _ hI hS).mono ?_
    clear hS
    rintro e w ⟨v3, m3, rfl, hO3, hS⟩
    refine Veil.out ?_
    obtain ⟨J3, hJ3, hm3, hS⟩ := hS.frz
    have hR3 := hO3.rowG (f := evC) hm3
    have hI := hI.le hJ3
    obtain ⟨A3, c3, rfl, _, _, _⟩ := id hR3
    refine ⟨?_⟩
    have hJJ := hJ.trans (hJ2.trans hJ3)
    by_cases hp : prsE (lst s) = 0
    · obtain ⟨q1, q2, q3⟩ := back_parse hp
      rw [hp]
      go_wp2_with fail
      refine (etext_any _ _ _ _ _ _ hR3 q3 hI hS).mono ?_
      clear hS
      rintro e w ⟨str3, rfl, hstr3, hS⟩
      rw [q1]
      have he : str3 = s := lst_inj (hstr3.trans q2)
      subst he
      clear hstr3 q1 q2 q3
      go_wp2_with (go_at_call 7; (with_reducible refine Calls.mono (lives_any _ _ _ hI hS) ?_); clear hS; rintro e w ⟨rfl, hS⟩)
      go_ret
      exact ⟨rfl, hS.end_ hJJ⟩
    · have h0 := prs_bad_nil hp
      have hl0 : (prsL (lst s)).length = 0 := by rw [h0]; rfl
      have hpb : (prsE (lst s) != 0) = true := by rw [bne_iff_ne]; exact hp
      clear h0
      go_wp2_with (go_at_call 7; (with_reducible refine Calls.mono (lives_any _ _ _ hI hS) ?_); clear hS; rintro e w ⟨rfl, hS⟩)
      go_ret
      exact ⟨rfl, hS.end_ hJJ⟩
end Go.Proofs.YtmgjoggffnogfaaDoor
