/- ptext: the reader's word. -/
import Derived.Test.YtmhdcjjcddpciaaTh
import Derived.WalkLawsBesides
namespace Go.Proofs.Ytmhdcjjcddpciaa
set_option linter.unusedSimpArgs false
set_option linter.unusedVariables false
open Go.RowKit
theorem ty_agg44 : aggB Try.prog 44 = some true := by kernel_rfl
theorem ty_sz44 : sizeB Try.prog 44 = some 2 := by kernel_rfl
theorem ty_z44 : zeroB Try.prog 44 = some (.agg #[.string ByteArray.empty, .int .i64 0]) := by kernel_rfl
theorem ty_agg9 : aggB Try.prog 9 = some false := by kernel_rfl
theorem ty_sz9 : sizeB Try.prog 9 = some 1 := by kernel_rfl
theorem ty_z9 : zeroB Try.prog 9 = some (.string ByteArray.empty) := by kernel_rfl
set_option maxHeartbeats 2000000 in
set_option maxRecDepth 100000 in
theorem word_any (E : World) (I : PH) (ms : List PH) (R : Nat) (s wd : ByteArray) (a : Nat) (w : World) (hs : s.size ≤ 66000) (ha : a ≤ 66000) (hw : wd.size ≤ 10) (hal : a ≤ s.size) (hS : Sat E I (rd R s a :: ms) w) :
    Calls Try.prog 24 #[.pointer (some ⟨R, 0, none⟩), .string wd] w fun e w' => e = wordE (sword (lst s) a (lst wd)) ∧ Sat E I (rd R s (sword (lst s) a (lst wd)).1 :: ms) w' := by
  have a0 : (0 : Int) ≤ (a : Int) := by omega
  have a1 : (a : Int) ≤ 66000 := by omega
  generalize hq : sword (lst s) a (lst wd) = q
  have HQ := Lib.hid hq
  clear hq
  go_enter Try.func24, Try.ntmps24
  go_wp2_with fail
  have HS0 := Lib.hid hS
  clear hS
  go_loopw [7] (fun v7 wr => ∃ i : Nat, i ≤ wd.size ∧ v7 = .int .i64 (i : Int) ∧ a + i ≤ s.size ∧ Stood (lst s) a (lst wd) i ∧ Sat E I (rd R s ((a + i : Nat) : Int) :: ms) wr) (fun i _ => (10 - intOf i).toNat)
  case atStart => exact ⟨0, by omega, rfl, by omega, Stood.zero _ _ _, HS0.out⟩
  case round =>
    obtain ⟨i, hi, rfl, hai, hst, hS⟩ := hrel
    clear HS0
    have i0 : (0 : Int) ≤ (i : Int) := by omega
    have i1 : (i : Int) ≤ 10 := by omega
    have HSt := Lib.hid hst
    clear hst
    by_cases hlt : i < wd.size
    · obtain ⟨c, hc, hc2, hcl⟩ := byteI wd i hlt
      have dl : decide ((i : Int) < (wd.size : Int)) = true := by simp; omega
      have HC := Lib.hid hcl
      have j0 : (i : Int) < (wd.size : Int) := by omega
      have IS := Lib.hid (fun w' => is_any E I ms R s (wd.extract i (i + 1)) (a + i) w' hs (by omega))
      rw [lst_cut wd i c hcl, hasB_one] at IS
      have x1 : (i : Int).toNat = i := by omega
      have x2 : ((i : Int) + 1).toNat = i + 1 := by omega
      have hsl : ∀ w', (Instr.slice 9 (.string wd) (some (.int .i64 (i : Int))) (some (.int .i64 ((i : Int) + 1))) none).run Try.prog w' = .ok (.string (wd.extract i (i + 1))) w' := fun w' => by
        have := run_slice_string (P := Try.prog) w' 9 wd .i64 .i64 (i : Int) ((i : Int) + 1) Try.underlying9 (by omega) (by omega) (by omega)
        rwa [x1, x2] at this
      clear hcl hc
      by_cases hcs : (lst s)[a + i]? = some c
      · rw [decide_eq_true hcs] at IS
        go_wp2_with (first | ((with_reducible refine atList ?_); first | ((with_reducible refine isGuard ?_); first | go_skip | (refine guarded_yes ?hw ?_; case hw => (simp only [Region.wanted, yielded, List.getElem?_toArray, List.getElem?_cons_succ, List.getElem?_cons_zero, Option.bind_some, beq_self_eq_true]; done)) | ((refine' guarded_cases (b := _) ?hy ?_ ?_); (case hy => (simp only [yielded, List.getElem?_toArray, List.getElem?_cons_succ, List.getElem?_cons_zero, Option.bind_some]; exact rfl)); all_goals (intro hb; (try simp only [Bool.not_true, Bool.not_false] at hb); (try simp only [hb]); (try simp only [Act.put, List.setIfInBounds_toArray, List.set_cons_succ, List.set_cons_zero]); first | ((have hf : False := by (simp at hb; done)); cases hf) | ((have hf : False := by (simp at hb; omega)); cases hf) | skip))) | ((with_reducible refine isLoad ?_); first | (refine ld1 0 hS rfl rfl ?ha rfl rfl rfl ?_; (case ha => first | exact ty_agg3); (try simp only [Act.put, List.setIfInBounds_toArray, List.set_cons_succ, List.set_cons_zero])) | ((refine' ldI1 (v := _) hS rfl rfl ?ha rfl ?hb ?_); (case ha => first | exact ty_agg3); (case hb => assumption); (try simp only [Act.put, List.setIfInBounds_toArray, List.set_cons_succ, List.set_cons_zero]))) | ((with_reducible refine isStore ?_); first | (refine st1 0 hS rfl rfl rfl rfl rfl ?ha rfl rfl ?hb ?_; (case ha => first | exact ty_sz3); (case hb => (simp; done)); clear hS; intro w hS; (try simp only [List.set_cons_succ, List.set_cons_zero, List.setIfInBounds_toArray, Act.eval, Array.getD_eq_getD_getElem?, List.getElem?_toArray, List.getElem?_cons_succ, List.getElem?_cons_zero, Option.getD_some, Value.cells] at hS); (try simp only [Act.put, List.setIfInBounds_toArray, List.set_cons_succ, List.set_cons_zero]))) | ((with_reducible refine isBox ?_); refine bx hS rfl rfl rfl ?_; clear hS; intro X w hS; (try simp only [Act.eval, Array.getD_eq_getD_getElem?, List.getElem?_toArray, List.getElem?_cons_succ, List.getElem?_cons_zero, Option.getD_some, Value.cells] at hS); (try simp only [Act.put, List.setIfInBounds_toArray, List.set_cons_succ, List.set_cons_zero])) | ((with_reducible refine isAlloc ?_); (refine' al (z := _) hS rfl rfl ?ha ?_); (case ha => first | exact ty_z3); clear hS; intro X w hS; (try simp only [Act.eval, Array.getD_eq_getD_getElem?, List.getElem?_toArray, List.getElem?_cons_succ, List.getElem?_cons_zero, Option.getD_some, Value.cells] at hS); (try simp only [Act.put, List.setIfInBounds_toArray, List.set_cons_succ, List.set_cons_zero]))) | (go_at_call 23; (first | (refine Calls.mono (IS.out _ hS) ?_); clear hS; rintro e w ⟨rfl, hS⟩)))
        have hin : a + i < s.size := by
          have := (List.getElem?_eq_some_iff.1 hcs).1
          rwa [lst_length] at this
        exact ⟨⟨i + 1, by omega, by go_num, by omega, HSt.out.step HC.out hcs, by simpa [rd, Int.add_assoc] using hS⟩, by simp [intOf]; omega⟩
      · rw [decide_eq_false hcs] at IS
        have HF := Lib.hid (HSt.out.stop HC.out hcs)
        go_wp2_with (first | ((with_reducible refine atList ?_); first | ((with_reducible refine isGuard ?_); first | go_skip | (refine guarded_yes ?hw ?_; case hw => (simp only [Region.wanted, yielded, List.getElem?_toArray, List.getElem?_cons_succ, List.getElem?_cons_zero, Option.bind_some, beq_self_eq_true]; done)) | ((refine' guarded_cases (b := _) ?hy ?_ ?_); (case hy => (simp only [yielded, List.getElem?_toArray, List.getElem?_cons_succ, List.getElem?_cons_zero, Option.bind_some]; exact rfl)); all_goals (intro hb; (try simp only [Bool.not_true, Bool.not_false] at hb); (try simp only [hb]); (try simp only [Act.put, List.setIfInBounds_toArray, List.set_cons_succ, List.set_cons_zero]); first | ((have hf : False := by (simp at hb; done)); cases hf) | ((have hf : False := by (simp at hb; omega)); cases hf) | skip))) | ((with_reducible refine isLoad ?_); first | (refine ld1 0 hS rfl rfl ?ha rfl rfl rfl ?_; (case ha => first | exact ty_agg3); (try simp only [Act.put, List.setIfInBounds_toArray, List.set_cons_succ, List.set_cons_zero])) | ((refine' ldI1 (v := _) hS rfl rfl ?ha rfl ?hb ?_); (case ha => first | exact ty_agg3); (case hb => assumption); (try simp only [Act.put, List.setIfInBounds_toArray, List.set_cons_succ, List.set_cons_zero]))) | ((with_reducible refine isStore ?_); first | (refine st1 0 hS rfl rfl rfl rfl rfl ?ha rfl rfl ?hb ?_; (case ha => first | exact ty_sz3); (case hb => (simp; done)); clear hS; intro w hS; (try simp only [List.set_cons_succ, List.set_cons_zero, List.setIfInBounds_toArray, Act.eval, Array.getD_eq_getD_getElem?, List.getElem?_toArray, List.getElem?_cons_succ, List.getElem?_cons_zero, Option.getD_some, Value.cells] at hS); (try simp only [Act.put, List.setIfInBounds_toArray, List.set_cons_succ, List.set_cons_zero]))) | ((with_reducible refine isBox ?_); refine bx hS rfl rfl rfl ?_; clear hS; intro X w hS; (try simp only [Act.eval, Array.getD_eq_getD_getElem?, List.getElem?_toArray, List.getElem?_cons_succ, List.getElem?_cons_zero, Option.getD_some, Value.cells] at hS); (try simp only [Act.put, List.setIfInBounds_toArray, List.set_cons_succ, List.set_cons_zero])) | ((with_reducible refine isAlloc ?_); (refine' al (z := _) hS rfl rfl ?ha ?_); (case ha => first | exact ty_z3); clear hS; intro X w hS; (try simp only [Act.eval, Array.getD_eq_getD_getElem?, List.getElem?_toArray, List.getElem?_cons_succ, List.getElem?_cons_zero, Option.getD_some, Value.cells] at hS); (try simp only [Act.put, List.setIfInBounds_toArray, List.set_cons_succ, List.set_cons_zero]))) | (go_at_call 23; (first | (refine Calls.mono (IS.out _ hS) ?_); clear hS; rintro e w ⟨rfl, hS⟩)))
        refine ⟨rfl, ?_⟩
        have h2 := HF.out
        rw [HQ.out] at h2
        subst h2
        exact ⟨by simp [wordE, wrongE], hS⟩
    · obtain rfl : i = wd.size := by omega
      have dl : decide ((wd.size : Int) < (wd.size : Int)) = false := by simp
      go_wp2_with fail
      have h := HSt.out
      rw [← lst_length] at h
      have h2 := h.all
      rw [HQ.out, lst_length] at h2
      subst h2
      exact bodyPost_end (results_none rfl _ _ _) rfl ⟨rfl, hS⟩
end Go.Proofs.Ytmhdcjjcddpciaa
