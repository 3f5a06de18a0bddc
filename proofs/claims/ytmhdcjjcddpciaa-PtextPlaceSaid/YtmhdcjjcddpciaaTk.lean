/- ptext: the reader's variable, the walk. -/
import Derived.Test.YtmhdcjjcddpciaaTj
namespace Go.Proofs.Ytmhdcjjcddpciaa
set_option linter.unusedSimpArgs false
set_option linter.unusedVariables false
open Go.RowKit
set_option maxHeartbeats 4000000 in
set_option maxRecDepth 100000 in
theorem variable_any (E : World) (I : PH) (ms : List PH) (R : Nat) (s : ByteArray) (f : Nat) (w : World) (hs : s.size ≤ 66000) (ha : f ≤ 66000) (hS : Sat E I (rd R s f :: ms) w) :
    Calls Try.prog 25 #[.pointer (some ⟨R, 0, none⟩)] w fun e w' => e = varE (lst s) f ∧ Sat E I (rd R s (nameEnd (lst s) f) :: ms) w' := by
  have a0 : (0 : Int) ≤ (f : Int) := by omega
  have a1 : (f : Int) ≤ 66000 := by omega
  have IS := Lib.hid (fun (a : Nat) (ha : a ≤ 66000) w' => is_any E I ms R s ⟨#[48, 49, 50, 51, 52, 53, 54, 55, 56, 57]⟩ a w' hs ha)
  simp only [hasB_digits] at IS
  generalize hq : varE (lst s) f = q
  have HQ := Lib.hid hq
  clear hq
  generalize hn : nameEnd (lst s) f = ne
  have HN := Lib.hid hn
  clear hn
  by_cases hd0 : isDig (lst s)[f]? = true
  case neg =>
    have h0 : isDig (lst s)[f]? = false := by simpa using hd0
    have h1 : nameEnd (lst s) f = f := by have := (Dg.zero (lst s) f).stop (.inr (.inl (by rw [Nat.add_zero]; exact h0))); rwa [Nat.add_zero] at this
    have h2 : wrongE (f : Int) = q := by rw [← HQ.out, varE, h1, if_neg (by omega)]
    have IS := Lib.hid (IS.out f ha)
    rw [h0] at IS
    rw [HN.out] at h1
    subst h1
    go_enter Try.func25, Try.ntmps25
    go_wp2_with (first | ((with_reducible refine atList ?_); first | ((with_reducible refine isGuard ?_); first | go_skip | (refine guarded_yes ?hw ?_; case hw => (simp only [Region.wanted, yielded, List.getElem?_toArray, List.getElem?_cons_succ, List.getElem?_cons_zero, Option.bind_some, beq_self_eq_true]; done)) | ((refine' guarded_cases (b := _) ?hy ?_ ?_); (case hy => (simp only [yielded, List.getElem?_toArray, List.getElem?_cons_succ, List.getElem?_cons_zero, Option.bind_some]; exact rfl)); all_goals (intro hb; (try simp only [Bool.not_true, Bool.not_false] at hb); (try simp only [hb]); (try simp only [Act.put, List.setIfInBounds_toArray, List.set_cons_succ, List.set_cons_zero]); first | ((have hf : False := by (simp at hb; done)); cases hf) | ((have hf : False := by (simp at hb; omega)); cases hf) | skip))) | ((with_reducible refine isLoad ?_); first | (refine ld1 0 hS rfl rfl ?ha rfl rfl rfl ?_; (case ha => first | exact ty_agg3 | exact ty_agg9); (try simp only [Act.put, List.setIfInBounds_toArray, List.set_cons_succ, List.set_cons_zero])) | ((refine' ldI1 (v := _) hS rfl rfl ?ha rfl ?hb ?_); (case ha => first | exact ty_agg3 | exact ty_agg9); (case hb => assumption); (try simp only [Act.put, List.setIfInBounds_toArray, List.set_cons_succ, List.set_cons_zero]))) | ((with_reducible refine isStore ?_); first | (refine st1 0 hS rfl rfl rfl rfl rfl ?ha rfl rfl ?hb ?_; (case ha => first | exact ty_sz3 | exact ty_sz9); (case hb => (simp; done)); clear hS; intro w hS; (try simp only [List.set_cons_succ, List.set_cons_zero, List.setIfInBounds_toArray, Act.eval, Array.getD_eq_getD_getElem?, List.getElem?_toArray, List.getElem?_cons_succ, List.getElem?_cons_zero, Option.getD_some, Value.cells] at hS); (try simp only [Act.put, List.setIfInBounds_toArray, List.set_cons_succ, List.set_cons_zero]))) | ((with_reducible refine isBox ?_); refine bx hS rfl rfl rfl ?_; clear hS; intro X w hS; (try simp only [Act.eval, Array.getD_eq_getD_getElem?, List.getElem?_toArray, List.getElem?_cons_succ, List.getElem?_cons_zero, Option.getD_some, Value.cells] at hS); (try simp only [Act.put, List.setIfInBounds_toArray, List.set_cons_succ, List.set_cons_zero])) | ((with_reducible refine isAlloc ?_); (refine' al (z := _) hS rfl rfl ?ha ?_); (case ha => first | exact ty_z3 | exact ty_z9); clear hS; intro X w hS; (try simp only [Act.eval, Array.getD_eq_getD_getElem?, List.getElem?_toArray, List.getElem?_cons_succ, List.getElem?_cons_zero, Option.getD_some, Value.cells] at hS); (try simp only [Act.put, List.setIfInBounds_toArray, List.set_cons_succ, List.set_cons_zero]))) | (go_at_call 23; (first | (refine Calls.mono (IS.out _ hS) ?_); clear hS; rintro e w ⟨rfl, hS⟩)))
    refine ⟨rfl, h2, hS⟩
  have HFS := Lib.hid (show f < s.size by
    cases h : (lst s)[f]? with
    | none => rw [h] at hd0; cases hd0
    | some c => have := (List.getElem?_eq_some_iff.1 h).1; rwa [lst_length] at this)
  go_enter Try.func25, Try.ntmps25
  have IS0 := IS
  have IS := Lib.hid (IS0.out f ha)
  rw [hd0] at IS
  go_wp2_with (first | ((with_reducible refine atList ?_); first | ((with_reducible refine isGuard ?_); first | go_skip | (refine guarded_yes ?hw ?_; case hw => (simp only [Region.wanted, yielded, List.getElem?_toArray, List.getElem?_cons_succ, List.getElem?_cons_zero, Option.bind_some, beq_self_eq_true]; done)) | ((refine' guarded_cases (b := _) ?hy ?_ ?_); (case hy => (simp only [yielded, List.getElem?_toArray, List.getElem?_cons_succ, List.getElem?_cons_zero, Option.bind_some]; exact rfl)); all_goals (intro hb; (try simp only [Bool.not_true, Bool.not_false] at hb); (try simp only [hb]); (try simp only [Act.put, List.setIfInBounds_toArray, List.set_cons_succ, List.set_cons_zero]); first | ((have hf : False := by (simp at hb; done)); cases hf) | ((have hf : False := by (simp at hb; omega)); cases hf) | skip))) | ((with_reducible refine isLoad ?_); first | (refine ld1 0 hS rfl rfl ?ha rfl rfl rfl ?_; (case ha => first | exact ty_agg3 | exact ty_agg9); (try simp only [Act.put, List.setIfInBounds_toArray, List.set_cons_succ, List.set_cons_zero])) | ((refine' ldI1 (v := _) hS rfl rfl ?ha rfl ?hb ?_); (case ha => first | exact ty_agg3 | exact ty_agg9); (case hb => assumption); (try simp only [Act.put, List.setIfInBounds_toArray, List.set_cons_succ, List.set_cons_zero]))) | ((with_reducible refine isStore ?_); first | (refine st1 0 hS rfl rfl rfl rfl rfl ?ha rfl rfl ?hb ?_; (case ha => first | exact ty_sz3 | exact ty_sz9); (case hb => (simp; done)); clear hS; intro w hS; (try simp only [List.set_cons_succ, List.set_cons_zero, List.setIfInBounds_toArray, Act.eval, Array.getD_eq_getD_getElem?, List.getElem?_toArray, List.getElem?_cons_succ, List.getElem?_cons_zero, Option.getD_some, Value.cells] at hS); (try simp only [Act.put, List.setIfInBounds_toArray, List.set_cons_succ, List.set_cons_zero]))) | ((with_reducible refine isBox ?_); refine bx hS rfl rfl rfl ?_; clear hS; intro X w hS; (try simp only [Act.eval, Array.getD_eq_getD_getElem?, List.getElem?_toArray, List.getElem?_cons_succ, List.getElem?_cons_zero, Option.getD_some, Value.cells] at hS); (try simp only [Act.put, List.setIfInBounds_toArray, List.set_cons_succ, List.set_cons_zero])) | ((with_reducible refine isAlloc ?_); (refine' al (z := _) hS rfl rfl ?ha ?_); (case ha => first | exact ty_z3 | exact ty_z9); clear hS; intro X w hS; (try simp only [Act.eval, Array.getD_eq_getD_getElem?, List.getElem?_toArray, List.getElem?_cons_succ, List.getElem?_cons_zero, Option.getD_some, Value.cells] at hS); (try simp only [Act.put, List.setIfInBounds_toArray, List.set_cons_succ, List.set_cons_zero]))) | (go_at_call 23; (first | (refine Calls.mono (IS.out _ hS) ?_); clear hS; rintro e w ⟨rfl, hS⟩)))
  clear IS
  have HS0 := Lib.hid hS
  clear hS
  go_loopw [] (fun wr => ∃ j : Nat, Dg (lst s) f j ∧ f + j ≤ s.size ∧ Sat E I (rd R s ((f : Int) + (j : Int)) :: ms) wr) (fun wr => (f + 10 - intOf ((wr.cell? ⟨R, 1, none⟩).getD undef)).toNat)
  case atStart => exact ⟨0, Dg.zero _ _, by have := HFS.out; omega, by simpa using HS0.out⟩
  case round =>
    obtain ⟨j, hD, hfj, hS⟩ := hrel
    clear HS0
    have hjl := hD.le
    have HD := Lib.hid hD
    have IS0 := IS
    have IS := Lib.hid (IS0.out (f + j) (by omega))
    rw [Int.natCast_add] at IS
    have j0 : (0 : Int) ≤ (j : Int) := by omega
    have j4 : (j : Int) ≤ 4 := by omega
    have hfs := HFS.out
    have hmu : intOf ((wr.cell? ⟨R, 1, none⟩).getD undef) = (f : Int) + (j : Int) := by
      have := (hS.rule 0 rfl).1 1
      rw [this]; rfl
    have HMU := Lib.hid hmu
    clear hmu hD
    by_cases hdj : isDig (lst s)[f + j]? = true
    case neg =>
      have h0 : isDig (lst s)[f + j]? = false := by simpa using hdj
      have hj1 : 0 < j := by
        rcases Nat.eq_zero_or_pos j with h | h
        · subst h; exact absurd hd0 hdj
        · exact h
      rw [h0] at IS
      have hin : f + j ≤ s.size := by
        have := HD.out.all.2
        rw [List.length_take, List.length_drop, lst_length] at this
        omega
      have hje := HD.out.stop (.inr (.inl h0))
      have hnum := HD.out.num (by omega)
      have he : Ending.returned (.int .i64 (nameVal (lst s) f (f + j))) = q := by rw [← HQ.out, varE, hje, if_pos (by omega)]
      have hlx := lst_ext s f (f + j)
      rw [show f + j - f = j by omega] at hlx
      have PR := Lib.hid (fun w' => parse_any (s.extract f (f + j)) 0 9999 w' (by rw [ByteArray.size_extract]; omega) ⟨by omega, by omega⟩ ⟨by omega, by omega⟩)
      rw [hlx, hnum] at PR
      generalize prE ((lst s).drop f |>.take j) 0 9999 = pe at *
      generalize nameVal (lst s) f (f + j) = nv at *
      have x1 : (f : Int).toNat = f := by omega
      have x2 : ((f : Int) + (j : Int)).toNat = f + j := by omega
      have hsl : ∀ w', (Instr.slice 9 (.string s) (some (.int .i64 (f : Int))) (some (.int .i64 ((f : Int) + (j : Int)))) none).run Try.prog w' = .ok (.string (s.extract f (f + j))) w' := fun w' => by
        have := run_slice_string (P := Try.prog) w' 9 s .i64 .i64 (f : Int) ((f : Int) + (j : Int)) Try.underlying9 (by omega) (by omega) (by omega)
        rwa [x1, x2] at this
      rw [hje] at HN
      clear hlx hnum
      go_wp2_with (first | ((with_reducible refine atList ?_); first | ((with_reducible refine isGuard ?_); first | go_skip | (refine guarded_yes ?hw ?_; case hw => (simp only [Region.wanted, yielded, List.getElem?_toArray, List.getElem?_cons_succ, List.getElem?_cons_zero, Option.bind_some, beq_self_eq_true]; done)) | ((refine' guarded_cases (b := _) ?hy ?_ ?_); (case hy => (simp only [yielded, List.getElem?_toArray, List.getElem?_cons_succ, List.getElem?_cons_zero, Option.bind_some]; exact rfl)); all_goals (intro hb; (try simp only [Bool.not_true, Bool.not_false] at hb); (try simp only [hb]); (try simp only [Act.put, List.setIfInBounds_toArray, List.set_cons_succ, List.set_cons_zero]); first | ((have hf : False := by (simp at hb; done)); cases hf) | ((have hf : False := by (simp at hb; omega)); cases hf) | skip))) | ((with_reducible refine isLoad ?_); first | (refine ld1 0 hS rfl rfl ?ha rfl rfl rfl ?_; (case ha => first | exact ty_agg3 | exact ty_agg9); (try simp only [Act.put, List.setIfInBounds_toArray, List.set_cons_succ, List.set_cons_zero])) | ((refine' ldI1 (v := _) hS rfl rfl ?ha rfl ?hb ?_); (case ha => first | exact ty_agg3 | exact ty_agg9); (case hb => assumption); (try simp only [Act.put, List.setIfInBounds_toArray, List.set_cons_succ, List.set_cons_zero]))) | ((with_reducible refine isStore ?_); first | (refine st1 0 hS rfl rfl rfl rfl rfl ?ha rfl rfl ?hb ?_; (case ha => first | exact ty_sz3 | exact ty_sz9); (case hb => (simp; done)); clear hS; intro w hS; (try simp only [List.set_cons_succ, List.set_cons_zero, List.setIfInBounds_toArray, Act.eval, Array.getD_eq_getD_getElem?, List.getElem?_toArray, List.getElem?_cons_succ, List.getElem?_cons_zero, Option.getD_some, Value.cells] at hS); (try simp only [Act.put, List.setIfInBounds_toArray, List.set_cons_succ, List.set_cons_zero]))) | ((with_reducible refine isBox ?_); refine bx hS rfl rfl rfl ?_; clear hS; intro X w hS; (try simp only [Act.eval, Array.getD_eq_getD_getElem?, List.getElem?_toArray, List.getElem?_cons_succ, List.getElem?_cons_zero, Option.getD_some, Value.cells] at hS); (try simp only [Act.put, List.setIfInBounds_toArray, List.set_cons_succ, List.set_cons_zero])) | ((with_reducible refine isAlloc ?_); (refine' al (z := _) hS rfl rfl ?ha ?_); (case ha => first | exact ty_z3 | exact ty_z9); clear hS; intro X w hS; (try simp only [Act.eval, Array.getD_eq_getD_getElem?, List.getElem?_toArray, List.getElem?_cons_succ, List.getElem?_cons_zero, Option.getD_some, Value.cells] at hS); (try simp only [Act.put, List.setIfInBounds_toArray, List.set_cons_succ, List.set_cons_zero]))) | (go_at_call 23; (first | (refine Calls.mono (IS.out _ hS) ?_); clear hS; rintro e w ⟨rfl, hS⟩)))
      have hq := hS.rule 0 rfl
      have f0 := hq.1 0
      have f1 := hq.1 1
      simp only [List.getElem?_toArray, List.getElem?_cons_zero, List.getElem?_cons_succ] at f0 f1
      clear hq
      go_quiet ((go_at_call 38; exact Calls.quiet_of_same ((PR.out _).mono fun e w' h => ⟨h.1, h.2.symm⟩)))
      have hS2 := hS.drewN nq
      clear hS f0 f1
      go_wp2_with fail
      go_ret
      exact ⟨he, by rw [← HN.out, Int.natCast_add]; exact hS2⟩

    have hin : f + j < s.size := by
      cases h : (lst s)[f + j]? with
      | none => rw [h] at hdj; cases hdj
      | some c => have := (List.getElem?_eq_some_iff.1 h).1; rwa [lst_length] at this
    rw [hdj] at IS
    by_cases h4 : j = 4
    · have d1 : decide ((f : Int) + (j : Int) < (f : Int) + 4) = false := by simp; omega
      have hj1 : 0 < j := by omega
      have d1b : decide ((j : Int) < 4) = false := by simp; omega
      have d1c : ¬ (j : Int) < 4 := by omega
      have d1d : ¬ (f : Int) + (j : Int) < (f : Int) + 4 := by omega
      have H4 := Lib.hid h4
      clear h4
      have hje := HD.out.stop (.inl H4.out)
      have hnum := HD.out.num (by omega)
      have he : Ending.returned (.int .i64 (nameVal (lst s) f (f + j))) = q := by rw [← HQ.out, varE, hje, if_pos (by omega)]
      have hlx := lst_ext s f (f + j)
      rw [show f + j - f = j by omega] at hlx
      have PR := Lib.hid (fun w' => parse_any (s.extract f (f + j)) 0 9999 w' (by rw [ByteArray.size_extract]; omega) ⟨by omega, by omega⟩ ⟨by omega, by omega⟩)
      rw [hlx, hnum] at PR
      generalize prE ((lst s).drop f |>.take j) 0 9999 = pe at *
      generalize nameVal (lst s) f (f + j) = nv at *
      have x1 : (f : Int).toNat = f := by omega
      have x2 : ((f : Int) + (j : Int)).toNat = f + j := by omega
      have hsl : ∀ w', (Instr.slice 9 (.string s) (some (.int .i64 (f : Int))) (some (.int .i64 ((f : Int) + (j : Int)))) none).run Try.prog w' = .ok (.string (s.extract f (f + j))) w' := fun w' => by
        have := run_slice_string (P := Try.prog) w' 9 s .i64 .i64 (f : Int) ((f : Int) + (j : Int)) Try.underlying9 (by omega) (by omega) (by omega)
        rwa [x1, x2] at this
      rw [hje] at HN
      clear hlx hnum
      go_wp2_with (first | ((with_reducible refine atList ?_); first | ((with_reducible refine isGuard ?_); first | go_skip | (refine guarded_yes ?hw ?_; case hw => (simp only [Region.wanted, yielded, List.getElem?_toArray, List.getElem?_cons_succ, List.getElem?_cons_zero, Option.bind_some, beq_self_eq_true]; done)) | ((refine' guarded_cases (b := _) ?hy ?_ ?_); (case hy => (simp only [yielded, List.getElem?_toArray, List.getElem?_cons_succ, List.getElem?_cons_zero, Option.bind_some]; exact rfl)); all_goals (intro hb; (try simp only [Bool.not_true, Bool.not_false] at hb); (try simp only [hb]); (try simp only [Act.put, List.setIfInBounds_toArray, List.set_cons_succ, List.set_cons_zero]); first | ((have hf : False := by (simp at hb; done)); cases hf) | ((have hf : False := by (simp at hb; omega)); cases hf) | skip))) | ((with_reducible refine isLoad ?_); first | (refine ld1 0 hS rfl rfl ?ha rfl rfl rfl ?_; (case ha => first | exact ty_agg3 | exact ty_agg9); (try simp only [Act.put, List.setIfInBounds_toArray, List.set_cons_succ, List.set_cons_zero])) | ((refine' ldI1 (v := _) hS rfl rfl ?ha rfl ?hb ?_); (case ha => first | exact ty_agg3 | exact ty_agg9); (case hb => assumption); (try simp only [Act.put, List.setIfInBounds_toArray, List.set_cons_succ, List.set_cons_zero]))) | ((with_reducible refine isStore ?_); first | (refine st1 0 hS rfl rfl rfl rfl rfl ?ha rfl rfl ?hb ?_; (case ha => first | exact ty_sz3 | exact ty_sz9); (case hb => (simp; done)); clear hS; intro w hS; (try simp only [List.set_cons_succ, List.set_cons_zero, List.setIfInBounds_toArray, Act.eval, Array.getD_eq_getD_getElem?, List.getElem?_toArray, List.getElem?_cons_succ, List.getElem?_cons_zero, Option.getD_some, Value.cells] at hS); (try simp only [Act.put, List.setIfInBounds_toArray, List.set_cons_succ, List.set_cons_zero]))) | ((with_reducible refine isBox ?_); refine bx hS rfl rfl rfl ?_; clear hS; intro X w hS; (try simp only [Act.eval, Array.getD_eq_getD_getElem?, List.getElem?_toArray, List.getElem?_cons_succ, List.getElem?_cons_zero, Option.getD_some, Value.cells] at hS); (try simp only [Act.put, List.setIfInBounds_toArray, List.set_cons_succ, List.set_cons_zero])) | ((with_reducible refine isAlloc ?_); (refine' al (z := _) hS rfl rfl ?ha ?_); (case ha => first | exact ty_z3 | exact ty_z9); clear hS; intro X w hS; (try simp only [Act.eval, Array.getD_eq_getD_getElem?, List.getElem?_toArray, List.getElem?_cons_succ, List.getElem?_cons_zero, Option.getD_some, Value.cells] at hS); (try simp only [Act.put, List.setIfInBounds_toArray, List.set_cons_succ, List.set_cons_zero]))) | (go_at_call 23; (first | (refine Calls.mono (IS.out _ hS) ?_); clear hS; rintro e w ⟨rfl, hS⟩)))
      have hq := hS.rule 0 rfl
      have f0 := hq.1 0
      have f1 := hq.1 1
      simp only [List.getElem?_toArray, List.getElem?_cons_zero, List.getElem?_cons_succ] at f0 f1
      clear hq
      go_quiet ((go_at_call 38; exact Calls.quiet_of_same ((PR.out _).mono fun e w' h => ⟨h.1, h.2.symm⟩)))
      have hS2 := hS.drewN nq
      clear hS f0 f1
      go_wp2_with fail
      go_ret
      exact ⟨he, by rw [← HN.out, Int.natCast_add]; exact hS2⟩

    have d1 : decide ((f : Int) + (j : Int) < (f : Int) + 4) = true := by simp; omega
    by_cases hj0 : j = 0
    · have d2 : ((f : Int) + (j : Int) == (f : Int)) = true := by rw [beq_iff_eq]; omega
      have HJ0 := Lib.hid hj0
      clear hj0
      go_wp2_with (first | ((with_reducible refine atList ?_); first | ((with_reducible refine isGuard ?_); first | go_skip | (refine guarded_yes ?hw ?_; case hw => (simp only [Region.wanted, yielded, List.getElem?_toArray, List.getElem?_cons_succ, List.getElem?_cons_zero, Option.bind_some, beq_self_eq_true]; done)) | ((refine' guarded_cases (b := _) ?hy ?_ ?_); (case hy => (simp only [yielded, List.getElem?_toArray, List.getElem?_cons_succ, List.getElem?_cons_zero, Option.bind_some]; exact rfl)); all_goals (intro hb; (try simp only [Bool.not_true, Bool.not_false] at hb); (try simp only [hb]); (try simp only [Act.put, List.setIfInBounds_toArray, List.set_cons_succ, List.set_cons_zero]); first | ((have hf : False := by (simp at hb; done)); cases hf) | ((have hf : False := by (simp at hb; omega)); cases hf) | skip))) | ((with_reducible refine isLoad ?_); first | (refine ld1 0 hS rfl rfl ?ha rfl rfl rfl ?_; (case ha => first | exact ty_agg3 | exact ty_agg9); (try simp only [Act.put, List.setIfInBounds_toArray, List.set_cons_succ, List.set_cons_zero])) | ((refine' ldI1 (v := _) hS rfl rfl ?ha rfl ?hb ?_); (case ha => first | exact ty_agg3 | exact ty_agg9); (case hb => assumption); (try simp only [Act.put, List.setIfInBounds_toArray, List.set_cons_succ, List.set_cons_zero]))) | ((with_reducible refine isStore ?_); first | (refine st1 0 hS rfl rfl rfl rfl rfl ?ha rfl rfl ?hb ?_; (case ha => first | exact ty_sz3 | exact ty_sz9); (case hb => (simp; done)); clear hS; intro w hS; (try simp only [List.set_cons_succ, List.set_cons_zero, List.setIfInBounds_toArray, Act.eval, Array.getD_eq_getD_getElem?, List.getElem?_toArray, List.getElem?_cons_succ, List.getElem?_cons_zero, Option.getD_some, Value.cells] at hS); (try simp only [Act.put, List.setIfInBounds_toArray, List.set_cons_succ, List.set_cons_zero]))) | ((with_reducible refine isBox ?_); refine bx hS rfl rfl rfl ?_; clear hS; intro X w hS; (try simp only [Act.eval, Array.getD_eq_getD_getElem?, List.getElem?_toArray, List.getElem?_cons_succ, List.getElem?_cons_zero, Option.getD_some, Value.cells] at hS); (try simp only [Act.put, List.setIfInBounds_toArray, List.set_cons_succ, List.set_cons_zero])) | ((with_reducible refine isAlloc ?_); (refine' al (z := _) hS rfl rfl ?ha ?_); (case ha => first | exact ty_z3 | exact ty_z9); clear hS; intro X w hS; (try simp only [Act.eval, Array.getD_eq_getD_getElem?, List.getElem?_toArray, List.getElem?_cons_succ, List.getElem?_cons_zero, Option.getD_some, Value.cells] at hS); (try simp only [Act.put, List.setIfInBounds_toArray, List.set_cons_succ, List.set_cons_zero]))) | (go_at_call 23; (first | (refine Calls.mono (IS.out _ hS) ?_); clear hS; rintro e w ⟨rfl, hS⟩)))
      exact ⟨⟨j + 1, HD.out.step (by omega) hdj (.inl HJ0.out), by omega, by simpa [rd, Int.add_assoc] using hS⟩, by rw [HMU.out]; have h9 := (hS.rule 0 rfl).1 1; rw [h9]; simp [intOf]; omega⟩
    have d2 : ((f : Int) + (j : Int) == (f : Int)) = false := by rw [beq_eq_false_iff_ne]; omega
    have b2 : (f : Int) < (s.size : Int) := by omega
    obtain ⟨c0, hc0, hc02, hcl0⟩ := byteI s f hfs
    have HC0 := Lib.hid hcl0
    clear hcl0
    by_cases hz : c0 = 48
    · subst hz
      have dz : ((((48 : Nat) : Int)) != 48) = false := by simp
      have hj1 : 0 < j := by omega
      have hje := HD.out.stop (.inr (.inr ⟨hj1, HC0.out⟩))
      have hnum := HD.out.num (by omega)
      have he : Ending.returned (.int .i64 (nameVal (lst s) f (f + j))) = q := by rw [← HQ.out, varE, hje, if_pos (by omega)]
      have hlx := lst_ext s f (f + j)
      rw [show f + j - f = j by omega] at hlx
      have PR := Lib.hid (fun w' => parse_any (s.extract f (f + j)) 0 9999 w' (by rw [ByteArray.size_extract]; omega) ⟨by omega, by omega⟩ ⟨by omega, by omega⟩)
      rw [hlx, hnum] at PR
      generalize prE ((lst s).drop f |>.take j) 0 9999 = pe at *
      generalize nameVal (lst s) f (f + j) = nv at *
      have x1 : (f : Int).toNat = f := by omega
      have x2 : ((f : Int) + (j : Int)).toNat = f + j := by omega
      have hsl : ∀ w', (Instr.slice 9 (.string s) (some (.int .i64 (f : Int))) (some (.int .i64 ((f : Int) + (j : Int)))) none).run Try.prog w' = .ok (.string (s.extract f (f + j))) w' := fun w' => by
        have := run_slice_string (P := Try.prog) w' 9 s .i64 .i64 (f : Int) ((f : Int) + (j : Int)) Try.underlying9 (by omega) (by omega) (by omega)
        rwa [x1, x2] at this
      rw [hje] at HN
      clear hlx hnum
      go_wp2_with (first | ((with_reducible refine atList ?_); first | ((with_reducible refine isGuard ?_); first | go_skip | (refine guarded_yes ?hw ?_; case hw => (simp only [Region.wanted, yielded, List.getElem?_toArray, List.getElem?_cons_succ, List.getElem?_cons_zero, Option.bind_some, beq_self_eq_true]; done)) | ((refine' guarded_cases (b := _) ?hy ?_ ?_); (case hy => (simp only [yielded, List.getElem?_toArray, List.getElem?_cons_succ, List.getElem?_cons_zero, Option.bind_some]; exact rfl)); all_goals (intro hb; (try simp only [Bool.not_true, Bool.not_false] at hb); (try simp only [hb]); (try simp only [Act.put, List.setIfInBounds_toArray, List.set_cons_succ, List.set_cons_zero]); first | ((have hf : False := by (simp at hb; done)); cases hf) | ((have hf : False := by (simp at hb; omega)); cases hf) | skip))) | ((with_reducible refine isLoad ?_); first | (refine ld1 0 hS rfl rfl ?ha rfl rfl rfl ?_; (case ha => first | exact ty_agg3 | exact ty_agg9); (try simp only [Act.put, List.setIfInBounds_toArray, List.set_cons_succ, List.set_cons_zero])) | ((refine' ldI1 (v := _) hS rfl rfl ?ha rfl ?hb ?_); (case ha => first | exact ty_agg3 | exact ty_agg9); (case hb => assumption); (try simp only [Act.put, List.setIfInBounds_toArray, List.set_cons_succ, List.set_cons_zero]))) | ((with_reducible refine isStore ?_); first | (refine st1 0 hS rfl rfl rfl rfl rfl ?ha rfl rfl ?hb ?_; (case ha => first | exact ty_sz3 | exact ty_sz9); (case hb => (simp; done)); clear hS; intro w hS; (try simp only [List.set_cons_succ, List.set_cons_zero, List.setIfInBounds_toArray, Act.eval, Array.getD_eq_getD_getElem?, List.getElem?_toArray, List.getElem?_cons_succ, List.getElem?_cons_zero, Option.getD_some, Value.cells] at hS); (try simp only [Act.put, List.setIfInBounds_toArray, List.set_cons_succ, List.set_cons_zero]))) | ((with_reducible refine isBox ?_); refine bx hS rfl rfl rfl ?_; clear hS; intro X w hS; (try simp only [Act.eval, Array.getD_eq_getD_getElem?, List.getElem?_toArray, List.getElem?_cons_succ, List.getElem?_cons_zero, Option.getD_some, Value.cells] at hS); (try simp only [Act.put, List.setIfInBounds_toArray, List.set_cons_succ, List.set_cons_zero])) | ((with_reducible refine isAlloc ?_); (refine' al (z := _) hS rfl rfl ?ha ?_); (case ha => first | exact ty_z3 | exact ty_z9); clear hS; intro X w hS; (try simp only [Act.eval, Array.getD_eq_getD_getElem?, List.getElem?_toArray, List.getElem?_cons_succ, List.getElem?_cons_zero, Option.getD_some, Value.cells] at hS); (try simp only [Act.put, List.setIfInBounds_toArray, List.set_cons_succ, List.set_cons_zero]))) | (go_at_call 23; (first | (refine Calls.mono (IS.out _ hS) ?_); clear hS; rintro e w ⟨rfl, hS⟩)))
      have hq := hS.rule 0 rfl
      have f0 := hq.1 0
      have f1 := hq.1 1
      simp only [List.getElem?_toArray, List.getElem?_cons_zero, List.getElem?_cons_succ] at f0 f1
      clear hq
      go_quiet ((go_at_call 38; exact Calls.quiet_of_same ((PR.out _).mono fun e w' h => ⟨h.1, h.2.symm⟩)))
      have hS2 := hS.drewN nq
      clear hS f0 f1
      go_wp2_with fail
      go_ret
      exact ⟨he, by rw [← HN.out, Int.natCast_add]; exact hS2⟩

    · have dz : ((c0 : Int) != 48) = true := by simp; omega
      go_wp2_with (first | ((with_reducible refine atList ?_); first | ((with_reducible refine isGuard ?_); first | go_skip | (refine guarded_yes ?hw ?_; case hw => (simp only [Region.wanted, yielded, List.getElem?_toArray, List.getElem?_cons_succ, List.getElem?_cons_zero, Option.bind_some, beq_self_eq_true]; done)) | ((refine' guarded_cases (b := _) ?hy ?_ ?_); (case hy => (simp only [yielded, List.getElem?_toArray, List.getElem?_cons_succ, List.getElem?_cons_zero, Option.bind_some]; exact rfl)); all_goals (intro hb; (try simp only [Bool.not_true, Bool.not_false] at hb); (try simp only [hb]); (try simp only [Act.put, List.setIfInBounds_toArray, List.set_cons_succ, List.set_cons_zero]); first | ((have hf : False := by (simp at hb; done)); cases hf) | ((have hf : False := by (simp at hb; omega)); cases hf) | skip))) | ((with_reducible refine isLoad ?_); first | (refine ld1 0 hS rfl rfl ?ha rfl rfl rfl ?_; (case ha => first | exact ty_agg3 | exact ty_agg9); (try simp only [Act.put, List.setIfInBounds_toArray, List.set_cons_succ, List.set_cons_zero])) | ((refine' ldI1 (v := _) hS rfl rfl ?ha rfl ?hb ?_); (case ha => first | exact ty_agg3 | exact ty_agg9); (case hb => assumption); (try simp only [Act.put, List.setIfInBounds_toArray, List.set_cons_succ, List.set_cons_zero]))) | ((with_reducible refine isStore ?_); first | (refine st1 0 hS rfl rfl rfl rfl rfl ?ha rfl rfl ?hb ?_; (case ha => first | exact ty_sz3 | exact ty_sz9); (case hb => (simp; done)); clear hS; intro w hS; (try simp only [List.set_cons_succ, List.set_cons_zero, List.setIfInBounds_toArray, Act.eval, Array.getD_eq_getD_getElem?, List.getElem?_toArray, List.getElem?_cons_succ, List.getElem?_cons_zero, Option.getD_some, Value.cells] at hS); (try simp only [Act.put, List.setIfInBounds_toArray, List.set_cons_succ, List.set_cons_zero]))) | ((with_reducible refine isBox ?_); refine bx hS rfl rfl rfl ?_; clear hS; intro X w hS; (try simp only [Act.eval, Array.getD_eq_getD_getElem?, List.getElem?_toArray, List.getElem?_cons_succ, List.getElem?_cons_zero, Option.getD_some, Value.cells] at hS); (try simp only [Act.put, List.setIfInBounds_toArray, List.set_cons_succ, List.set_cons_zero])) | ((with_reducible refine isAlloc ?_); (refine' al (z := _) hS rfl rfl ?ha ?_); (case ha => first | exact ty_z3 | exact ty_z9); clear hS; intro X w hS; (try simp only [Act.eval, Array.getD_eq_getD_getElem?, List.getElem?_toArray, List.getElem?_cons_succ, List.getElem?_cons_zero, Option.getD_some, Value.cells] at hS); (try simp only [Act.put, List.setIfInBounds_toArray, List.set_cons_succ, List.set_cons_zero]))) | (go_at_call 23; (first | (refine Calls.mono (IS.out _ hS) ?_); clear hS; rintro e w ⟨rfl, hS⟩)))
      exact ⟨⟨j + 1, HD.out.step (by omega) hdj (.inr (by rw [HC0.out]; intro h; exact hz (Option.some.inj h))), by omega, by simpa [rd, Int.add_assoc] using hS⟩, by rw [HMU.out]; have h9 := (hS.rule 0 rfl).1 1; rw [h9]; simp [intOf]; omega⟩
end Go.Proofs.Ytmhdcjjcddpciaa
