/- The law's same of equal rows, its examples. -/
import Derived.Test.YtmgjoggffnogfaaDoorWt
namespace Go.Proofs.YtmgjoggffnogfaaDoor
set_option linter.unusedSimpArgs false
set_option linter.unusedVariables false
open Go.RowKit
set_option linter.unusedVariables false
set_option maxHeartbeats 1000000 in
theorem lsame_any (E w : World) (I : PH) (ms : List PH) (v v' : Value) (xs : List Ev) (hA : RowG I evC v xs) (hC : RowG I evC v' xs) (hl : xs.length ≤ 100000) (hS : Sat E I ms w) :
    Calls Tryd.prog 16 #[v, v'] w fun e w' => e = .returned (.bool true) ∧ Sat E I ms w' := by
  refine Calls.mono (R := fun e w' => e = .returned (.bool true) ∧ ∃ k, w' = w.drewN k) ?_ (fun e w' ⟨h1, k, h2⟩ => ⟨h1, by subst h2; exact hS.drewN k⟩)
  have hA := hA.le hS.ile
  have hC := hC.le hS.ile
  clear hS
  obtain ⟨A, ca, rfl, _⟩ := id hA
  obtain ⟨C, cb, rfl, _⟩ := id hC
  have hne : ((xs.length : Int) != (xs.length : Int)) = false := by simp
  have HA := Lib.hid hA
  have HC := Lib.hid hC
  clear hA hC
  go_enter Tryd.func16, Tryd.ntmps16
  go_wp2
  go_loopw [13] (fun i wr => ∃ k j : Nat, k ≤ xs.length ∧ i = .int .i64 k ∧ wr = w.drewN j) (fun i _ => (xs.length - intOf i).toNat)
  case atStart => exact ⟨0, 0, by omega, rfl, rfl⟩
  case round =>
    obtain ⟨k, j, hk, rfl, rfl⟩ := hrel
    by_cases hlt : k < xs.length
    · obtain ⟨b, o, rfl, hc⟩ := HA.out.at_ evC_len (List.getElem?_eq_getElem hlt)
      obtain ⟨b', o', rfl, hc'⟩ := HC.out.at_ evC_len (List.getElem?_eq_getElem hlt)
      generalize xs[k] = x at *
      have d0 := heap_at (PH.le.refl _) (hc 0 _ rfl)
      have d1 := heap_at (PH.le.refl _) (hc 1 _ rfl)
      have d2 := heap_at (PH.le.refl _) (hc 2 _ rfl)
      have e0 := heap_at (PH.le.refl _) (hc' 0 _ rfl)
      have e1 := heap_at (PH.le.refl _) (hc' 1 _ rfl)
      have e2 := heap_at (PH.le.refl _) (hc' 2 _ rfl)
      rw [Nat.add_zero] at d0 e0
      have k1 : (k : Int) < (xs.length : Int) := by omega
      have k0 : (0 : Int) ≤ (k : Int) := by omega
      clear hc hc'
      go_wp2_with fail
      go_quiet (fail)
      go_wp2
      go_roundw
      case rel => exact ⟨k + 1, _, by omega, by go_num, rfl⟩
      case measure => simp [intOf]; omega
    · go_wp2
      go_ret
      exact ⟨rfl, _, rfl⟩
theorem Sat.keep_ {E w : World} {I : PH} {ms : List PH} {X : Nat} {o : Obj} (h : Sat E I ms w) (k : Nat) (hm : ms[k]? = some (PH.one X o)) : ∃ J : PH, I.le J ∧ J X = some o ∧ Sat E J (ms.eraseIdx k) w := by
  have h0 := h.perm (perm_front k hm)
  exact ⟨_, PH.le_join I _, PH.le_join_right (h0.off (.head _)) X o (PH.one_self _ _), h0.freeze⟩
abbrev lv2 : List Ev := [(3, 2, 1), (1, 1, 0)]
theorem lives_tx : txC lv2 = 0 ∧ txS lv2 = lst ⟨#[115, 119, 97, 112, 32, 51, 32, 49, 10, 99, 111, 108, 108, 101, 99, 116, 32, 49, 10]⟩ := by constructor <;> kernel_rfl
theorem lives_pr : prsE (lst ⟨#[116, 117, 114, 110, 32, 55, 10]⟩) = 0 ∧ prsL (lst ⟨#[116, 117, 114, 110, 32, 55, 10]⟩) = [(7, 3, 0)] := by constructor <;> kernel_rfl
theorem lives_ri : riE 2 [(1, 2, 1)] = 2 := by kernel_rfl
theorem ev_ok {a b c : Int} (h1 : I64 a) (h2 : I64 b) (h3 : I64 c) : EvOk (a, b, c) := ⟨h1, h2, h3⟩
theorem i64s {a : Int} (h : -1000 ≤ a ∧ a ≤ 1000) : I64 a := by unfold I64; omega
theorem row_lit (J : PH) (X : Nat) (T : TypeId) (l : List Ev) (h : J X = some (.cells (evR l).toArray T (0, 0))) (hl : l.length ≤ 100) : RowG J evC (.slice (some ⟨X, 0, none⟩) l.length l.length) l :=
  ⟨_, _, rfl, Nat.le_refl _, by unfold maxLen; omega, fun _ => ⟨X, 0, rfl, fun j u hu => by
    have hu : (evR l)[j]? = some u := hu
    simp only [PH.at, h, Nat.zero_add]
    simpa using hu⟩⟩
set_option maxHeartbeats 1000000 in
set_option maxRecDepth 100000 in
theorem lives_any (E w : World) (I : PH) (hI : MaxIn I) (hS : Sat E I [] w) : Calls Tryd.prog 7 #[] w fun e w' => e = .returned (.bool true) ∧ Sat E I [] w' := by
  refine Calls.mono (R := fun e w' => e = .returned (.bool true) ∧ ∃ J, PH.le I J ∧ Sat E J [] w') ?_ (fun e w' ⟨h1, J, hJ, h2⟩ => ⟨h1, h2.less hJ⟩)
  go_enter Tryd.func7, Tryd.ntmps7
  go_wp2_with (first | ((with_reducible refine atList ?_); first | ((with_reducible refine isGuard ?_); first | go_skip | ((with_reducible refine guarded_no ?hw ?_); (case hw => (simp only [Region.wanted, yielded, List.getElem?_toArray, List.getElem?_cons_succ, List.getElem?_cons_zero, Option.bind_some]; first | exact (rfl : (some true == some false) = false) | exact (rfl : (some false == some true) = false))); (try simp only [Act.put, List.setIfInBounds_toArray, List.set_cons_succ, List.set_cons_zero])) | ((with_reducible refine guarded_yes ?hw ?_); case hw => (simp only [Region.wanted, yielded, List.getElem?_toArray, List.getElem?_cons_succ, List.getElem?_cons_zero, Option.bind_some, beq_self_eq_true]; done)) | ((refine' guarded_cases (b := _) ?hy ?_ ?_); (case hy => (simp only [yielded, List.getElem?_toArray, List.getElem?_cons_succ, List.getElem?_cons_zero, Option.bind_some]; exact rfl)); all_goals (intro hb; (try simp only [Bool.not_true, Bool.not_false] at hb); (try simp only [hb]); (try simp only [Act.put, List.setIfInBounds_toArray, List.set_cons_succ, List.set_cons_zero]); first | ((have hf : False := by (simp at hb; done)); cases hf) | ((have hf : False := by (simp at hb; omega)); cases hf) | skip))) | ((with_reducible refine isLoad ?_); first | (refine ld1 0 hS rfl rfl ?ha rfl rfl rfl ?_; (case ha => first | exact ty_agg3); (try simp only [Act.put, List.setIfInBounds_toArray, List.set_cons_succ, List.set_cons_zero])) | ((refine' ldI1 (v := _) hS rfl rfl ?ha rfl ?hb ?_); (case ha => first | exact ty_agg3); (case hb => assumption); (try simp only [Act.put, List.setIfInBounds_toArray, List.set_cons_succ, List.set_cons_zero]))) | ((with_reducible refine isStore ?_); first | (refine st1 0 hS rfl rfl rfl rfl rfl ?ha rfl rfl ?hb ?_; (case ha => first | exact ty_sz3); (case hb => (simp; done)); clear hS; intro w hS; (try simp only [List.set_cons_succ, List.set_cons_zero, List.setIfInBounds_toArray, Act.eval, Array.getD_eq_getD_getElem?, List.getElem?_toArray, List.getElem?_cons_succ, List.getElem?_cons_zero, Option.getD_some, Value.cells] at hS); (try simp only [Act.put, List.setIfInBounds_toArray, List.set_cons_succ, List.set_cons_zero]))) | ((with_reducible refine isBox ?_); refine bx hS rfl rfl rfl ?_; clear hS; intro X w hS; (try simp only [Act.eval, Array.getD_eq_getD_getElem?, List.getElem?_toArray, List.getElem?_cons_succ, List.getElem?_cons_zero, Option.getD_some, Value.cells] at hS); (try simp only [Act.put, List.setIfInBounds_toArray, List.set_cons_succ, List.set_cons_zero])) | ((with_reducible refine isAlloc ?_); (refine' al (z := _) hS rfl rfl ?ha ?_); (case ha => first | exact ty_z3); clear hS; intro X w hS; (try simp only [Act.eval, Array.getD_eq_getD_getElem?, List.getElem?_toArray, List.getElem?_cons_succ, List.getElem?_cons_zero, Option.getD_some, Value.cells] at hS); (try simp only [Act.put, List.setIfInBounds_toArray, List.set_cons_succ, List.set_cons_zero])) | ((with_reducible refine isBuildSlice ?_); (refine' bsl hS ?hr ?_); (case hr => (intro w0; go_simp; rfl)); clear hS; intro XS w hS; (try simp only [Act.eval, Array.getD_eq_getD_getElem?, List.getElem?_toArray, List.getElem?_cons_succ, List.getElem?_cons_zero, Option.getD_some, Value.cells] at hS); (try simp only [Act.put, List.setIfInBounds_toArray, List.set_cons_succ, List.set_cons_zero]))))
  refine Veil.out ?_
  obtain ⟨J, hJ, hX, hS⟩ := hS.keep_ 0 rfl
  have hR := row_lit J XS _ lv2 hX (by decide)
  have hI := hI.le hJ
  refine ⟨?_⟩
  refine (etext_any _ _ _ _ lv2 _ hR (by intro u hu; simp only [List.mem_cons, List.not_mem_nil, or_false] at hu; rcases hu with rfl | rfl <;> exact ev_ok (i64s (by omega)) (i64s (by omega)) (i64s (by omega))) hI hS).mono ?_
  clear hS
  rintro e w ⟨str, rfl, hstr, hS⟩
  rw [lives_tx.2] at hstr
  have hstr := lst_inj hstr
  subst hstr
  rw [lives_tx.1]
  go_wp2_with fail
  refine (eparse_any _ _ _ _ _ hI hS).mono ?_
  clear hS
  rintro e w ⟨v, m, rfl, hO, hS⟩
  refine Veil.out ?_
  obtain ⟨J2, hJ2, hm, hS⟩ := hS.frz
  have hR2 := hO.rowG (f := evC) hm
  rw [lives_pr.2] at hR2
  obtain ⟨A, c, rfl, _, _, hc⟩ := hR2
  obtain ⟨Y, off, rfl, hcs⟩ := hc (by decide)
  have hI := hI.le hJ2
  have hcs : Cells J2 Y off [.int .i64 7, .int .i64 3, .int .i64 0] := hcs
  have d0 : J2.at Y off = some (.int .i64 7) := hcs 0 _ rfl
  have d1 : J2.at Y (off + 1) = some (.int .i64 3) := hcs 1 _ rfl
  have d2 : J2.at Y (off + 2) = some (.int .i64 0) := hcs 2 _ rfl
  refine ⟨?_⟩
  rw [lives_pr.1]
  clear hO
  go_wp2_with (first | ((with_reducible refine atList ?_); first | ((with_reducible refine isGuard ?_); first | go_skip | ((with_reducible refine guarded_no ?hw ?_); (case hw => (simp only [Region.wanted, yielded, List.getElem?_toArray, List.getElem?_cons_succ, List.getElem?_cons_zero, Option.bind_some]; first | exact (rfl : (some true == some false) = false) | exact (rfl : (some false == some true) = false))); (try simp only [Act.put, List.setIfInBounds_toArray, List.set_cons_succ, List.set_cons_zero])) | ((with_reducible refine guarded_yes ?hw ?_); case hw => (simp only [Region.wanted, yielded, List.getElem?_toArray, List.getElem?_cons_succ, List.getElem?_cons_zero, Option.bind_some, beq_self_eq_true]; done)) | ((refine' guarded_cases (b := _) ?hy ?_ ?_); (case hy => (simp only [yielded, List.getElem?_toArray, List.getElem?_cons_succ, List.getElem?_cons_zero, Option.bind_some]; exact rfl)); all_goals (intro hb; (try simp only [Bool.not_true, Bool.not_false] at hb); (try simp only [hb]); (try simp only [Act.put, List.setIfInBounds_toArray, List.set_cons_succ, List.set_cons_zero]); first | ((have hf : False := by (simp at hb; done)); cases hf) | ((have hf : False := by (simp at hb; omega)); cases hf) | skip))) | ((with_reducible refine isLoad ?_); first | (refine ld1 0 hS rfl rfl ?ha rfl rfl rfl ?_; (case ha => first | exact ty_agg3); (try simp only [Act.put, List.setIfInBounds_toArray, List.set_cons_succ, List.set_cons_zero])) | (refine ldN 0 hS rfl rfl ?ha rfl rfl ?hb ?_; (case ha => first | exact ty_agg47); (case hb => first | exact ty_sz47); (try simp only [Act.put, List.setIfInBounds_toArray, List.set_cons_succ, List.set_cons_zero])) | ((refine' ldI1 (v := _) hS rfl rfl ?ha rfl ?hb ?_); (case ha => first | exact ty_agg3); (case hb => assumption); (try simp only [Act.put, List.setIfInBounds_toArray, List.set_cons_succ, List.set_cons_zero])) | ((refine' ldIN (vs := _) hS rfl rfl ?ha rfl ?hc ?hb ?_); (case ha => first | exact ty_agg47); (case hc => assumption); (case hb => first | exact ty_sz47); (try simp only [Act.put, List.setIfInBounds_toArray, List.set_cons_succ, List.set_cons_zero]))) | ((with_reducible refine isStore ?_); first | (refine st1 0 hS rfl rfl rfl rfl rfl ?ha rfl rfl ?hb ?_; (case ha => first | exact ty_sz3); (case hb => (simp; done)); clear hS; intro w hS; (try simp only [List.set_cons_succ, List.set_cons_zero, List.setIfInBounds_toArray, Act.eval, Array.getD_eq_getD_getElem?, List.getElem?_toArray, List.getElem?_cons_succ, List.getElem?_cons_zero, Option.getD_some, Value.cells] at hS); (try simp only [Act.put, List.setIfInBounds_toArray, List.set_cons_succ, List.set_cons_zero])) | (refine stN 0 hS rfl rfl rfl rfl rfl ?ha rfl rfl ?_; (case ha => first | exact ty_sz47); clear hS; intro w hS; (try simp only [List.set_cons_succ, List.set_cons_zero, List.setIfInBounds_toArray, Act.eval, Array.getD_eq_getD_getElem?, List.getElem?_toArray, List.getElem?_cons_succ, List.getElem?_cons_zero, Option.getD_some, Value.cells] at hS); (try simp only [Act.put, List.setIfInBounds_toArray, List.set_cons_succ, List.set_cons_zero]))) | ((with_reducible refine isBox ?_); refine bx hS rfl rfl rfl ?_; clear hS; intro X w hS; (try simp only [Act.eval, Array.getD_eq_getD_getElem?, List.getElem?_toArray, List.getElem?_cons_succ, List.getElem?_cons_zero, Option.getD_some, Value.cells] at hS); (try simp only [Act.put, List.setIfInBounds_toArray, List.set_cons_succ, List.set_cons_zero])) | ((with_reducible refine isAlloc ?_); (refine' al (z := _) hS rfl rfl ?ha ?_); (case ha => first | exact ty_z47 | exact ty_z3); clear hS; intro X w hS; (try simp only [Act.eval, Array.getD_eq_getD_getElem?, List.getElem?_toArray, List.getElem?_cons_succ, List.getElem?_cons_zero, Option.getD_some, Value.cells] at hS); (try simp only [Act.put, List.setIfInBounds_toArray, List.set_cons_succ, List.set_cons_zero])) | ((with_reducible refine isBuildSlice ?_); (refine' bsl hS ?hr ?_); (case hr => (intro w0; go_simp; rfl)); clear hS; intro XS w hS; (try simp only [Act.eval, Array.getD_eq_getD_getElem?, List.getElem?_toArray, List.getElem?_cons_succ, List.getElem?_cons_zero, Option.getD_some, Value.cells] at hS); (try simp only [Act.put, List.setIfInBounds_toArray, List.set_cons_succ, List.set_cons_zero]))))
  refine Veil.out ?_
  obtain ⟨J3, hJ3, hX3, hS⟩ := hS.keep_ 0 rfl
  have hR3 := row_lit J3 XS _ [(1, 2, 1)] hX3 (by decide)
  refine ⟨?_⟩
  refine (right_any _ _ 2 _ [(1, 2, 1)] _ hR3 (hS.sub (List.nil_sublist _))).mono ?_
  clear hS
  rintro e w ⟨rfl, hS⟩
  rw [lives_ri]
  go_wp2
  go_ret
  exact ⟨rfl, J3, hJ.trans (hJ2.trans hJ3), hS⟩
end Go.Proofs.YtmgjoggffnogfaaDoor
