/- The methods of a strings.Builder. -/
import Derived.Test.YtmgjoggffnogfaaDoorUa
import Derived.Lib.Builder
namespace Go.Proofs.YtmgjoggffnogfaaDoor
set_option linter.unusedSimpArgs false
set_option linter.unusedVariables false
open Go.RowKit
theorem ty_agg48 : aggB Tryd.prog 48 = some false := by kernel_rfl
theorem ty_sz48 : sizeB Tryd.prog 48 = some 1 := by kernel_rfl
theorem ty_z48 : zeroB Tryd.prog 48 = some (.pointer none) := by kernel_rfl
theorem ty_agg49 : aggB Tryd.prog 49 = some false := by kernel_rfl
theorem ty_sz49 : sizeB Tryd.prog 49 = some 1 := by kernel_rfl
theorem ty_z49 : zeroB Tryd.prog 49 = some (.slice none 0 0) := by kernel_rfl
theorem ty_agg51 : aggB Tryd.prog 51 = some true := by kernel_rfl
theorem ty_sz51 : sizeB Tryd.prog 51 = some 2 := by kernel_rfl
theorem ty_z51 : zeroB Tryd.prog 51 = some (.agg #[.pointer none, .slice none 0 0]) := by kernel_rfl
theorem Sat.shape {E w : World} {I : PH} {ms : List PH} (h : Sat E I ms w) (k : Nat) {X : Nat} {c : Array Value} {T : TypeId} (hm : ms[k]? = some (PH.one X (.cells c T (0, 0)))) : w.shape? X = some (T, c.size) := by
  have := h.own _ (List.mem_of_getElem? hm) X _ (PH.one_self _ _)
  simp [World.shape?, this]
theorem bld_info : (Tryd.prog.info? 51).map (·.size) = some 2 := by kernel_rfl
theorem bld_lies : liesAt Tryd.prog Tryd.prog.depth 51 (2 / Tryd.prog.cellsOf 51) 0 51 1 = true := by kernel_rfl
set_option maxHeartbeats 2000000 in
set_option maxRecDepth 100000 in
theorem copyCheck_any (E : World) (I : PH) (ms : List PH) (X : Nat) (p : Option Addr) (v : Value) (w : World) (hp : p = none ∨ p = some ⟨X, 0, none⟩) (hS : Sat E I (PH.one X (.cells #[.pointer p, v] 51) :: ms) w) :
    Calls Tryd.prog 35 #[.pointer (some ⟨X, 0, none⟩)] w fun e w' => e = .returned (.tuple #[]) ∧ Sat E I (PH.one X (.cells #[.pointer (some ⟨X, 0, none⟩), v] 51) :: ms) w' := by
  obtain ⟨j, hj, hjs⟩ := Option.map_eq_some_iff.1 bld_info
  have hsh := hS.shape 0 rfl
  rcases hp with rfl | rfl
  · go_enter Tryd.func35, Tryd.ntmps35
    go_wp2_with (first | ((with_reducible refine atList ?_); first | ((with_reducible refine isGuard ?_); first | go_skip | ((with_reducible refine guarded_no ?hw ?_); (case hw => (simp only [Region.wanted, yielded, List.getElem?_toArray, List.getElem?_cons_succ, List.getElem?_cons_zero, Option.bind_some]; first | exact (rfl : (some true == some false) = false) | exact (rfl : (some false == some true) = false))); (try simp only [Act.put, List.setIfInBounds_toArray, List.set_cons_succ, List.set_cons_zero])) | ((with_reducible refine guarded_yes ?hw ?_); case hw => (simp only [Region.wanted, yielded, List.getElem?_toArray, List.getElem?_cons_succ, List.getElem?_cons_zero, Option.bind_some, beq_self_eq_true]; done)) | ((refine' guarded_cases (b := _) ?hy ?_ ?_); (case hy => (simp only [yielded, List.getElem?_toArray, List.getElem?_cons_succ, List.getElem?_cons_zero, Option.bind_some]; exact rfl)); all_goals (intro hb; (try simp only [Bool.not_true, Bool.not_false] at hb); (try simp only [hb]); (try simp only [Act.put, List.setIfInBounds_toArray, List.set_cons_succ, List.set_cons_zero]); first | ((have hf : False := by (simp at hb; done)); cases hf) | ((have hf : False := by (simp at hb; omega)); cases hf) | skip))) | ((with_reducible refine isLoad ?_); first | (refine ld1 0 hS rfl rfl ?ha rfl rfl rfl ?_; (case ha => first | exact ty_agg48); (try simp only [Act.put, List.setIfInBounds_toArray, List.set_cons_succ, List.set_cons_zero])) | ((refine' ldI1 (v := _) hS rfl rfl ?ha rfl ?hb ?_); (case ha => first | exact ty_agg48); (case hb => assumption); (try simp only [Act.put, List.setIfInBounds_toArray, List.set_cons_succ, List.set_cons_zero]))) | ((with_reducible refine isStore ?_); first | (refine st1 0 hS rfl rfl rfl rfl rfl ?ha rfl rfl ?hb ?_; (case ha => first | exact ty_sz48); (case hb => (simp; done)); clear hS; intro w hS; (try simp only [List.set_cons_succ, List.set_cons_zero, List.setIfInBounds_toArray, Act.eval, Array.getD_eq_getD_getElem?, List.getElem?_toArray, List.getElem?_cons_succ, List.getElem?_cons_zero, Option.getD_some, Value.cells] at hS); (try simp only [Act.put, List.setIfInBounds_toArray, List.set_cons_succ, List.set_cons_zero]))) | ((with_reducible refine isBox ?_); refine bx hS rfl rfl rfl ?_; clear hS; intro X w hS; (try simp only [Act.eval, Array.getD_eq_getD_getElem?, List.getElem?_toArray, List.getElem?_cons_succ, List.getElem?_cons_zero, Option.getD_some, Value.cells] at hS); (try simp only [Act.put, List.setIfInBounds_toArray, List.set_cons_succ, List.set_cons_zero])) | ((with_reducible refine isAlloc ?_); (refine' al (z := _) hS rfl rfl ?ha ?_); (case ha => first | exact ty_z48); clear hS; intro X w hS; (try simp only [Act.eval, Array.getD_eq_getD_getElem?, List.getElem?_toArray, List.getElem?_cons_succ, List.getElem?_cons_zero, Option.getD_some, Value.cells] at hS); (try simp only [Act.put, List.setIfInBounds_toArray, List.set_cons_succ, List.set_cons_zero]))))
    rw [Lib.run_to_unsafe _ ⟨X, 0, none⟩ Tryd.underlying48 Tryd.underlying104 hj (by rw [hjs]; decide) hsh (Nat.zero_lt_succ 1)]
    simp only [Result.andThen]
    rw [Oper.upon_value]
    go_wp2_with (first | ((with_reducible refine atList ?_); first | ((with_reducible refine isGuard ?_); first | go_skip | ((with_reducible refine guarded_no ?hw ?_); (case hw => (simp only [Region.wanted, yielded, List.getElem?_toArray, List.getElem?_cons_succ, List.getElem?_cons_zero, Option.bind_some]; first | exact (rfl : (some true == some false) = false) | exact (rfl : (some false == some true) = false))); (try simp only [Act.put, List.setIfInBounds_toArray, List.set_cons_succ, List.set_cons_zero])) | ((with_reducible refine guarded_yes ?hw ?_); case hw => (simp only [Region.wanted, yielded, List.getElem?_toArray, List.getElem?_cons_succ, List.getElem?_cons_zero, Option.bind_some, beq_self_eq_true]; done)) | ((refine' guarded_cases (b := _) ?hy ?_ ?_); (case hy => (simp only [yielded, List.getElem?_toArray, List.getElem?_cons_succ, List.getElem?_cons_zero, Option.bind_some]; exact rfl)); all_goals (intro hb; (try simp only [Bool.not_true, Bool.not_false] at hb); (try simp only [hb]); (try simp only [Act.put, List.setIfInBounds_toArray, List.set_cons_succ, List.set_cons_zero]); first | ((have hf : False := by (simp at hb; done)); cases hf) | ((have hf : False := by (simp at hb; omega)); cases hf) | skip))) | ((with_reducible refine isLoad ?_); first | (refine ld1 0 hS rfl rfl ?ha rfl rfl rfl ?_; (case ha => first | exact ty_agg48); (try simp only [Act.put, List.setIfInBounds_toArray, List.set_cons_succ, List.set_cons_zero])) | ((refine' ldI1 (v := _) hS rfl rfl ?ha rfl ?hb ?_); (case ha => first | exact ty_agg48); (case hb => assumption); (try simp only [Act.put, List.setIfInBounds_toArray, List.set_cons_succ, List.set_cons_zero]))) | ((with_reducible refine isStore ?_); first | (refine st1 0 hS rfl rfl rfl rfl rfl ?ha rfl rfl ?hb ?_; (case ha => first | exact ty_sz48); (case hb => (simp; done)); clear hS; intro w hS; (try simp only [List.set_cons_succ, List.set_cons_zero, List.setIfInBounds_toArray, Act.eval, Array.getD_eq_getD_getElem?, List.getElem?_toArray, List.getElem?_cons_succ, List.getElem?_cons_zero, Option.getD_some, Value.cells] at hS); (try simp only [Act.put, List.setIfInBounds_toArray, List.set_cons_succ, List.set_cons_zero]))) | ((with_reducible refine isBox ?_); refine bx hS rfl rfl rfl ?_; clear hS; intro X w hS; (try simp only [Act.eval, Array.getD_eq_getD_getElem?, List.getElem?_toArray, List.getElem?_cons_succ, List.getElem?_cons_zero, Option.getD_some, Value.cells] at hS); (try simp only [Act.put, List.setIfInBounds_toArray, List.set_cons_succ, List.set_cons_zero])) | ((with_reducible refine isAlloc ?_); (refine' al (z := _) hS rfl rfl ?ha ?_); (case ha => first | exact ty_z48); clear hS; intro X w hS; (try simp only [Act.eval, Array.getD_eq_getD_getElem?, List.getElem?_toArray, List.getElem?_cons_succ, List.getElem?_cons_zero, Option.getD_some, Value.cells] at hS); (try simp only [Act.put, List.setIfInBounds_toArray, List.set_cons_succ, List.set_cons_zero]))))
    rw [run_callFunc_extern Tryd.func47 (by kernel_rfl) (by kernel_rfl) (by kernel_rfl) (e := Extern.AbiNoEscape.same) (by kernel_rfl)]
    rw [Lib.run_noEscape]
    simp only [Result.andThen]
    rw [Oper.upon_value]
    go_wp2_with (first | ((with_reducible refine atList ?_); first | ((with_reducible refine isGuard ?_); first | go_skip | ((with_reducible refine guarded_no ?hw ?_); (case hw => (simp only [Region.wanted, yielded, List.getElem?_toArray, List.getElem?_cons_succ, List.getElem?_cons_zero, Option.bind_some]; first | exact (rfl : (some true == some false) = false) | exact (rfl : (some false == some true) = false))); (try simp only [Act.put, List.setIfInBounds_toArray, List.set_cons_succ, List.set_cons_zero])) | ((with_reducible refine guarded_yes ?hw ?_); case hw => (simp only [Region.wanted, yielded, List.getElem?_toArray, List.getElem?_cons_succ, List.getElem?_cons_zero, Option.bind_some, beq_self_eq_true]; done)) | ((refine' guarded_cases (b := _) ?hy ?_ ?_); (case hy => (simp only [yielded, List.getElem?_toArray, List.getElem?_cons_succ, List.getElem?_cons_zero, Option.bind_some]; exact rfl)); all_goals (intro hb; (try simp only [Bool.not_true, Bool.not_false] at hb); (try simp only [hb]); (try simp only [Act.put, List.setIfInBounds_toArray, List.set_cons_succ, List.set_cons_zero]); first | ((have hf : False := by (simp at hb; done)); cases hf) | ((have hf : False := by (simp at hb; omega)); cases hf) | skip))) | ((with_reducible refine isLoad ?_); first | (refine ld1 0 hS rfl rfl ?ha rfl rfl rfl ?_; (case ha => first | exact ty_agg48); (try simp only [Act.put, List.setIfInBounds_toArray, List.set_cons_succ, List.set_cons_zero])) | ((refine' ldI1 (v := _) hS rfl rfl ?ha rfl ?hb ?_); (case ha => first | exact ty_agg48); (case hb => assumption); (try simp only [Act.put, List.setIfInBounds_toArray, List.set_cons_succ, List.set_cons_zero]))) | ((with_reducible refine isStore ?_); first | (refine st1 0 hS rfl rfl rfl rfl rfl ?ha rfl rfl ?hb ?_; (case ha => first | exact ty_sz48); (case hb => (simp; done)); clear hS; intro w hS; (try simp only [List.set_cons_succ, List.set_cons_zero, List.setIfInBounds_toArray, Act.eval, Array.getD_eq_getD_getElem?, List.getElem?_toArray, List.getElem?_cons_succ, List.getElem?_cons_zero, Option.getD_some, Value.cells] at hS); (try simp only [Act.put, List.setIfInBounds_toArray, List.set_cons_succ, List.set_cons_zero]))) | ((with_reducible refine isBox ?_); refine bx hS rfl rfl rfl ?_; clear hS; intro X w hS; (try simp only [Act.eval, Array.getD_eq_getD_getElem?, List.getElem?_toArray, List.getElem?_cons_succ, List.getElem?_cons_zero, Option.getD_some, Value.cells] at hS); (try simp only [Act.put, List.setIfInBounds_toArray, List.set_cons_succ, List.set_cons_zero])) | ((with_reducible refine isAlloc ?_); (refine' al (z := _) hS rfl rfl ?ha ?_); (case ha => first | exact ty_z48); clear hS; intro X w hS; (try simp only [Act.eval, Array.getD_eq_getD_getElem?, List.getElem?_toArray, List.getElem?_cons_succ, List.getElem?_cons_zero, Option.getD_some, Value.cells] at hS); (try simp only [Act.put, List.setIfInBounds_toArray, List.set_cons_succ, List.set_cons_zero]))))
    rw [Lib.run_from_unsafe _ ⟨X, 0, none⟩ Tryd.underlying104 Tryd.underlying48 hj hsh bld_lies]
    simp only [Result.andThen]
    rw [Oper.upon_value]
    go_wp2_with (first | ((with_reducible refine atList ?_); first | ((with_reducible refine isGuard ?_); first | go_skip | ((with_reducible refine guarded_no ?hw ?_); (case hw => (simp only [Region.wanted, yielded, List.getElem?_toArray, List.getElem?_cons_succ, List.getElem?_cons_zero, Option.bind_some]; first | exact (rfl : (some true == some false) = false) | exact (rfl : (some false == some true) = false))); (try simp only [Act.put, List.setIfInBounds_toArray, List.set_cons_succ, List.set_cons_zero])) | ((with_reducible refine guarded_yes ?hw ?_); case hw => (simp only [Region.wanted, yielded, List.getElem?_toArray, List.getElem?_cons_succ, List.getElem?_cons_zero, Option.bind_some, beq_self_eq_true]; done)) | ((refine' guarded_cases (b := _) ?hy ?_ ?_); (case hy => (simp only [yielded, List.getElem?_toArray, List.getElem?_cons_succ, List.getElem?_cons_zero, Option.bind_some]; exact rfl)); all_goals (intro hb; (try simp only [Bool.not_true, Bool.not_false] at hb); (try simp only [hb]); (try simp only [Act.put, List.setIfInBounds_toArray, List.set_cons_succ, List.set_cons_zero]); first | ((have hf : False := by (simp at hb; done)); cases hf) | ((have hf : False := by (simp at hb; omega)); cases hf) | skip))) | ((with_reducible refine isLoad ?_); first | (refine ld1 0 hS rfl rfl ?ha rfl rfl rfl ?_; (case ha => first | exact ty_agg48); (try simp only [Act.put, List.setIfInBounds_toArray, List.set_cons_succ, List.set_cons_zero])) | ((refine' ldI1 (v := _) hS rfl rfl ?ha rfl ?hb ?_); (case ha => first | exact ty_agg48); (case hb => assumption); (try simp only [Act.put, List.setIfInBounds_toArray, List.set_cons_succ, List.set_cons_zero]))) | ((with_reducible refine isStore ?_); first | (refine st1 0 hS rfl rfl rfl rfl rfl ?ha rfl rfl ?hb ?_; (case ha => first | exact ty_sz48); (case hb => (simp; done)); clear hS; intro w hS; (try simp only [List.set_cons_succ, List.set_cons_zero, List.setIfInBounds_toArray, Act.eval, Array.getD_eq_getD_getElem?, List.getElem?_toArray, List.getElem?_cons_succ, List.getElem?_cons_zero, Option.getD_some, Value.cells] at hS); (try simp only [Act.put, List.setIfInBounds_toArray, List.set_cons_succ, List.set_cons_zero]))) | ((with_reducible refine isBox ?_); refine bx hS rfl rfl rfl ?_; clear hS; intro X w hS; (try simp only [Act.eval, Array.getD_eq_getD_getElem?, List.getElem?_toArray, List.getElem?_cons_succ, List.getElem?_cons_zero, Option.getD_some, Value.cells] at hS); (try simp only [Act.put, List.setIfInBounds_toArray, List.set_cons_succ, List.set_cons_zero])) | ((with_reducible refine isAlloc ?_); (refine' al (z := _) hS rfl rfl ?ha ?_); (case ha => first | exact ty_z48); clear hS; intro X w hS; (try simp only [Act.eval, Array.getD_eq_getD_getElem?, List.getElem?_toArray, List.getElem?_cons_succ, List.getElem?_cons_zero, Option.getD_some, Value.cells] at hS); (try simp only [Act.put, List.setIfInBounds_toArray, List.set_cons_succ, List.set_cons_zero]))))
    go_end0
    exact ⟨rfl, hS⟩
  · go_enter Tryd.func35, Tryd.ntmps35
    go_wp2_with (first | ((with_reducible refine atList ?_); first | ((with_reducible refine isGuard ?_); first | go_skip | ((with_reducible refine guarded_no ?hw ?_); (case hw => (simp only [Region.wanted, yielded, List.getElem?_toArray, List.getElem?_cons_succ, List.getElem?_cons_zero, Option.bind_some]; first | exact (rfl : (some true == some false) = false) | exact (rfl : (some false == some true) = false))); (try simp only [Act.put, List.setIfInBounds_toArray, List.set_cons_succ, List.set_cons_zero])) | ((with_reducible refine guarded_yes ?hw ?_); case hw => (simp only [Region.wanted, yielded, List.getElem?_toArray, List.getElem?_cons_succ, List.getElem?_cons_zero, Option.bind_some, beq_self_eq_true]; done)) | ((refine' guarded_cases (b := _) ?hy ?_ ?_); (case hy => (simp only [yielded, List.getElem?_toArray, List.getElem?_cons_succ, List.getElem?_cons_zero, Option.bind_some]; exact rfl)); all_goals (intro hb; (try simp only [Bool.not_true, Bool.not_false] at hb); (try simp only [hb]); (try simp only [Act.put, List.setIfInBounds_toArray, List.set_cons_succ, List.set_cons_zero]); first | ((have hf : False := by (simp at hb; done)); cases hf) | ((have hf : False := by (simp at hb; omega)); cases hf) | skip))) | ((with_reducible refine isLoad ?_); first | (refine ld1 0 hS rfl rfl ?ha rfl rfl rfl ?_; (case ha => first | exact ty_agg48); (try simp only [Act.put, List.setIfInBounds_toArray, List.set_cons_succ, List.set_cons_zero])) | ((refine' ldI1 (v := _) hS rfl rfl ?ha rfl ?hb ?_); (case ha => first | exact ty_agg48); (case hb => assumption); (try simp only [Act.put, List.setIfInBounds_toArray, List.set_cons_succ, List.set_cons_zero]))) | ((with_reducible refine isStore ?_); first | (refine st1 0 hS rfl rfl rfl rfl rfl ?ha rfl rfl ?hb ?_; (case ha => first | exact ty_sz48); (case hb => (simp; done)); clear hS; intro w hS; (try simp only [List.set_cons_succ, List.set_cons_zero, List.setIfInBounds_toArray, Act.eval, Array.getD_eq_getD_getElem?, List.getElem?_toArray, List.getElem?_cons_succ, List.getElem?_cons_zero, Option.getD_some, Value.cells] at hS); (try simp only [Act.put, List.setIfInBounds_toArray, List.set_cons_succ, List.set_cons_zero]))) | ((with_reducible refine isBox ?_); refine bx hS rfl rfl rfl ?_; clear hS; intro X w hS; (try simp only [Act.eval, Array.getD_eq_getD_getElem?, List.getElem?_toArray, List.getElem?_cons_succ, List.getElem?_cons_zero, Option.getD_some, Value.cells] at hS); (try simp only [Act.put, List.setIfInBounds_toArray, List.set_cons_succ, List.set_cons_zero])) | ((with_reducible refine isAlloc ?_); (refine' al (z := _) hS rfl rfl ?ha ?_); (case ha => first | exact ty_z48); clear hS; intro X w hS; (try simp only [Act.eval, Array.getD_eq_getD_getElem?, List.getElem?_toArray, List.getElem?_cons_succ, List.getElem?_cons_zero, Option.getD_some, Value.cells] at hS); (try simp only [Act.put, List.setIfInBounds_toArray, List.set_cons_succ, List.set_cons_zero]))))
    rw [Lib.run_neq_ptr_same _ _ Tryd.underlying48 hj]
    go_wp2_with (first | ((with_reducible refine atList ?_); first | ((with_reducible refine isGuard ?_); first | go_skip | ((with_reducible refine guarded_no ?hw ?_); (case hw => (simp only [Region.wanted, yielded, List.getElem?_toArray, List.getElem?_cons_succ, List.getElem?_cons_zero, Option.bind_some]; first | exact (rfl : (some true == some false) = false) | exact (rfl : (some false == some true) = false))); (try simp only [Act.put, List.setIfInBounds_toArray, List.set_cons_succ, List.set_cons_zero])) | ((with_reducible refine guarded_yes ?hw ?_); case hw => (simp only [Region.wanted, yielded, List.getElem?_toArray, List.getElem?_cons_succ, List.getElem?_cons_zero, Option.bind_some, beq_self_eq_true]; done)) | ((refine' guarded_cases (b := _) ?hy ?_ ?_); (case hy => (simp only [yielded, List.getElem?_toArray, List.getElem?_cons_succ, List.getElem?_cons_zero, Option.bind_some]; exact rfl)); all_goals (intro hb; (try simp only [Bool.not_true, Bool.not_false] at hb); (try simp only [hb]); (try simp only [Act.put, List.setIfInBounds_toArray, List.set_cons_succ, List.set_cons_zero]); first | ((have hf : False := by (simp at hb; done)); cases hf) | ((have hf : False := by (simp at hb; omega)); cases hf) | skip))) | ((with_reducible refine isLoad ?_); first | (refine ld1 0 hS rfl rfl ?ha rfl rfl rfl ?_; (case ha => first | exact ty_agg48); (try simp only [Act.put, List.setIfInBounds_toArray, List.set_cons_succ, List.set_cons_zero])) | ((refine' ldI1 (v := _) hS rfl rfl ?ha rfl ?hb ?_); (case ha => first | exact ty_agg48); (case hb => assumption); (try simp only [Act.put, List.setIfInBounds_toArray, List.set_cons_succ, List.set_cons_zero]))) | ((with_reducible refine isStore ?_); first | (refine st1 0 hS rfl rfl rfl rfl rfl ?ha rfl rfl ?hb ?_; (case ha => first | exact ty_sz48); (case hb => (simp; done)); clear hS; intro w hS; (try simp only [List.set_cons_succ, List.set_cons_zero, List.setIfInBounds_toArray, Act.eval, Array.getD_eq_getD_getElem?, List.getElem?_toArray, List.getElem?_cons_succ, List.getElem?_cons_zero, Option.getD_some, Value.cells] at hS); (try simp only [Act.put, List.setIfInBounds_toArray, List.set_cons_succ, List.set_cons_zero]))) | ((with_reducible refine isBox ?_); refine bx hS rfl rfl rfl ?_; clear hS; intro X w hS; (try simp only [Act.eval, Array.getD_eq_getD_getElem?, List.getElem?_toArray, List.getElem?_cons_succ, List.getElem?_cons_zero, Option.getD_some, Value.cells] at hS); (try simp only [Act.put, List.setIfInBounds_toArray, List.set_cons_succ, List.set_cons_zero])) | ((with_reducible refine isAlloc ?_); (refine' al (z := _) hS rfl rfl ?ha ?_); (case ha => first | exact ty_z48); clear hS; intro X w hS; (try simp only [Act.eval, Array.getD_eq_getD_getElem?, List.getElem?_toArray, List.getElem?_cons_succ, List.getElem?_cons_zero, Option.getD_some, Value.cells] at hS); (try simp only [Act.put, List.setIfInBounds_toArray, List.set_cons_succ, List.set_cons_zero]))))
    go_end0
    exact ⟨rfl, hS⟩
set_option maxHeartbeats 2000000 in
set_option maxRecDepth 100000 in
theorem writeString_any (E : World) (I : PH) (mb mr : PH) (ms : List PH) (X : Nat) (l : List Nat) (s : ByteArray) (w : World) (hl : l.length + s.size ≤ 1000000) (hB : Bld X l mb mr) (hS : Sat E I (mb :: mr :: ms) w) :
    Calls Tryd.prog 20 #[.pointer (some ⟨X, 0, none⟩), .string s] w fun e w' => e = .returned (.tuple #[.int .i64 s.size, .nilIface]) ∧ ∃ mb' mr', Bld X (l ++ lst s) mb' mr' ∧ Sat E I (mb' :: mr' :: ms) w' := by
  obtain ⟨p, v, rfl, hp, hO⟩ := hB
  have CC := Lib.hid (fun w' => copyCheck_any E I (mr :: ms) X p v w' hp)
  obtain ⟨A, c, rfl, _⟩ := hO.shape
  go_enter Tryd.func20, Tryd.ntmps20
  go_wp2_with (first | ((with_reducible refine atList ?_); first | ((with_reducible refine isGuard ?_); first | go_skip | ((with_reducible refine guarded_no ?hw ?_); (case hw => (simp only [Region.wanted, yielded, List.getElem?_toArray, List.getElem?_cons_succ, List.getElem?_cons_zero, Option.bind_some]; first | exact (rfl : (some true == some false) = false) | exact (rfl : (some false == some true) = false))); (try simp only [Act.put, List.setIfInBounds_toArray, List.set_cons_succ, List.set_cons_zero])) | ((with_reducible refine guarded_yes ?hw ?_); case hw => (simp only [Region.wanted, yielded, List.getElem?_toArray, List.getElem?_cons_succ, List.getElem?_cons_zero, Option.bind_some, beq_self_eq_true]; done)) | ((refine' guarded_cases (b := _) ?hy ?_ ?_); (case hy => (simp only [yielded, List.getElem?_toArray, List.getElem?_cons_succ, List.getElem?_cons_zero, Option.bind_some]; exact rfl)); all_goals (intro hb; (try simp only [Bool.not_true, Bool.not_false] at hb); (try simp only [hb]); (try simp only [Act.put, List.setIfInBounds_toArray, List.set_cons_succ, List.set_cons_zero]); first | ((have hf : False := by (simp at hb; done)); cases hf) | ((have hf : False := by (simp at hb; omega)); cases hf) | skip))) | ((with_reducible refine isLoad ?_); first | (refine ld1 0 hS rfl rfl ?ha rfl rfl rfl ?_; (case ha => first | exact ty_agg49); (try simp only [Act.put, List.setIfInBounds_toArray, List.set_cons_succ, List.set_cons_zero])) | (refine ld1 1 hS rfl rfl ?ha rfl rfl rfl ?_; (case ha => first | exact ty_agg49); (try simp only [Act.put, List.setIfInBounds_toArray, List.set_cons_succ, List.set_cons_zero])) | ((refine' ldI1 (v := _) hS rfl rfl ?ha rfl ?hb ?_); (case ha => first | exact ty_agg49); (case hb => assumption); (try simp only [Act.put, List.setIfInBounds_toArray, List.set_cons_succ, List.set_cons_zero]))) | ((with_reducible refine isStore ?_); first | (refine st1 0 hS rfl rfl rfl rfl rfl ?ha rfl rfl ?hb ?_; (case ha => first | exact ty_sz49); (case hb => (simp; done)); clear hS; intro w hS; (try simp only [List.set_cons_succ, List.set_cons_zero, List.setIfInBounds_toArray, Act.eval, Array.getD_eq_getD_getElem?, List.getElem?_toArray, List.getElem?_cons_succ, List.getElem?_cons_zero, Option.getD_some, Value.cells] at hS); (try simp only [Act.put, List.setIfInBounds_toArray, List.set_cons_succ, List.set_cons_zero])) | (refine st1 1 hS rfl rfl rfl rfl rfl ?ha rfl rfl ?hb ?_; (case ha => first | exact ty_sz49); (case hb => (simp; done)); clear hS; intro w hS; (try simp only [List.set_cons_succ, List.set_cons_zero, List.setIfInBounds_toArray, Act.eval, Array.getD_eq_getD_getElem?, List.getElem?_toArray, List.getElem?_cons_succ, List.getElem?_cons_zero, Option.getD_some, Value.cells] at hS); (try simp only [Act.put, List.setIfInBounds_toArray, List.set_cons_succ, List.set_cons_zero]))) | ((with_reducible refine isBox ?_); refine bx hS rfl rfl rfl ?_; clear hS; intro X w hS; (try simp only [Act.eval, Array.getD_eq_getD_getElem?, List.getElem?_toArray, List.getElem?_cons_succ, List.getElem?_cons_zero, Option.getD_some, Value.cells] at hS); (try simp only [Act.put, List.setIfInBounds_toArray, List.set_cons_succ, List.set_cons_zero])) | ((with_reducible refine isAlloc ?_); (refine' al (z := _) hS rfl rfl ?ha ?_); (case ha => first | exact ty_z49); clear hS; intro X w hS; (try simp only [Act.eval, Array.getD_eq_getD_getElem?, List.getElem?_toArray, List.getElem?_cons_succ, List.getElem?_cons_zero, Option.getD_some, Value.cells] at hS); (try simp only [Act.put, List.setIfInBounds_toArray, List.set_cons_succ, List.set_cons_zero])) | ((with_reducible refine isBuildSlice ?_); (refine' bsl hS ?hr ?_); (case hr => (intro w0; go_simp; rfl)); clear hS; intro XS w hS; (try simp only [Act.eval, Array.getD_eq_getD_getElem?, List.getElem?_toArray, List.getElem?_cons_succ, List.getElem?_cons_zero, Option.getD_some, Value.cells] at hS); (try simp only [Act.put, List.setIfInBounds_toArray, List.set_cons_succ, List.set_cons_zero]))) | (go_at_call 35; (refine Calls.mono (CC.out _ hS) ?_); clear hS; rintro e w ⟨rfl, hS⟩) | (at_builtin; (refine' apStr (v := _) 1 hS rfl rfl rfl Tryd.underlying49 Tryd.underlying9 byte_info rfl ?hown rfl ?h63 ?_); (case hown => exact hO); (case h63 => go_light; omega); clear hS; intro A1 c1 m1 w hO1 hS; (try simp only [List.set_cons_succ, List.set_cons_zero] at hS); (try simp only [Act.put, List.setIfInBounds_toArray, List.set_cons_succ, List.set_cons_zero])))
  go_ret2
  refine ⟨rfl, _, m1, ⟨_, _, rfl, .inr rfl, ?_⟩, hS⟩
  rw [bcells_str] at hO1
  have e1 : (l ++ lst s).length = l.length + s.size := by rw [List.length_append, lst_length]
  have e2 : bcells (l ++ lst s) = bcells l ++ bcells (lst s) := by unfold bcells; rw [List.map_append]
  rw [e1, e2]
  exact hO1
set_option maxHeartbeats 2000000 in
set_option maxRecDepth 100000 in
theorem writeByte_any (E : World) (I : PH) (mb mr : PH) (ms : List PH) (X : Nat) (l : List Nat) (d : Nat) (w : World) (hl : l.length ≤ 1000000) (hB : Bld X l mb mr) (hS : Sat E I (mb :: mr :: ms) w) :
    Calls Tryd.prog 22 #[.pointer (some ⟨X, 0, none⟩), .int .u8 (d : Int)] w fun e w' => e = .returned .nilIface ∧ ∃ mb' mr', Bld X (l ++ [d]) mb' mr' ∧ Sat E I (mb' :: mr' :: ms) w' := by
  obtain ⟨p, v, rfl, hp, hO⟩ := hB
  have CC := Lib.hid (fun w' => copyCheck_any E I (mr :: ms) X p v w' hp)
  obtain ⟨A, c, rfl, _⟩ := hO.shape
  go_enter Tryd.func22, Tryd.ntmps22
  go_wp2_with (first | ((with_reducible refine atList ?_); first | ((with_reducible refine isGuard ?_); first | go_skip | ((with_reducible refine guarded_no ?hw ?_); (case hw => (simp only [Region.wanted, yielded, List.getElem?_toArray, List.getElem?_cons_succ, List.getElem?_cons_zero, Option.bind_some]; first | exact (rfl : (some true == some false) = false) | exact (rfl : (some false == some true) = false))); (try simp only [Act.put, List.setIfInBounds_toArray, List.set_cons_succ, List.set_cons_zero])) | ((with_reducible refine guarded_yes ?hw ?_); case hw => (simp only [Region.wanted, yielded, List.getElem?_toArray, List.getElem?_cons_succ, List.getElem?_cons_zero, Option.bind_some, beq_self_eq_true]; done)) | ((refine' guarded_cases (b := _) ?hy ?_ ?_); (case hy => (simp only [yielded, List.getElem?_toArray, List.getElem?_cons_succ, List.getElem?_cons_zero, Option.bind_some]; exact rfl)); all_goals (intro hb; (try simp only [Bool.not_true, Bool.not_false] at hb); (try simp only [hb]); (try simp only [Act.put, List.setIfInBounds_toArray, List.set_cons_succ, List.set_cons_zero]); first | ((have hf : False := by (simp at hb; done)); cases hf) | ((have hf : False := by (simp at hb; omega)); cases hf) | skip))) | ((with_reducible refine isLoad ?_); first | (refine ld1 0 hS rfl rfl ?ha rfl rfl rfl ?_; (case ha => first | exact ty_agg49); (try simp only [Act.put, List.setIfInBounds_toArray, List.set_cons_succ, List.set_cons_zero])) | (refine ld1 1 hS rfl rfl ?ha rfl rfl rfl ?_; (case ha => first | exact ty_agg49); (try simp only [Act.put, List.setIfInBounds_toArray, List.set_cons_succ, List.set_cons_zero])) | ((refine' ldI1 (v := _) hS rfl rfl ?ha rfl ?hb ?_); (case ha => first | exact ty_agg49); (case hb => assumption); (try simp only [Act.put, List.setIfInBounds_toArray, List.set_cons_succ, List.set_cons_zero]))) | ((with_reducible refine isStore ?_); first | (refine st1 0 hS rfl rfl rfl rfl rfl ?ha rfl rfl ?hb ?_; (case ha => first | exact ty_sz49); (case hb => (simp; done)); clear hS; intro w hS; (try simp only [List.set_cons_succ, List.set_cons_zero, List.setIfInBounds_toArray, Act.eval, Array.getD_eq_getD_getElem?, List.getElem?_toArray, List.getElem?_cons_succ, List.getElem?_cons_zero, Option.getD_some, Value.cells] at hS); (try simp only [Act.put, List.setIfInBounds_toArray, List.set_cons_succ, List.set_cons_zero])) | (refine st1 1 hS rfl rfl rfl rfl rfl ?ha rfl rfl ?hb ?_; (case ha => first | exact ty_sz49); (case hb => (simp; done)); clear hS; intro w hS; (try simp only [List.set_cons_succ, List.set_cons_zero, List.setIfInBounds_toArray, Act.eval, Array.getD_eq_getD_getElem?, List.getElem?_toArray, List.getElem?_cons_succ, List.getElem?_cons_zero, Option.getD_some, Value.cells] at hS); (try simp only [Act.put, List.setIfInBounds_toArray, List.set_cons_succ, List.set_cons_zero]))) | ((with_reducible refine isBox ?_); refine bx hS rfl rfl rfl ?_; clear hS; intro X w hS; (try simp only [Act.eval, Array.getD_eq_getD_getElem?, List.getElem?_toArray, List.getElem?_cons_succ, List.getElem?_cons_zero, Option.getD_some, Value.cells] at hS); (try simp only [Act.put, List.setIfInBounds_toArray, List.set_cons_succ, List.set_cons_zero])) | ((with_reducible refine isAlloc ?_); (refine' al (z := _) hS rfl rfl ?ha ?_); (case ha => first | exact ty_z49); clear hS; intro X w hS; (try simp only [Act.eval, Array.getD_eq_getD_getElem?, List.getElem?_toArray, List.getElem?_cons_succ, List.getElem?_cons_zero, Option.getD_some, Value.cells] at hS); (try simp only [Act.put, List.setIfInBounds_toArray, List.set_cons_succ, List.set_cons_zero])) | ((with_reducible refine isBuildSlice ?_); (refine' bsl hS ?hr ?_); (case hr => (intro w0; go_simp; rfl)); clear hS; intro XS w hS; (try simp only [Act.eval, Array.getD_eq_getD_getElem?, List.getElem?_toArray, List.getElem?_cons_succ, List.getElem?_cons_zero, Option.getD_some, Value.cells] at hS); (try simp only [Act.put, List.setIfInBounds_toArray, List.set_cons_succ, List.set_cons_zero]))) | (go_at_call 35; (refine Calls.mono (CC.out _ hS) ?_); clear hS; rintro e w ⟨rfl, hS⟩) | (at_builtin; (refine' apQ (p := _) (m := _) (v := _) (n := _) (xs := _) (news := _) 2 (.inr (List.Mem.head _)) hS rfl rfl rfl Tryd.underlying49 byte_info rfl (by decide) rfl ?hown rfl ?hl ?hcl ?h1 ?h63 ?hby ?_); (case hown => exact hO); (case hcl => exact Cells.one _ _ _ _); (case hl => rfl); (case h1 => rfl); (case h63 => go_light; unfold maxLen; omega); (case hby => go_light; omega); clear hS; intro A1 c1 m1 w hO1 hS; (try simp only [List.set_cons_succ, List.set_cons_zero] at hS); (try simp only [Act.put, List.setIfInBounds_toArray, List.set_cons_succ, List.set_cons_zero])))
  go_ret
  refine ⟨rfl, _, m1, ⟨_, _, rfl, .inr rfl, ?_⟩, hS.drop⟩
  have e1 : (l ++ [d]).length = l.length + 1 := by rw [List.length_append]; rfl
  have e2 : bcells (l ++ [d]) = bcells l ++ bcells [d] := by unfold bcells; rw [List.map_append]
  rw [e1, e2]
  exact hO1
set_option maxHeartbeats 4000000 in
set_option maxRecDepth 100000 in
theorem bstring_any (E : World) (I : PH) (mb mr : PH) (ms : List PH) (X : Nat) (l : List Nat) (w : World) (h0 : l ≠ []) (hl : l.length ≤ 1000000) (h8 : ∀ c ∈ l, c < 256) (hB : Bld X l mb mr) (hS : Sat E I (mb :: mr :: ms) w) :
    Calls Tryd.prog 23 #[.pointer (some ⟨X, 0, none⟩)] w fun e w' => ∃ str, e = .returned (.string str) ∧ lst str = l ∧ Sat E I ms w' := by
  obtain ⟨p, v, rfl, hp, hO⟩ := hB
  have hn0 : l.length ≠ 0 := by simpa using h0
  rcases hO.2 with ⟨rfl, hz, _⟩ | ⟨g, cap, cur, rfl, rfl, hnc, hcm, hcs, htake⟩
  · exact absurd hz hn0
  have hSD : ∀ w, (Builtin.unsafeSliceData_ #[49] 81 #[.slice (some ⟨g, 0, none⟩) l.length cap]).run Tryd.prog w = .ok (.pointer (some ⟨g, 0, none⟩)) w := fun w => Lib.run_unsafeSliceData_row _ _ _ _ _ _ (by omega)
  let bl : List UInt8 := l.map Nat.toUInt8
  have hbl : bl.length = l.length := by simp [bl]
  have hUS : ∀ w : World, w.heap[g]? = some (.cells cur 5 (0, 0)) → (Builtin.unsafeString_ #[81, 3] 9 #[.pointer (some ⟨g, 0, none⟩), .int .i64 l.length]).run Tryd.prog w = .ok (.string ⟨bl.toArray⟩) (w.freeze ⟨g, 0, none⟩ l.length) := by
    intro w hg
    rw [← hbl]
    refine Lib.run_unsafeString_row w 81 3 9 5 Tryd.underlying81 (by kernel_rfl) g cur.size (by simp [World.shape?, hg]) bl (by intro h; rw [h] at hbl; exact hn0 hbl.symm) (by omega) (by omega) ?_
    intro j x hx
    have hj : j < l.length := by rw [← hbl]; exact (List.getElem?_eq_some_iff.1 hx).1
    have h2 : (⟨g, 0, none⟩ : Addr).add j = ⟨g, j, none⟩ := by
      unfold Addr.add
      by_cases h0 : j = 0 <;> simp [h0]
    have h3 : w.cell? ⟨g, j, none⟩ = cur[j]? := cell_of_row w g j cur 5 (0, 0) hg
    have h4 : cur[j]? = (bcells l)[j]? := by
      rw [← htake, Nat.mul_one, List.getElem?_take_of_lt hj]; simp
    rw [h2]
    show w.cell? ⟨g, j, none⟩ = _
    rw [h3, h4]
    have hlj := List.getElem?_eq_getElem hj
    simp only [bl, List.getElem?_map, hlj, Option.map_some, Option.some.injEq] at hx
    subst hx
    have h5 := h8 _ (List.getElem_mem hj)
    unfold bcells
    rw [List.getElem?_map, hlj]
    simp only [Option.map_some, Nat.toUInt8, UInt8.toNat_ofNat']
    congr 2
    omega
  have hlst : lst ⟨bl.toArray⟩ = l := by
    unfold lst
    show (bl.toArray.toList).map UInt8.toNat = l
    simp only [bl, List.map_map]
    refine (List.map_congr_left fun c hc => ?_).trans (List.map_id l)
    have := h8 c hc
    simp only [Function.comp, Nat.toUInt8, UInt8.toNat_ofNat']
    simp only [id]
    omega
  generalize (⟨bl.toArray⟩ : ByteArray) = str at *
  clear_value bl
  clear hbl
  go_enter Tryd.func23, Tryd.ntmps23
  go_wp2_with fail
  refine region_ogZ (fun _ _ => False) [[], [0], [0, 1], [0, 1, 2], [0, 1, 2, 3], [], [5], [5, 6], [5, 6, 7], [5, 6, 7, 8], [0, 1, 2, 3, 4, 5, 6, 7, 8, 9], [0, 1, 2, 3, 4, 5, 6, 7, 8, 9, 10]] E I [] _ (Facts [fun v _ => v = .pointer (some ⟨X, 0, none⟩), fun v _ => v = .pointer (some ⟨X, 0, none⟩), fun v _ => v = .pointer (some ⟨X, 1, none⟩), fun v _ => v = .slice (some ⟨g, 0, none⟩) l.length cap, fun v _ => v = .pointer (some ⟨g, 0, none⟩), fun v _ => v = .pointer (some ⟨X, 0, none⟩), fun v _ => v = .pointer (some ⟨X, 0, none⟩), fun v _ => v = .pointer (some ⟨X, 1, none⟩), fun v _ => v = .slice (some ⟨g, 0, none⟩) l.length cap, fun v _ => v = .int .i64 (l.length : Int), fun v _ => v = .string str, fun v _ => v = .string str]) (fun L _ _ ns => ns = PH.one X (.cells #[.pointer p, .slice (some ⟨g, 0, none⟩) l.length cap] 51) :: (if L 10 = true then ms else PH.one g (.cells cur 5 (0, 0)) :: ms)) (by kernel_rfl) (by kernel_rfl) hS (by simp) ?mono ?step (fun _ _ _ _ h => h.elim) ?fin
  case mono =>
    refine fun i v I J hJ => Facts.lasting ?_ i v I J hJ
    repeat (first | exact Lasting.nil | refine Lasting.cons (fun _ _ _ _ h => h) ?_)
  case step =>
    intro i hi L vals J ns w' hLi hdown hanc hJ hS hns
    subst hns
    have hi8 : i = 0 ∨ i = 1 ∨ i = 2 ∨ i = 3 ∨ i = 4 ∨ i = 5 ∨ i = 6 ∨ i = 7 ∨ i = 8 ∨ i = 9 ∨ i = 10 ∨ i = 11 := by simp at hi; omega
    rcases hi8 with rfl | rfl | rfl | rfl | rfl | rfl | rfl | rfl | rfl | rfl | rfl | rfl
    · simp only [textL, actL, dstAt, opAt, List.getD_cons_succ, List.getD_cons_zero, List.getElem?_cons_succ, List.getElem?_cons_zero, Option.bind_some, if_true, Act.put, List.setIfInBounds_toArray, List.set_cons_succ, List.set_cons_zero]; refine wpStepZ_of (fun K hK => ?_); have HK1 := Lib.hid hK; clear hK; rw [if_pos (by rfl)]
      go_wp2_with fail
      refine HK1.out _ _ ⟨rfl, J, _, PH.le.refl _, hS, ?_, ?_⟩
      · simp only [Facts, outOf, List.getD_cons_succ, List.getD_cons_zero, Act.put, List.setIfInBounds_toArray, List.set_cons_succ, List.set_cons_zero, Array.getD_eq_getD_getElem?, List.getElem?_toArray, List.getElem?_cons_succ, List.getElem?_cons_zero, Option.getD_some]
      · simp [upd]
    · have h0 := (hanc 0 (by decide)).2
      simp only [Facts, List.getD_cons_succ, List.getD_cons_zero] at h0
      simp only [textL, actL, dstAt, opAt, List.getD_cons_succ, List.getD_cons_zero, List.getElem?_cons_succ, List.getElem?_cons_zero, Option.bind_some, if_true, Act.put, List.setIfInBounds_toArray, List.set_cons_succ, List.set_cons_zero, h0]; refine wpStepZ_of (fun K hK => ?_); have HK1 := Lib.hid hK; clear hK; rw [if_pos (by rfl)]
      go_wp2_with fail
      refine HK1.out _ _ ⟨rfl, J, _, PH.le.refl _, hS, ?_, ?_⟩
      · simp only [Facts, outOf, List.getD_cons_succ, List.getD_cons_zero, Act.put, List.setIfInBounds_toArray, List.set_cons_succ, List.set_cons_zero, Array.getD_eq_getD_getElem?, List.getElem?_toArray, List.getElem?_cons_succ, List.getElem?_cons_zero, Option.getD_some]
      · simp [upd]
    · have h1 := (hanc 1 (by decide)).2
      simp only [Facts, List.getD_cons_succ, List.getD_cons_zero] at h1
      simp only [textL, actL, dstAt, opAt, List.getD_cons_succ, List.getD_cons_zero, List.getElem?_cons_succ, List.getElem?_cons_zero, Option.bind_some, if_true, Act.put, List.setIfInBounds_toArray, List.set_cons_succ, List.set_cons_zero, h1]; refine wpStepZ_of (fun K hK => ?_); have HK1 := Lib.hid hK; clear hK; rw [if_pos (by rfl)]
      go_wp2_with fail
      refine HK1.out _ _ ⟨rfl, J, _, PH.le.refl _, hS, ?_, ?_⟩
      · simp only [Facts, outOf, List.getD_cons_succ, List.getD_cons_zero, Act.put, List.setIfInBounds_toArray, List.set_cons_succ, List.set_cons_zero, Array.getD_eq_getD_getElem?, List.getElem?_toArray, List.getElem?_cons_succ, List.getElem?_cons_zero, Option.getD_some]
      · simp [upd]
    · have h2 := (hanc 2 (by decide)).2
      simp only [Facts, List.getD_cons_succ, List.getD_cons_zero] at h2
      have l10 : L 10 = false := by
        cases h : L 10 with
        | false => rfl
        | true => have := hdown 10 (by decide) h 3 (by decide); rw [hLi] at this; cases this
      rw [l10] at hS
      simp only [Bool.false_eq_true, if_false, List.nil_append] at hS
      simp only [textL, actL, dstAt, opAt, List.getD_cons_succ, List.getD_cons_zero, List.getElem?_cons_succ, List.getElem?_cons_zero, Option.bind_some, if_true, Act.put, List.setIfInBounds_toArray, List.set_cons_succ, List.set_cons_zero, h2]; refine wpStepZ_of (fun K hK => ?_); have HK1 := Lib.hid hK; clear hK; rw [if_pos (by rfl)]
      (with_reducible refine atLoad ?_)
      refine wp_ldo1 (X := X) (c := #[.pointer p, .slice (some ⟨g, 0, none⟩) l.length cap]) hS (List.mem_of_getElem? (i := 0) rfl) ty_agg49 rfl rfl ?_
      refine HK1.out _ _ ⟨rfl, J, _, PH.le.refl _, hS, ?_, ?_⟩
      · simp only [Facts, outOf, List.getD_cons_succ, List.getD_cons_zero, Act.put, List.setIfInBounds_toArray, List.set_cons_succ, List.set_cons_zero, Array.getD_eq_getD_getElem?, List.getElem?_toArray, List.getElem?_cons_succ, List.getElem?_cons_zero, Option.getD_some]
      · simp [upd, l10]
    · have h3 := (hanc 3 (by decide)).2
      simp only [Facts, List.getD_cons_succ, List.getD_cons_zero] at h3
      have hSD := hSD w'
      simp only [textL, actL, dstAt, opAt, List.getD_cons_succ, List.getD_cons_zero, List.getElem?_cons_succ, List.getElem?_cons_zero, Option.bind_some, if_true, Act.put, List.setIfInBounds_toArray, List.set_cons_succ, List.set_cons_zero, h3]; refine wpStepZ_of (fun K hK => ?_); have HK1 := Lib.hid hK; clear hK; rw [if_pos (by rfl)]
      go_wp2_with fail
      refine HK1.out _ _ ⟨rfl, J, _, PH.le.refl _, hS, ?_, ?_⟩
      · simp only [Facts, outOf, List.getD_cons_succ, List.getD_cons_zero, Act.put, List.setIfInBounds_toArray, List.set_cons_succ, List.set_cons_zero, Array.getD_eq_getD_getElem?, List.getElem?_toArray, List.getElem?_cons_succ, List.getElem?_cons_zero, Option.getD_some]
      · simp [upd]
    · simp only [textL, actL, dstAt, opAt, List.getD_cons_succ, List.getD_cons_zero, List.getElem?_cons_succ, List.getElem?_cons_zero, Option.bind_some, if_true, Act.put, List.setIfInBounds_toArray, List.set_cons_succ, List.set_cons_zero]; refine wpStepZ_of (fun K hK => ?_); have HK1 := Lib.hid hK; clear hK; rw [if_pos (by rfl)]
      go_wp2_with fail
      refine HK1.out _ _ ⟨rfl, J, _, PH.le.refl _, hS, ?_, ?_⟩
      · simp only [Facts, outOf, List.getD_cons_succ, List.getD_cons_zero, Act.put, List.setIfInBounds_toArray, List.set_cons_succ, List.set_cons_zero, Array.getD_eq_getD_getElem?, List.getElem?_toArray, List.getElem?_cons_succ, List.getElem?_cons_zero, Option.getD_some]
      · simp [upd]
    · have h5 := (hanc 5 (by decide)).2
      simp only [Facts, List.getD_cons_succ, List.getD_cons_zero] at h5
      simp only [textL, actL, dstAt, opAt, List.getD_cons_succ, List.getD_cons_zero, List.getElem?_cons_succ, List.getElem?_cons_zero, Option.bind_some, if_true, Act.put, List.setIfInBounds_toArray, List.set_cons_succ, List.set_cons_zero, h5]; refine wpStepZ_of (fun K hK => ?_); have HK1 := Lib.hid hK; clear hK; rw [if_pos (by rfl)]
      go_wp2_with fail
      refine HK1.out _ _ ⟨rfl, J, _, PH.le.refl _, hS, ?_, ?_⟩
      · simp only [Facts, outOf, List.getD_cons_succ, List.getD_cons_zero, Act.put, List.setIfInBounds_toArray, List.set_cons_succ, List.set_cons_zero, Array.getD_eq_getD_getElem?, List.getElem?_toArray, List.getElem?_cons_succ, List.getElem?_cons_zero, Option.getD_some]
      · simp [upd]
    · have h6 := (hanc 6 (by decide)).2
      simp only [Facts, List.getD_cons_succ, List.getD_cons_zero] at h6
      simp only [textL, actL, dstAt, opAt, List.getD_cons_succ, List.getD_cons_zero, List.getElem?_cons_succ, List.getElem?_cons_zero, Option.bind_some, if_true, Act.put, List.setIfInBounds_toArray, List.set_cons_succ, List.set_cons_zero, h6]; refine wpStepZ_of (fun K hK => ?_); have HK1 := Lib.hid hK; clear hK; rw [if_pos (by rfl)]
      go_wp2_with fail
      refine HK1.out _ _ ⟨rfl, J, _, PH.le.refl _, hS, ?_, ?_⟩
      · simp only [Facts, outOf, List.getD_cons_succ, List.getD_cons_zero, Act.put, List.setIfInBounds_toArray, List.set_cons_succ, List.set_cons_zero, Array.getD_eq_getD_getElem?, List.getElem?_toArray, List.getElem?_cons_succ, List.getElem?_cons_zero, Option.getD_some]
      · simp [upd]
    · have h7 := (hanc 7 (by decide)).2
      simp only [Facts, List.getD_cons_succ, List.getD_cons_zero] at h7
      have l10 : L 10 = false := by
        cases h : L 10 with
        | false => rfl
        | true => have := hdown 10 (by decide) h 8 (by decide); rw [hLi] at this; cases this
      rw [l10] at hS
      simp only [Bool.false_eq_true, if_false, List.nil_append] at hS
      simp only [textL, actL, dstAt, opAt, List.getD_cons_succ, List.getD_cons_zero, List.getElem?_cons_succ, List.getElem?_cons_zero, Option.bind_some, if_true, Act.put, List.setIfInBounds_toArray, List.set_cons_succ, List.set_cons_zero, h7]; refine wpStepZ_of (fun K hK => ?_); have HK1 := Lib.hid hK; clear hK; rw [if_pos (by rfl)]
      (with_reducible refine atLoad ?_)
      refine wp_ldo1 (X := X) (c := #[.pointer p, .slice (some ⟨g, 0, none⟩) l.length cap]) hS (List.mem_of_getElem? (i := 0) rfl) ty_agg49 rfl rfl ?_
      refine HK1.out _ _ ⟨rfl, J, _, PH.le.refl _, hS, ?_, ?_⟩
      · simp only [Facts, outOf, List.getD_cons_succ, List.getD_cons_zero, Act.put, List.setIfInBounds_toArray, List.set_cons_succ, List.set_cons_zero, Array.getD_eq_getD_getElem?, List.getElem?_toArray, List.getElem?_cons_succ, List.getElem?_cons_zero, Option.getD_some]
      · simp [upd, l10]
    · have h8 := (hanc 8 (by decide)).2
      simp only [Facts, List.getD_cons_succ, List.getD_cons_zero] at h8
      simp only [textL, actL, dstAt, opAt, List.getD_cons_succ, List.getD_cons_zero, List.getElem?_cons_succ, List.getElem?_cons_zero, Option.bind_some, if_true, Act.put, List.setIfInBounds_toArray, List.set_cons_succ, List.set_cons_zero, h8]; refine wpStepZ_of (fun K hK => ?_); have HK1 := Lib.hid hK; clear hK; rw [if_pos (by rfl)]
      go_wp2_with fail
      refine HK1.out _ _ ⟨rfl, J, _, PH.le.refl _, hS, ?_, ?_⟩
      · simp only [Facts, outOf, List.getD_cons_succ, List.getD_cons_zero, Act.put, List.setIfInBounds_toArray, List.set_cons_succ, List.set_cons_zero, Array.getD_eq_getD_getElem?, List.getElem?_toArray, List.getElem?_cons_succ, List.getElem?_cons_zero, Option.getD_some]
      · simp [upd]
    · have h4 := (hanc 4 (by decide)).2
      simp only [Facts, List.getD_cons_succ, List.getD_cons_zero] at h4
      have h9 := (hanc 9 (by decide)).2
      simp only [Facts, List.getD_cons_succ, List.getD_cons_zero] at h9
      rw [hLi] at hS
      simp only [Bool.false_eq_true, if_false, List.nil_append] at hS
      have hUS := hUS w' (hS.own _ (.tail _ (.head _)) g _ (PH.one_self _ _))
      simp only [textL, actL, dstAt, opAt, List.getD_cons_succ, List.getD_cons_zero, List.getElem?_cons_succ, List.getElem?_cons_zero, Option.bind_some, if_true, Act.put, List.setIfInBounds_toArray, List.set_cons_succ, List.set_cons_zero, h4, h9]; refine wpStepZ_of (fun K hK => ?_); have HK1 := Lib.hid hK; clear hK; rw [if_pos (by rfl)]
      go_wp2_with fail
      replace hS : Sat E J (PH.one X (.cells #[.pointer p, .slice (some ⟨g, 0, none⟩) l.length cap] 51) :: ms) (w'.freeze ⟨g, 0, none⟩ l.length) := (hS.perm (List.Perm.swap _ _ _)).unsafe l.length
      refine HK1.out _ _ ⟨rfl, J, _, PH.le.refl _, hS, ?_, ?_⟩
      · simp only [Facts, outOf, List.getD_cons_succ, List.getD_cons_zero, Act.put, List.setIfInBounds_toArray, List.set_cons_succ, List.set_cons_zero, Array.getD_eq_getD_getElem?, List.getElem?_toArray, List.getElem?_cons_succ, List.getElem?_cons_zero, Option.getD_some]
      · simp [upd]
    · have h10 := (hanc 10 (by decide)).2
      simp only [Facts, List.getD_cons_succ, List.getD_cons_zero] at h10
      simp only [textL, actL, dstAt, opAt, List.getD_cons_succ, List.getD_cons_zero, List.getElem?_cons_succ, List.getElem?_cons_zero, Option.bind_some, if_true, Act.put, List.setIfInBounds_toArray, List.set_cons_succ, List.set_cons_zero, h10]; refine wpStepZ_of (fun K hK => ?_); have HK1 := Lib.hid hK; clear hK; rw [if_pos (by rfl)]
      go_wp2_with fail
      refine HK1.out _ _ ⟨rfl, J, _, PH.le.refl _, hS, ?_, ?_⟩
      · simp only [Facts, outOf, List.getD_cons_succ, List.getD_cons_zero, Act.put, List.setIfInBounds_toArray, List.set_cons_succ, List.set_cons_zero, Array.getD_eq_getD_getElem?, List.getElem?_toArray, List.getElem?_cons_succ, List.getElem?_cons_zero, Option.getD_some]
      · simp [upd]
  case fin =>
    intro vals J ns w hJ hD hS hL
    obtain ⟨L, hL, rfl⟩ := hL
    rw [hL 10 (by decide), if_pos rfl] at hS
    have hv : vals 11 = .string str := hD 11 (by decide)
    simp only [textL, actL, dstAt, List.length_cons, List.length_nil, Nat.reduceAdd, List.getElem?_cons_succ, List.getElem?_cons_zero, Option.bind_some, if_true, Act.put, List.setIfInBounds_toArray, List.set_cons_succ, List.set_cons_zero, hv]
    go_wp2_with fail
    go_ret
    exact ⟨_, rfl, hlst, (hS.less hJ).drop⟩
end Go.Proofs.YtmgjoggffnogfaaDoor
