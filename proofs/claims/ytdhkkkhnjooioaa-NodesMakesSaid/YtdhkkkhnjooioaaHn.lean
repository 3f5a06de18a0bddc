/- The methods of a nil store. -/
import Derived.Test.YtdhkkkhnjooioaaHk
namespace Go.Proofs.Ytdhkkkhnjooioaa
set_option linter.unusedSimpArgs false
set_option linter.unusedVariables false
open Go.RowKit
theorem ty_agg23 : aggB Try.prog 23 = some false := by kernel_rfl
theorem ty_sz23 : sizeB Try.prog 23 = some 1 := by kernel_rfl
theorem ty_z23 : zeroB Try.prog 23 = some (.pointer none) := by kernel_rfl
set_option linter.unusedVariables false
section
variable (w : World)
theorem nil_vars : Calls Try.prog 19 #[.pointer none] w fun e w' => e = .returned (.int .i64 0) ∧ w = w' := by
  go_enter Try.func19, Try.ntmps19
  go_wp2
  go_ret
  exact ⟨rfl, rfl⟩
theorem nil_room : Calls Try.prog 20 #[.pointer none] w fun e w' => e = .returned (.int .i64 0) ∧ w = w' := by
  go_enter Try.func20, Try.ntmps20
  go_wp2
  go_ret
  exact ⟨rfl, rfl⟩
theorem nil_slen : Calls Try.prog 12 #[.pointer none] w fun e w' => e = .returned (.int .i64 0) ∧ w = w' := by
  go_enter Try.func12, Try.ntmps12
  go_wp2
  go_ret
  exact ⟨rfl, rfl⟩
theorem nil_dead : Calls Try.prog 21 #[.pointer none] w fun e w' => e = .returned (.int .i64 0) ∧ w = w' := by
  go_enter Try.func21, Try.ntmps21
  go_wp2
  go_ret
  exact ⟨rfl, rfl⟩
theorem nil_level (v : Int) : Calls Try.prog 23 #[.pointer none, .int .i64 v] w fun e w' => e = .returned (.int .i64 (-1)) ∧ w = w' := by
  go_enter Try.func23, Try.ntmps23
  go_wp2
  go_ret
  exact ⟨rfl, rfl⟩
theorem nil_order : Calls Try.prog 9 #[.pointer none] w fun e w' => e = .returned (.slice none 0 0) ∧ w = w' := by
  go_enter Try.func9, Try.ntmps9
  go_wp2
  go_ret
  exact ⟨rfl, rfl⟩
theorem nil_is (f : Int) : Calls Try.prog 32 #[.pointer none, .int .i64 f] w fun e w' => e = .returned (.bool false) ∧ w = w' := by
  go_enter Try.func32, Try.ntmps32
  go_wp2
  go_ret
  exact ⟨rfl, rfl⟩
theorem nil_at (f : Int) : Calls Try.prog 33 #[.pointer none, .int .i64 f] w fun e w' => e = .returned (.tuple #[.int .i64 (-1), .int .i64 0, .int .i64 0, .bool false]) ∧ w = w' := by
  go_enter Try.func33, Try.ntmps33
  go_wp2
  refine bodyPost_ret (res4 (w := w) rfl (rvt rfl) (rvt rfl) (rvt rfl) (rvt rfl)) rfl ?_
  exact ⟨rfl, rfl⟩
theorem nil_mk (v f g : Int) : Calls Try.prog 31 #[.pointer none, .int .i64 v, .int .i64 f, .int .i64 g] w fun e w' => e = .returned (.tuple #[.int .i64 0, .int .i64 5]) ∧ w = w' := by
  go_enter Try.func31, Try.ntmps31
  go_wp2
  go_ret2
  exact ⟨rfl, rfl⟩
theorem nil_hold (f : Int) : Calls Try.prog 27 #[.pointer none, .int .i64 f] w fun e w' => e = .returned (.int .i64 5) ∧ w = w' := by
  go_enter Try.func27, Try.ntmps27
  go_wp2
  go_ret
  exact ⟨rfl, rfl⟩
theorem nil_drop (f : Int) : Calls Try.prog 30 #[.pointer none, .int .i64 f] w fun e w' => e = .returned (.int .i64 5) ∧ w = w' := by
  go_enter Try.func30, Try.ntmps30
  go_wp2
  go_ret
  exact ⟨rfl, rfl⟩
set_option maxRecDepth 100000 in
theorem nil_swap (k : Int) : Calls Try.prog 29 #[.pointer none, .int .i64 k] w fun e w' => e = .returned (.int .i64 5) ∧ w = w' := by
  go_enter Try.func29, Try.ntmps29
  go_wp2
  go_ret
  exact ⟨rfl, rfl⟩
theorem nil_collect : Calls Try.prog 35 #[.pointer none] w fun e w' => e = .returned (.int .i64 0) ∧ Below w.heap.size w w' := by
  have hS := Sat.start w
  go_enter Try.func35, Try.ntmps35
  go_wp2_with (first | ((with_reducible refine atList ?_); first | ((with_reducible refine isGuard ?_); first | go_skip | ((with_reducible refine guarded_no ?hw ?_); (case hw => (simp only [Region.wanted, yielded, zC, zA, zB, zK]; first | exact (rfl : (some true == some false) = false) | exact (rfl : (some false == some true) = false))); (try simp only [Act.put, zE, zF, zG])) | ((with_reducible refine guarded_yes ?hw ?_); case hw => (simp only [Region.wanted, yielded, zC, zA, zB, zK, beq_self_eq_true]; done)) | ((refine' guarded_cases (b := _) ?hy ?_ ?_); (case hy => (simp only [yielded, zC, zA, zB, zK]; exact rfl)); all_goals (intro hb; (try simp only [Bool.not_true, Bool.not_false] at hb); (try simp only [hb]); (try simp only [Act.put, zE, zF, zG]); first | ((have hf : False := by (simp at hb; done)); cases hf) | ((have hf : False := by (simp at hb; omega)); cases hf) | skip))) | ((with_reducible refine isLoad ?_); (first | (refine ld1 0 hS rfl rfl ?ha rfl rfl rfl ?_; (case ha => first | exact ty_agg3 | exact ty_agg23)) | ((refine' ldI1 (v := _) hS rfl rfl ?ha rfl ?hb ?_); (case ha => first | exact ty_agg3 | exact ty_agg23); (case hb => assumption))); (try simp only [Act.put, zE, zF, zG])) | ((with_reducible refine isStore ?_); (first | (refine st1 0 hS rfl rfl rfl rfl rfl ?ha rfl rfl ?hb ?_; (case ha => first | exact ty_sz3 | exact ty_sz23); (case hb => (simp; done)))); clear hS; intro w hS; (try simp only [zF, zG, zE, Act.eval, zD, zC, zA, zB, zJ, Value.cells] at hS); (try simp only [Act.put, zE, zF, zG])) | ((with_reducible refine isBox ?_); refine bx hS rfl rfl rfl ?_; clear hS; intro X w hS; (try simp only [Act.eval, zD, zC, zA, zB, zJ, Value.cells] at hS); (try simp only [Act.put, zE, zF, zG])) | ((with_reducible refine isAlloc ?_); (refine' al (z := _) hS rfl rfl ?ha ?_); (case ha => first | exact ty_z3 | exact ty_z23); clear hS; intro X w hS; (try simp only [Act.eval, zD, zC, zA, zB, zJ, Value.cells] at hS); (try simp only [Act.put, zE, zF, zG]))))
  go_ret
  exact ⟨rfl, hS.end_ (PH.le.refl _)⟩
theorem nil_held (f : Int) : Calls Try.prog 34 #[.pointer none, .int .i64 f] w fun e w' => e = .returned (.int .i64 0) ∧ w = w' := by
  have h := Lib.hid (nil_is w f)
  go_enter Try.func34, Try.ntmps34
  go_wp2_with (go_at_call 32; (with_reducible refine Calls.mono h.out ?_); rintro e w9 ⟨rfl, rfl⟩)
  go_ret
  exact ⟨rfl, rfl⟩
end
end Go.Proofs.Ytdhkkkhnjooioaa
