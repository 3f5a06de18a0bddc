/- NodesNobody. -/
import Derived.Test.YtdhkkkhnjooioaaJo
import Derived.Test.YtdhkkkhnjooioaaHn
namespace Go.Proofs.Ytdhkkkhnjooioaa
set_option linter.unusedSimpArgs false
set_option linter.unusedVariables false
open Go.RowKit
set_option linter.unusedVariables false
theorem nilall9 {E w : World} {I : PH} {ms : List PH} (hS : Sat E I ms w) : Calls Try.prog 25 #[.pointer none, .int .i64 9] w fun e w' => ∃ A c mo, e = .returned (.slice A 0 c) ∧ Sat E I (mo :: ms) w' := by
  refine (nilall_any 9 (by decide) hS).mono ?_
  rintro e w' ⟨v, mo, rfl, hO, h⟩
  obtain ⟨A, c, rfl, _⟩ := hO.shape
  exact ⟨A, c, mo, rfl, h⟩
set_option maxRecDepth 1000000 in
set_option maxHeartbeats 8000000 in
theorem nobody_any (W : World) (v f level : Int) : Calls Try.prog 7 #[.int .i64 v, .int .i64 f, .int .i64 level] W fun e w' => e = .returned (.bool true) ∧ Below W.heap.size W w' := by
  have hS := Sat.start W
  go_enter Try.func7, Try.ntmps7
  go_wp2_with (first
    | (go_at_call 31; (with_reducible refine Calls.mono (nil_mk _ _ _ _) ?_); rintro e w9 ⟨rfl, rfl⟩)
    | (go_at_call 33; (with_reducible refine Calls.mono (nil_at _ _) ?_); rintro e w9 ⟨rfl, rfl⟩)
    | (go_at_call 27; (with_reducible refine Calls.mono (nil_hold _ _) ?_); rintro e w9 ⟨rfl, rfl⟩)
    | (go_at_call 30; (with_reducible refine Calls.mono (nil_drop _ _) ?_); rintro e w9 ⟨rfl, rfl⟩)
    | (go_at_call 29; (with_reducible refine Calls.mono (nil_swap _ _) ?_); rintro e w9 ⟨rfl, rfl⟩)
    | (go_at_call 19; (with_reducible refine Calls.mono (nil_vars _) ?_); rintro e w9 ⟨rfl, rfl⟩)
    | (go_at_call 20; (with_reducible refine Calls.mono (nil_room _) ?_); rintro e w9 ⟨rfl, rfl⟩)
    | (go_at_call 12; (with_reducible refine Calls.mono (nil_slen _) ?_); rintro e w9 ⟨rfl, rfl⟩)
    | (go_at_call 23; (with_reducible refine Calls.mono (nil_level _ _) ?_); rintro e w9 ⟨rfl, rfl⟩)
    | (go_at_call 9; (with_reducible refine Calls.mono (nil_order _) ?_); rintro e w9 ⟨rfl, rfl⟩)
    | (go_at_call 32; (with_reducible refine Calls.mono (nil_is _ _) ?_); rintro e w9 ⟨rfl, rfl⟩)
    | (go_at_call 34; (with_reducible refine Calls.mono (nil_held _ _) ?_); rintro e w9 ⟨rfl, rfl⟩)
    | (go_at_call 21; (with_reducible refine Calls.mono (nil_dead _) ?_); rintro e w9 ⟨rfl, rfl⟩)
    | (go_at_call 35; (with_reducible refine Calls.mono (nil_collect _) ?_); rintro e w2 ⟨rfl, hb⟩; replace hS := hS.below_ hb; clear hb)
    | (go_at_call 25; (with_reducible refine Calls.mono (nilall9 hS) ?_); clear hS; rintro e w ⟨A, c, mo, rfl, hS⟩)
    | (go_at_call 17; (with_reducible refine Calls.mono (lives_any hS) ?_); clear hS; rintro e w ⟨rfl, hS⟩)
    | ((with_reducible refine atList ?_); first | ((with_reducible refine isGuard ?_); first | go_skip | ((with_reducible refine guarded_no ?hw ?_); (case hw => (simp only [Region.wanted, yielded, zC, zA, zB, zK]; first | exact (rfl : (some true == some false) = false) | exact (rfl : (some false == some true) = false))); (try simp only [Act.put, zE, zF, zG])) | ((with_reducible refine guarded_yes ?hw ?_); case hw => (simp only [Region.wanted, yielded, zC, zA, zB, zK, beq_self_eq_true]; done)) | ((refine' guarded_cases (b := _) ?hy ?_ ?_); (case hy => (simp only [yielded, zC, zA, zB, zK]; exact rfl)); all_goals (intro hb; (try simp only [Bool.not_true, Bool.not_false] at hb); (try simp only [hb]); (try simp only [Act.put, zE, zF, zG]); first | ((have hf : False := by (simp at hb; done)); cases hf) | ((have hf : False := by (simp at hb; omega)); cases hf) | skip))) | ((with_reducible refine isLoad ?_); (first | (refine ld1 0 hS rfl rfl ?ha rfl rfl rfl ?_; (case ha => first | exact ty_agg3)) | ((refine' ldI1 (v := _) hS rfl rfl ?ha rfl ?hb ?_); (case ha => first | exact ty_agg3); (case hb => assumption))); (try simp only [Act.put, zE, zF, zG])) | ((with_reducible refine isStore ?_); (first | (refine st1 0 hS rfl rfl rfl rfl rfl ?ha rfl rfl ?hb ?_; (case ha => first | exact ty_sz3); (case hb => (simp; done)))); clear hS; intro w hS; (try simp only [zF, zG, zE, Act.eval, zD, zC, zA, zB, zJ, Value.cells] at hS); (try simp only [Act.put, zE, zF, zG])) | ((with_reducible refine isBox ?_); refine bx hS rfl rfl rfl ?_; clear hS; intro X w hS; (try simp only [Act.eval, zD, zC, zA, zB, zJ, Value.cells] at hS); (try simp only [Act.put, zE, zF, zG])) | ((with_reducible refine isAlloc ?_); (refine' al (z := _) hS rfl rfl ?ha ?_); (case ha => first | exact ty_z3); clear hS; intro X w hS; (try simp only [Act.eval, zD, zC, zA, zB, zJ, Value.cells] at hS); (try simp only [Act.put, zE, zF, zG]))))
  go_ret
  exact ⟨rfl, hS.end_ (PH.le.refl _)⟩
end Go.Proofs.Ytdhkkkhnjooioaa
