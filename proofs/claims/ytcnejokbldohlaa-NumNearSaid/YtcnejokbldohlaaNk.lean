/- The walk of the law NumReckons, NumNear. -/
import Derived.Test.YtcnejokbldohlaaNj
namespace Go.Proofs.Ytcnejokbldohlaa
open Go.ChangeShapes Go.WideShapes Go.ChangeAt Go.RowKit
set_option linter.unusedVariables false
theorem reckons_walk (a b k : Int) (w : World) (ha : I64 a) (hb : I64 b) :
    Calls Try.prog 10 #[.int .i64 a, .int .i64 b, .int .i64 k] w fun r w' => r = .returned (.bool true) ∧ Below w.heap.size w w' := by
  go_enter Try.func10, Try.ntmps10
  go_wp2_with (first | (go_at_call 15; refine (lives_any _).mono ?_; rintro r w' ⟨rfl, hb1⟩) | (go_at_call 35; refine (add_any _ _ _ ha hb).mono ?_; rintro r w' ⟨rfl, rfl⟩) | (go_at_call 36; refine (radd_any _ _ _ ha hb).mono ?_; rintro r w' ⟨rfl, rfl⟩) | (go_at_call 37; refine (mul_any _ _ _ ha hb).mono ?_; rintro r w' ⟨rfl, rfl⟩) | (go_at_call 38; refine (rmul_any _ _ _ ha hb).mono ?_; rintro r w' ⟨rfl, rfl⟩) | (go_at_call 39; refine (pow2_any _ _).mono ?_; rintro r w' ⟨rfl, rfl⟩) | (go_at_call 40; refine (rpow2_any _ _).mono ?_; rintro r w' ⟨rfl, rfl⟩))
  go_ret
  exact ⟨rfl, by assumption⟩
theorem near_walk (n lo hi : Int) (w : World) (hn : I64 n) :
    Calls Try.prog 6 #[.int .i64 n, .int .i64 lo, .int .i64 hi] w fun r w' => r = .returned (.bool true) ∧ Below w.heap.size w w' := by
  have c1 := fun w => bits_any n w hn
  have c2 := fun w => rbits_any n w hn
  have h63 : lg n.toNat ≤ 63 := by rw [lg_le_iff]; unfold I64 at hn; omega
  have hsm : n < 2 → lg n.toNat = 0 := fun h => lg_small _ (by omega)
  generalize lg n.toNat = k at *
  have C1 := Lib.hid c1
  have C2 := Lib.hid c2
  clear c1 c2 hn
  by_cases h2 : n < 2
  · obtain rfl := hsm h2
    clear hsm
    go_enter Try.func6, Try.ntmps6
    go_wp2_with (first | (go_at_call 15; refine (lives_any _).mono ?_; rintro r w' ⟨rfl, hb1⟩) | (go_at_call 23; refine (C1.out _).mono ?_; rintro r w' ⟨rfl, rfl⟩) | (go_at_call 24; refine (C2.out _).mono ?_; rintro r w' ⟨rfl, rfl⟩) | (go_at_call 25; refine (near_any _ _ _ _).mono ?_; rintro r w' ⟨rfl, rfl⟩) | (go_at_call 26; refine (rnear_any _ _ _ _).mono ?_; rintro r w' ⟨rfl, rfl⟩))
    all_goals go_ret
    all_goals exact ⟨by simp, by assumption⟩
  · clear hsm
    go_enter Try.func6, Try.ntmps6
    go_wp2_with (first | (go_at_call 15; refine (lives_any _).mono ?_; rintro r w' ⟨rfl, hb1⟩) | (go_at_call 23; refine (C1.out _).mono ?_; rintro r w' ⟨rfl, rfl⟩) | (go_at_call 24; refine (C2.out _).mono ?_; rintro r w' ⟨rfl, rfl⟩) | (go_at_call 25; refine (near_any _ _ _ _).mono ?_; rintro r w' ⟨rfl, rfl⟩) | (go_at_call 26; refine (rnear_any _ _ _ _).mono ?_; rintro r w' ⟨rfl, rfl⟩))
    all_goals go_ret
    all_goals exact ⟨by simp, by assumption⟩
end Go.Proofs.Ytcnejokbldohlaa
