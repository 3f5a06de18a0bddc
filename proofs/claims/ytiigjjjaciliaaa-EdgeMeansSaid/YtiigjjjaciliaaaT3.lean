import Derived.Test.YtiigjjjaciliaaaT2
namespace Go.Proofs.Ytiigjjjaciliaaa
open Go.ChangeShapes Go.WideShapes Go.ChangeAt Go.RowKit
set_option linter.unusedVariables false
theorem of_any (n : Int) (b : Bool) (w : World) (h1 : n ≤ 1073741824) :
    Calls Try.prog 19 #[.int .i64 n, .bool b] w fun r w' => r = .returned (.int .i64 (fl (2 * max n 0) b)) ∧ w = w' := by
  by_cases h0 : 0 ≤ n
  · have hm : 2 * max n 0 = 2 * n := by omega
    rw [hm]
    clear hm
    go_enter Try.func19, Try.ntmps19
    go_wp2_with (first | (go_at_call 24; refine (flip_any _ _ _ (by omega) (by omega)).mono ?_; rintro r w' ⟨rfl, rfl⟩))
    go_ret
    exact ⟨rfl, rfl⟩
  · have hm : 2 * max n 0 = 0 := by omega
    rw [hm]
    clear hm
    have h0 : n < 0 := by omega
    go_enter Try.func19, Try.ntmps19
    go_wp2_with (first | (go_at_call 24; refine (flip_any _ _ _ (by omega) (by omega)).mono ?_; rintro r w' ⟨rfl, rfl⟩))
    go_ret
    exact ⟨rfl, rfl⟩
theorem const_any (e : Int) (w : World) (h0 : 0 ≤ e) (h1 : e ≤ 4294967300) :
    Calls Try.prog 26 #[.int .i64 e] w fun r w' => r = .returned (.bool (e / 2 == 0)) ∧ w = w' := by
  go_enter Try.func26, Try.ntmps26
  go_wp2_with (go_at_call 21; refine (node_any _ _ (by omega) (by omega)).mono ?_; rintro r w' ⟨rfl, rfl⟩)
  go_ret
  exact ⟨rfl, rfl⟩
theorem lives_any (w : World) : Calls Try.prog 8 #[] w fun r w' => r = .returned (.bool true) ∧ Below w.heap.size w w' := by
  have e1 : fl (2 * max 3 0) true = 7 := by decide
  have e2 : normV 4 7 = #[.int .i64 5, .int .i64 6, .bool true] := by rfl
  have e3 : meetV 6 7 = #[.int .i64 1, .bool true] := by rfl
  have e4 : nt 7 = 6 := by decide
  have e5 : iteV 6 6 1 = #[.int .i64 0, .int .i64 0, .int .i64 0, .bool false, .int .i64 6, .bool true] := by rfl
  have e6 : iteV 7 4 9 = #[.int .i64 6, .int .i64 8, .int .i64 5, .bool true, .int .i64 0, .bool false] := by rfl
  go_enter Try.func8, Try.ntmps8
  go_wp2_with (first | (go_at_call 19; refine (of_any _ _ _ (by omega)).mono ?_; rintro r w' ⟨rfl, rfl⟩) | (go_at_call 9; refine (norm_any _ _ _ (by omega) (by omega) (by omega) (by omega)).mono ?_; rintro r w' ⟨rfl, rfl⟩) | (go_at_call 11; refine (meet_any _ _ _ (by omega) (by omega) (by omega) (by omega)).mono ?_; rintro r w' ⟨rfl, rfl⟩) | (go_at_call 16; refine (not_any _ _ (by omega) (by omega)).mono ?_; rintro r w' ⟨rfl, rfl⟩) | (go_at_call 13; refine (ite13_any _ _ _ _ (by omega) (by omega) (by omega) (by omega) (by omega) (by omega)).mono ?_; rintro r w1 ⟨rfl, hb1⟩))
  go_ret
  exact ⟨rfl, Bthen (by assumption) (by assumption)⟩
end Go.Proofs.Ytiigjjjaciliaaa
