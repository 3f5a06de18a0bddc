import Derived.Test.YtiigjjjaciliaaaT3
namespace Go.Proofs.Ytiigjjjaciliaaa
open Go.ChangeShapes Go.WideShapes Go.ChangeAt Go.RowKit
set_option linter.unusedVariables false
theorem rof_any (n : Int) (b : Bool) (w : World) (h1 : n ≤ 1073741824) :
    Calls Try.prog 20 #[.int .i64 n, .bool b] w fun r w' => r = .returned (.int .i64 (fl (2 * max n 0) b)) ∧ w = w' := by
  have hy : fl (2 * max n 0) true = 2 * max n 0 + 1 := by unfold fl nt; rw [if_pos rfl, if_pos (by omega)]
  have hn : fl (2 * max n 0) false = 2 * max n 0 := rfl
  by_cases h0 : 0 ≤ n
  · have hm : 2 * max n 0 = 2 * n := by omega
    cases b
    · rw [hn, hm]
      clear hy hn hm
      go_enter Try.func20, Try.ntmps20
      go_wp2
      go_ret
      exact ⟨rfl, rfl⟩
    · rw [hy, hm]
      clear hy hn hm
      go_enter Try.func20, Try.ntmps20
      go_wp2
      go_ret
      exact ⟨rfl, rfl⟩
  · have hm : 2 * max n 0 = 0 := by omega
    have h0 : n < 0 := by omega
    cases b
    · rw [hn, hm]
      clear hy hn hm
      go_enter Try.func20, Try.ntmps20
      go_wp2
      go_ret
      exact ⟨rfl, rfl⟩
    · rw [hy, hm]
      clear hy hn hm
      go_enter Try.func20, Try.ntmps20
      go_wp2
      go_ret
      exact ⟨rfl, rfl⟩
theorem rflip_any (e : Int) (b : Bool) (w : World) (h0 : 0 ≤ e) (h1 : e ≤ 4294967300) :
    Calls Try.prog 25 #[.int .i64 e, .bool b] w fun r w' => r = .returned (.int .i64 (fl e b)) ∧ w = w' := by
  cases b
  · have hn : fl e false = e := rfl
    rw [hn]
    clear hn
    go_enter Try.func25, Try.ntmps25
    go_wp2
    go_ret
    exact ⟨rfl, rfl⟩
  · have hn : fl e true = nt e := rfl
    rw [hn]
    clear hn
    go_enter Try.func25, Try.ntmps25
    go_wp2_with (go_at_call 23; refine (rnot_any _ _ (by omega) (by omega)).mono ?_; rintro r w' ⟨rfl, rfl⟩)
    go_ret
    exact ⟨rfl, rfl⟩
theorem node_neg (e : Int) (w : World) (h0 : e < 0) :
    Calls Try.prog 21 #[.int .i64 e] w fun r w' => r = .returned (.int .i64 0) ∧ w = w' := by
  go_enter Try.func21, Try.ntmps21
  go_wp2
  go_ret
  exact ⟨rfl, rfl⟩
theorem rnode_neg (e : Int) (w : World) (h0 : e < 0) :
    Calls Try.prog 22 #[.int .i64 e] w fun r w' => r = .returned (.int .i64 0) ∧ w = w' := by
  go_enter Try.func22, Try.ntmps22
  go_wp2
  go_ret
  exact ⟨rfl, rfl⟩
theorem neg_neg (e : Int) (w : World) (h0 : e < 0) :
    Calls Try.prog 17 #[.int .i64 e] w fun r w' => r = .returned (.bool false) ∧ w = w' := by
  go_enter Try.func17, Try.ntmps17
  go_wp2
  go_ret
  exact ⟨rfl, rfl⟩
theorem rneg_neg (e : Int) (w : World) (h0 : e < 0) :
    Calls Try.prog 18 #[.int .i64 e] w fun r w' => r = .returned (.bool false) ∧ w = w' := by
  go_enter Try.func18, Try.ntmps18
  go_wp2
  go_ret
  exact ⟨rfl, rfl⟩
end Go.Proofs.Ytiigjjjaciliaaa
