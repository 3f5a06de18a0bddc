/- Contracts of the small functions of package num and of its reference. -/
import Derived.Test.YtcnejokbldohlaaPost
import Derived.Test.YtcnejokbldohlaaDec
import Derived.Test.YtcnejokbldohlaaShelf
import Derived.Lib.Hide
import Derived.Deep.Light
namespace Go.Proofs.Ytcnejokbldohlaa
open Go.ChangeShapes Go.WideShapes Go.ChangeAt Go.RowKit
set_option linter.unusedVariables false
def I64 (a : Int) : Prop := -9223372036854775808 ≤ a ∧ a ≤ 9223372036854775807
theorem reti {k : IntKind} {a b : Int} (h : a = b) : Ending.returned (.int k a) = .returned (.int k b) := by rw [h]
theorem rett {a b : Value} {x : Array Value} (h : x = #[a, b]) : Ending.returned (.tuple #[a, b]) = .returned (.tuple x) := by rw [h]
theorem size_any (n : Int) (w : World) (hn : I64 n) :
    Calls Try.prog 44 #[.int .i64 n] w fun r w' => r = .returned (.int .u64 (n.natAbs : Int)) ∧ w = w' := by
  by_cases h : n < 0
  · go_enter Try.func44, Try.ntmps44
    go_wp2
    go_ret
    refine ⟨reti ?_, rfl⟩
    go_light
    unfold I64 at hn
    simp only [IntKind.wrap_u64]
    omega
  · go_enter Try.func44, Try.ntmps44
    go_wp2
    go_ret
    refine ⟨reti ?_, rfl⟩
    go_light
    unfold I64 at hn
    simp only [IntKind.wrap_u64]
    omega
theorem rsize_any (n : Int) (w : World) (hn : I64 n) :
    Calls Try.prog 46 #[.int .i64 n] w fun r w' => r = .returned (.int .u64 (n.natAbs : Int)) ∧ w = w' := by
  by_cases h : n < 0
  · go_enter Try.func46, Try.ntmps46
    go_wp2
    go_ret
    refine ⟨reti ?_, rfl⟩
    go_light
    unfold I64 at hn
    simp only [IntKind.wrap_u64, wrap64]
    omega
  · go_enter Try.func46, Try.ntmps46
    go_wp2
    go_ret
    refine ⟨reti ?_, rfl⟩
    go_light
    unfold I64 at hn
    simp only [IntKind.wrap_u64]
    omega
def resN (n : Int) : Int := if -9007199254740992 ≤ n ∧ n ≤ 9007199254740992 then n else 0
def resB (n : Int) : Bool := decide (-9007199254740992 ≤ n ∧ n ≤ 9007199254740992)
def heldN (n : Int) (b : Bool) : Int := if b = true then resN n else 0
def heldB (n : Int) (b : Bool) : Bool := b && resB n
theorem retib {k : IntKind} {a b : Int} {c d : Bool} (h : b = a) (h' : d = c) : Ending.returned (.tuple #[.int k a, .bool c]) = .returned (.tuple #[.int k b, .bool d]) := by rw [h, h']
theorem held_any (n : Int) (b : Bool) (w : World) :
    Calls Try.prog 52 #[.int .i64 n, .bool b] w fun r w' => r = .returned (.tuple #[.int .i64 (heldN n b), .bool (heldB n b)]) ∧ w = w' := by
  cases b
  all_goals
    go_enter Try.func52, Try.ntmps52
    go_wp2
    all_goals go_ret2
    all_goals go_light
    all_goals refine ⟨retib ?_ ?_, rfl⟩
    all_goals grind [heldN, heldB, resN, resB]
theorem add_math (a b : Int) (ha : I64 a) (hb : I64 b) (q : Bool) (hq : (a < 0 ↔ b < 0) → q = (decide (a < 0) == decide (wrap64 (a + b) < 0))) (hq2 : ¬ (a < 0 ↔ b < 0) → q = true) :
    heldN (wrap64 (a + b)) q = resN (a + b) ∧ heldB (wrap64 (a + b)) q = resB (a + b) := by
  have hw : q = true → wrap64 (a + b) = a + b := by
    intro h
    by_cases h1 : a < 0 ↔ b < 0
    · rw [hq h1] at h
      have h2 : (a < 0) = (wrap64 (a + b) < 0) := by simpa using h
      unfold I64 wrap64 at *
      by_cases h3 : a < 0
      · have h4 : (a + b + 9223372036854775808) % 18446744073709551616 - 9223372036854775808 < 0 := by rw [← h2]; exact h3
        omega
      · have h4 : ¬ ((a + b + 9223372036854775808) % 18446744073709551616 - 9223372036854775808 < 0) := by rw [← h2]; exact h3
        omega
    · unfold I64 wrap64 at *; omega
  have hf : q = false → ¬ (-9007199254740992 ≤ a + b ∧ a + b ≤ 9007199254740992) := by
    intro h
    by_cases h1 : a < 0 ↔ b < 0
    · rw [hq h1] at h
      intro hr
      have hww : wrap64 (a + b) = a + b := by unfold wrap64; omega
      rw [hww] at h
      have h2 : ¬ ((a < 0) = (a + b < 0)) := by simpa using h
      apply h2
      exact propext (by omega)
    · rw [hq2 h1] at h; cases h
  cases hc : q
  · have := hf hc
    exact ⟨by unfold heldN resN; rw [if_neg (by simp), if_neg this], by unfold heldB resB; rw [decide_eq_false this]; rfl⟩
  · rw [hw hc]; exact ⟨rfl, by unfold heldB; rfl⟩
theorem add_any (a b : Int) (w : World) (ha : I64 a) (hb : I64 b) :
    Calls Try.prog 35 #[.int .i64 a, .int .i64 b] w fun r w' => r = .returned (.tuple #[.int .i64 (resN (a + b)), .bool (resB (a + b))]) ∧ w = w' := by
  go_enter Try.func35, Try.ntmps35
  go_wp2_with (go_at_call 52; refine (held_any _ _ _).mono ?_; rintro r w' ⟨rfl, rfl⟩)
  · have h : a < 0 ↔ b < 0 := by assumption
    have h1 : (a < 0 ↔ b < 0) → (decide (b < 0) == decide (wrap64 (a + b) < 0)) = (decide (a < 0) == decide (wrap64 (a + b) < 0)) := fun h => by rw [decide_eq_decide.2 h]
    have h2 := add_math a b ha hb _ h1 (fun h' => absurd h h')
    have H2 := Lib.hid h2
    clear h1 h2
    go_ret2
    exact ⟨retib H2.out.1.symm H2.out.2.symm, rfl⟩
  · have h : ¬ (a < 0 ↔ b < 0) := by assumption
    have h2 := add_math a b ha hb true (fun h' => absurd h' h) (fun _ => rfl)
    have H2 := Lib.hid h2
    clear h2
    go_ret2
    exact ⟨retib H2.out.1.symm H2.out.2.symm, rfl⟩
theorem radd_any (a b : Int) (w : World) (ha : I64 a) (hb : I64 b) :
    Calls Try.prog 36 #[.int .i64 a, .int .i64 b] w fun r w' => r = .returned (.tuple #[.int .i64 (resN (a + b)), .bool (resB (a + b))]) ∧ w = w' := by
  have a1 := ha.1
  have a2 := ha.2
  have b1 := hb.1
  have b2 := hb.2
  have Pw : I64 (wrap64 (a + b)) := by unfold I64 wrap64; omega
  by_cases pa : a < 0
  · by_cases pb : b < 0
    · go_enter Try.func36, Try.ntmps36
      go_wp2_with (go_at_call 46; refine (rsize_any _ _ (by unfold I64; omega)).mono ?_; rintro r w' ⟨rfl, rfl⟩)
      all_goals go_ret2
      all_goals go_light
      all_goals refine ⟨retib ?_ ?_, rfl⟩
      all_goals first
        | (unfold resN; split <;> omega)
        | (unfold resB; first | exact decide_eq_true (by omega) | exact decide_eq_false (by omega))
    · go_enter Try.func36, Try.ntmps36
      go_wp2_with (go_at_call 46; refine (rsize_any _ _ (by unfold I64; omega)).mono ?_; rintro r w' ⟨rfl, rfl⟩)
      all_goals go_ret2
      all_goals go_light
      all_goals refine ⟨retib ?_ ?_, rfl⟩
      all_goals first
        | (unfold resN; split <;> omega)
        | (unfold resB; first | exact decide_eq_true (by omega) | exact decide_eq_false (by omega))
  · by_cases pb : b < 0
    · go_enter Try.func36, Try.ntmps36
      go_wp2_with (go_at_call 46; refine (rsize_any _ _ (by unfold I64; omega)).mono ?_; rintro r w' ⟨rfl, rfl⟩)
      all_goals go_ret2
      all_goals go_light
      all_goals refine ⟨retib ?_ ?_, rfl⟩
      all_goals first
        | (unfold resN; split <;> omega)
        | (unfold resB; first | exact decide_eq_true (by omega) | exact decide_eq_false (by omega))
    · go_enter Try.func36, Try.ntmps36
      go_wp2_with (go_at_call 46; refine (rsize_any _ _ (by unfold I64; omega)).mono ?_; rintro r w' ⟨rfl, rfl⟩)
      all_goals go_ret2
      all_goals go_light
      all_goals refine ⟨retib ?_ ?_, rfl⟩
      all_goals first
        | (unfold resN; split <;> omega)
        | (unfold resB; first | exact decide_eq_true (by omega) | exact decide_eq_false (by omega))
theorem near_any (n lo hi : Int) (w : World) :
    Calls Try.prog 25 #[.int .i64 n, .int .i64 lo, .int .i64 hi] w fun r w' => r = .returned (.int .i64 (if n < lo then lo else if hi < n then hi else n)) ∧ w = w' := by
  by_cases h1 : n < lo
  · go_enter Try.func25, Try.ntmps25
    go_wp2
    go_ret
    exact ⟨rfl, rfl⟩
  · by_cases h2 : hi < n
    · go_enter Try.func25, Try.ntmps25
      go_wp2
      go_ret
      exact ⟨rfl, rfl⟩
    · go_enter Try.func25, Try.ntmps25
      go_wp2
      go_ret
      exact ⟨rfl, rfl⟩
theorem rnear_any (n lo hi : Int) (w : World) :
    Calls Try.prog 26 #[.int .i64 n, .int .i64 lo, .int .i64 hi] w fun r w' => r = .returned (.int .i64 (if n < lo then lo else if hi < n then hi else n)) ∧ w = w' := by
  by_cases h1 : n < lo
  · go_enter Try.func26, Try.ntmps26
    go_wp2
    go_ret
    exact ⟨rfl, rfl⟩
  · by_cases h2 : hi < n
    · go_enter Try.func26, Try.ntmps26
      go_wp2
      go_ret
      exact ⟨rfl, rfl⟩
    · go_enter Try.func26, Try.ntmps26
      go_wp2
      go_ret
      exact ⟨rfl, rfl⟩
/-- The number of bits that n values need. -/
def lg (n : Nat) : Nat := if n ≤ 1 then 0 else lg ((n + 1) / 2) + 1
termination_by n
decreasing_by omega
theorem lg_le_iff (n k : Nat) : lg n ≤ k ↔ n ≤ 2 ^ k := by
  induction k generalizing n with
  | zero =>
    rw [lg]
    split
    · simp; omega
    · simp; omega
  | succ k ih =>
    rw [lg]
    split
    · have : 1 ≤ 2 ^ (k + 1) := Nat.one_le_two_pow
      omega
    · rw [Nat.add_le_add_iff_right, ih, Nat.pow_succ]; omega
theorem lg_step (n : Nat) (h : 1 < n) : lg n = lg ((n + 1) / 2) + 1 := by rw [lg, if_neg (by omega)]
theorem lg_small (n : Nat) (h : n ≤ 1) : lg n = 0 := by rw [lg, if_pos h]
set_option maxHeartbeats 400000 in
theorem rbits_any (n : Int) (w : World) (hn : I64 n) :
    Calls Try.prog 24 #[.int .i64 n] w fun r w' => r = .returned (.int .i64 (lg n.toNat : Int)) ∧ w = w' := by
  have h63 : lg n.toNat ≤ 63 := by rw [lg_le_iff]; unfold I64 at hn; omega
  have hn1 : n ≤ 9223372036854775807 := hn.2
  have Hn := Lib.hid hn
  clear hn
  go_enter Try.func24, Try.ntmps24
  go_wp2
  go_loop [0, 3] (fun v i => ∃ (m : Int) (k : Nat), v = .int .i64 m ∧ i = .int .i64 k ∧ lg m.toNat + k = lg n.toNat ∧ m ≤ 9223372036854775807) (fun v _ => (intOf v).toNat)
  case atStart => exact ⟨n, 0, rfl, rfl, by omega, hn1⟩
  case round =>
    obtain ⟨m, k, rfl, rfl, he, hm⟩ := hrel
    have hk : k ≤ 63 := by omega
    have He := Lib.hid he
    clear he
    by_cases h : 1 < m
    · go_wp2
      go_round
      case rel =>
        refine ⟨_, k + 1, rfl, by go_num, ?_, by omega⟩
        have := lg_step m.toNat (by omega)
        rw [show (m / 2 + m % 2).toNat = (m.toNat + 1) / 2 from by omega]
        have := He.out
        omega
      case measure => simp [intOf]; omega
    · go_wp2
      go_ret
      refine ⟨reti ?_, rfl⟩
      have := lg_small m.toNat (by omega)
      have := He.out
      omega
end Go.Proofs.Ytcnejokbldohlaa
