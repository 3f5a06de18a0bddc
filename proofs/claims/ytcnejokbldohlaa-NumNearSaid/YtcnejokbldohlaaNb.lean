/- Contracts of Mul, Pow2 and Bits of package num and of its reference. -/
import Derived.Test.YtcnejokbldohlaaNa
namespace Go.Proofs.Ytcnejokbldohlaa
open Go.ChangeShapes Go.WideShapes Go.ChangeAt Go.RowKit
set_option linter.unusedVariables false
theorem mul_cases (a b : Int) : (a < 0 ↔ b < 0) ∧ a * b = ((a.natAbs * b.natAbs : Nat) : Int) ∨ ¬ (a < 0 ↔ b < 0) ∧ a * b = -((a.natAbs * b.natAbs : Nat) : Int) := by
  rcases Int.natAbs_eq a with h | h <;> rcases Int.natAbs_eq b with h' | h'
  all_goals
    generalize a.natAbs = x at *
    generalize b.natAbs = y at *
    subst h h'
  · exact Or.inl ⟨by omega, by push_cast; rfl⟩
  · by_cases h : y = 0
    · exact Or.inl ⟨by omega, by subst h; simp⟩
    · exact Or.inr ⟨by omega, by push_cast; rw [Int.mul_neg]⟩
  · by_cases h : x = 0
    · exact Or.inl ⟨by omega, by subst h; simp⟩
    · exact Or.inr ⟨by omega, by push_cast; rw [Int.neg_mul]⟩
  · by_cases h : x = 0
    · subst h
      by_cases h2 : y = 0
      · exact Or.inl ⟨by omega, by subst h2; simp⟩
      · exact Or.inr ⟨by omega, by simp⟩
    · by_cases h2 : y = 0
      · subst h2; exact Or.inr ⟨by omega, by simp⟩
      · exact Or.inl ⟨by omega, by push_cast; rw [Int.neg_mul_neg]⟩
theorem resN_in (n : Int) (h : -9007199254740992 ≤ n ∧ n ≤ 9007199254740992) : resN n = n := by unfold resN; rw [if_pos h]
theorem resB_in (n : Int) (h : -9007199254740992 ≤ n ∧ n ≤ 9007199254740992) : resB n = true := decide_eq_true h
theorem resN_out (n : Int) (h : ¬ (-9007199254740992 ≤ n ∧ n ≤ 9007199254740992)) : resN n = 0 := by unfold resN; rw [if_neg h]
theorem resB_out (n : Int) (h : ¬ (-9007199254740992 ≤ n ∧ n ≤ 9007199254740992)) : resB n = false := decide_eq_false h
theorem mul_yes (a b : Int) (p : Nat) (w : World) (ha : I64 a) (hb : I64 b) (hp : p = a.natAbs * b.natAbs) (h : p ≤ 9007199254740992) :
    Calls Try.prog 53 #[.int .u64 (a.natAbs : Int), .int .u64 (b.natAbs : Int)] w fun e w' => e = .returned (.tuple #[.int .u64 0, .int .u64 (p : Int)]) ∧ w = w' := by
  refine (Try.bits_Mul64 a.natAbs b.natAbs (by unfold I64 at ha; omega) (by unfold I64 at hb; omega) w).mono ?_
  rintro e w' ⟨rfl, rfl⟩
  rw [← hp, show p / 18446744073709551616 = 0 by omega, show p % 18446744073709551616 = p by omega]
  exact ⟨rfl, rfl⟩
theorem mul_no (a b : Int) (p : Nat) (w : World) (ha : I64 a) (hb : I64 b) (hp : p = a.natAbs * b.natAbs) (h : 9007199254740992 < p) :
    ∃ x y : Int, ((x != 0) = true ∨ ((x != 0) = false ∧ 9007199254740992 < y)) ∧ ∀ w, Calls Try.prog 53 #[.int .u64 (a.natAbs : Int), .int .u64 (b.natAbs : Int)] w fun e w' => e = .returned (.tuple #[.int .u64 x, .int .u64 y]) ∧ w = w' := by
  refine ⟨((p / 18446744073709551616 : Nat) : Int), ((p % 18446744073709551616 : Nat) : Int), ?_, fun w => ?_⟩
  · by_cases h1 : p / 18446744073709551616 = 0
    · right; rw [h1]; exact ⟨rfl, by omega⟩
    · left; rw [bne_iff_ne]; omega
  · refine (Try.bits_Mul64 a.natAbs b.natAbs (by unfold I64 at ha; omega) (by unfold I64 at hb; omega) w).mono ?_
    rintro e w' ⟨rfl, rfl⟩
    rw [← hp]
    exact ⟨rfl, rfl⟩
set_option maxHeartbeats 800000 in
theorem mul_any (a b : Int) (w : World) (ha : I64 a) (hb : I64 b) :
    Calls Try.prog 37 #[.int .i64 a, .int .i64 b] w fun r w' => r = .returned (.tuple #[.int .i64 (resN (a * b)), .bool (resB (a * b))]) ∧ w = w' := by
  have hm := mul_cases a b
  have hs := fun w => size_any a w ha
  have ht := fun w => size_any b w hb
  obtain ⟨p, hp⟩ : ∃ p, p = a.natAbs * b.natAbs := ⟨_, rfl⟩
  rw [← hp] at hm
  have Hs := Lib.hid hs
  have Ht := Lib.hid ht
  clear hs ht
  by_cases h : p ≤ 9007199254740992
  · have hq := fun w => mul_yes a b p w ha hb hp h
    have Hq := Lib.hid hq
    have hr : resN (a * b) = a * b ∧ resB (a * b) = true := by
      rcases hm with ⟨_, hm⟩ | ⟨_, hm⟩ <;> exact ⟨resN_in _ (by omega), resB_in _ (by omega)⟩
    rw [hr.1, hr.2]
    clear hr hq hp
    by_cases h1 : a < 0 <;> by_cases h2 : b < 0
    all_goals
      first
        | (have hv : a * b = (p : Int) := by rcases hm with ⟨_, hm⟩ | ⟨h3, hm⟩ <;> first | exact hm | exact absurd (by omega) h3)
        | (have hv : a * b = -(p : Int) := by rcases hm with ⟨h3, hm⟩ | ⟨_, hm⟩ <;> first | exact hm | exact absurd h3 (by omega))
      have Hv := Lib.hid hv
      clear hv hm
      first | have d1 := decide_eq_true h1 | have d1 := decide_eq_false h1
      first | have d2 := decide_eq_true h2 | have d2 := decide_eq_false h2
      go_enter Try.func37, Try.ntmps37
      go_wp2_with fail
      refine (Hs.out _).mono ?_
      rintro r w' ⟨rfl, rfl⟩
      go_wp2_with fail
      refine (Ht.out _).mono ?_
      rintro r w' ⟨rfl, rfl⟩
      go_wp2_with (go_at_call 53; refine (Hq.out _).mono ?_; rintro r w' ⟨rfl, rfl⟩)
      all_goals first
        | (go_ret2; exact ⟨retib Hv.out rfl, rfl⟩)
        | (exfalso; go_light; simp only [Bool.not_eq_false', decide_eq_true_eq] at *; omega)
        | (exfalso; have hh := ‹(!decide (a < 0) == decide (b < 0)) = true›; rw [decide_eq_false (show ¬ a < 0 by omega), decide_eq_false (show ¬ b < 0 by omega)] at hh; cases hh)
  · obtain ⟨x, y, hxy, hq⟩ := mul_no a b p w ha hb hp (by omega)
    have Hq := Lib.hid hq
    have hr : resN (a * b) = 0 ∧ resB (a * b) = false := by
      rcases hm with ⟨_, hm⟩ | ⟨_, hm⟩ <;> exact ⟨resN_out _ (by omega), resB_out _ (by omega)⟩
    rw [hr.1, hr.2]
    clear hr hq hp hm h
    rcases hxy with h1 | ⟨h1, h2⟩
    all_goals
      go_enter Try.func37, Try.ntmps37
      go_wp2_with fail
      refine (Hs.out _).mono ?_
      rintro r w' ⟨rfl, rfl⟩
      go_wp2_with fail
      refine (Ht.out _).mono ?_
      rintro r w' ⟨rfl, rfl⟩
      go_wp2_with (go_at_call 53; refine (Hq.out _).mono ?_; rintro r w' ⟨rfl, rfl⟩)
      go_ret2
      exact ⟨rfl, rfl⟩
theorem rmul_math (x y p : Nat) (hp : p = x * y) (hy : 0 < y) : (9007199254740992 / y < x) ↔ 9007199254740992 < p := by
  rw [hp, Nat.div_lt_iff_lt_mul hy]
set_option maxHeartbeats 800000 in
theorem rmul_any (a b : Int) (w : World) (ha : I64 a) (hb : I64 b) :
    Calls Try.prog 38 #[.int .i64 a, .int .i64 b] w fun r w' => r = .returned (.tuple #[.int .i64 (resN (a * b)), .bool (resB (a * b))]) ∧ w = w' := by
  by_cases za : a = 0
  · subst za
    rw [Int.zero_mul]
    go_enter Try.func38, Try.ntmps38
    go_wp2
    go_ret2
    exact ⟨rfl, rfl⟩
  by_cases zb : b = 0
  · subst zb
    rw [Int.mul_zero]
    have za' : (a == 0) = false := by rw [beq_eq_false_iff_ne]; exact za
    go_enter Try.func38, Try.ntmps38
    go_wp2
    go_ret2
    exact ⟨rfl, rfl⟩
  have za' : (a == 0) = false := by rw [beq_eq_false_iff_ne]; exact za
  have zb' : (b == 0) = false := by rw [beq_eq_false_iff_ne]; exact zb
  have hm := mul_cases a b
  have hs := fun w => rsize_any a w ha
  have ht := fun w => rsize_any b w hb
  obtain ⟨p, hp⟩ : ∃ p, p = a.natAbs * b.natAbs := ⟨_, rfl⟩
  rw [← hp] at hm
  have y0 : 0 < b.natAbs := by omega
  have hd := rmul_math a.natAbs b.natAbs p hp y0
  have hpi : (a.natAbs : Int) * (b.natAbs : Int) = (p : Int) := by rw [hp]; push_cast; rfl
  have xb : (a.natAbs : Int) ≤ 9223372036854775808 := by unfold I64 at ha; omega
  have yb : (b.natAbs : Int) ≤ 9223372036854775808 := by unfold I64 at hb; omega
  have yp : 0 < (b.natAbs : Int) := by omega
  have Hs := Lib.hid hs
  have Ht := Lib.hid ht
  clear hs ht za zb ha hb hp
  generalize a.natAbs = x at *
  generalize b.natAbs = y at *
  by_cases h : p ≤ 9007199254740992
  · have hr : resN (a * b) = a * b ∧ resB (a * b) = true := by
      rcases hm with ⟨_, hm⟩ | ⟨_, hm⟩ <;> exact ⟨resN_in _ (by omega), resB_in _ (by omega)⟩
    rw [hr.1, hr.2]
    have hdi : (x : Int) ≤ 9007199254740992 / (y : Int) := by
      have : ¬ (9007199254740992 / y < x) := by rw [hd]; omega
      have e : ((9007199254740992 / y : Nat) : Int) = 9007199254740992 / (y : Int) := Int.natCast_ediv _ _
      omega
    clear hr hd
    by_cases h1 : a < 0 <;> by_cases h2 : b < 0
    all_goals
      first
        | (have hv : a * b = (p : Int) := by rcases hm with ⟨_, hm⟩ | ⟨h3, hm⟩ <;> first | exact hm | exact absurd (by omega) h3)
        | (have hv : a * b = -(p : Int) := by rcases hm with ⟨h3, hm⟩ | ⟨_, hm⟩ <;> first | exact hm | exact absurd h3 (by omega))
      have Hv := Lib.hid hv
      clear hv hm
      first | have d1 := decide_eq_true h1 | have d1 := decide_eq_false h1
      first | have d2 := decide_eq_true h2 | have d2 := decide_eq_false h2
      go_enter Try.func38, Try.ntmps38
      go_wp2_with fail
      refine (Hs.out _).mono ?_
      rintro r w' ⟨rfl, rfl⟩
      go_wp2_with fail
      refine (Ht.out _).mono ?_
      rintro r w' ⟨rfl, rfl⟩
      go_wp2_with fail
      refine (Hs.out _).mono ?_
      rintro r w' ⟨rfl, rfl⟩
      go_wp2_with fail
      refine (Ht.out _).mono ?_
      rintro r w' ⟨rfl, rfl⟩
      go_wp2_with fail
      all_goals first
        | (go_ret2; exact ⟨retib Hv.out rfl, rfl⟩)
        | (exfalso; go_light; simp only [Bool.not_eq_false', decide_eq_true_eq] at *; omega)
        | (exfalso; have hh := ‹(!decide (a < 0) == decide (b < 0)) = true›; rw [decide_eq_false (show ¬ a < 0 by omega), decide_eq_false (show ¬ b < 0 by omega)] at hh; cases hh)
  · have hr : resN (a * b) = 0 ∧ resB (a * b) = false := by
      rcases hm with ⟨_, hm⟩ | ⟨_, hm⟩ <;> exact ⟨resN_out _ (by omega), resB_out _ (by omega)⟩
    rw [hr.1, hr.2]
    have hdi : 9007199254740992 / (y : Int) < (x : Int) := by
      have h' : 9007199254740992 / y < x := by rw [hd]; omega
      have e : ((9007199254740992 / y : Nat) : Int) = 9007199254740992 / (y : Int) := Int.natCast_ediv _ _
      omega
    clear hr hd hm
    go_enter Try.func38, Try.ntmps38
    go_wp2_with fail
    refine (Hs.out _).mono ?_
    rintro r w' ⟨rfl, rfl⟩
    go_wp2_with fail
    refine (Ht.out _).mono ?_
    rintro r w' ⟨rfl, rfl⟩
    go_wp2_with fail
    go_ret2
    exact ⟨rfl, rfl⟩
def p2N (k : Int) : Int := if 0 ≤ k ∧ k ≤ 53 then ((2 ^ k.toNat : Nat) : Int) else 0
def p2B (k : Int) : Bool := decide (0 ≤ k ∧ k ≤ 53)
theorem pow_le53 (k : Nat) (h : k ≤ 53) : 2 ^ k ≤ 9007199254740992 := Nat.pow_le_pow_right (n := 2) (by omega) h
set_option maxHeartbeats 800000 in
theorem pow2_any (k : Int) (w : World) :
    Calls Try.prog 39 #[.int .i64 k] w fun r w' => r = .returned (.tuple #[.int .i64 (p2N k), .bool (p2B k)]) ∧ w = w' := by
  by_cases h : 0 ≤ k ∧ k ≤ 53
  · obtain ⟨h0, h1⟩ := h
    have hr : p2N k = ((2 ^ k.toNat : Nat) : Int) ∧ p2B k = true := ⟨if_pos ⟨h0, h1⟩, decide_eq_true ⟨h0, h1⟩⟩
    rw [hr.1, hr.2]
    clear hr
    go_enter Try.func39, Try.ntmps39
    go_wp2
    go_loop [2, 11] (fun n i => ∃ j : Nat, (j : Int) ≤ k ∧ i = .int .i64 j ∧ n = .int .i64 ((2 ^ j : Nat) : Int)) (fun _ i => (k - intOf i).toNat)
    case atStart => exact ⟨0, by omega, rfl, rfl⟩
    case round =>
      obtain ⟨j, hj, rfl, rfl⟩ := hrel
      have hp := pow_le53 j (by omega)
      have hp2 : 2 ^ (j + 1) = 2 ^ j * 2 := Nat.pow_succ 2 j
      have Hp := Lib.hid hp2
      clear hp2
      by_cases hlt : (j : Int) < k
      · generalize hq : 2 ^ j = q at *
        clear hq
        go_wp2
        go_round
        case rel => exact ⟨j + 1, by omega, by go_num, by rw [Hp.out]; push_cast; rfl⟩
        case measure => simp [intOf]; omega
      · obtain rfl : k = (j : Int) := by omega
        have Hj := Lib.hid (show ((2 ^ j : Nat) : Int) = ((2 ^ (j : Int).toNat : Nat) : Int) from by rw [Int.toNat_natCast])
        go_wp2
        go_ret2
        exact ⟨retib Hj.out.symm rfl, rfl⟩
  · have hr : p2N k = 0 ∧ p2B k = false := ⟨if_neg h, decide_eq_false h⟩
    rw [hr.1, hr.2]
    clear hr
    by_cases h0 : k < 0
    · go_enter Try.func39, Try.ntmps39
      go_wp2
      go_ret2
      exact ⟨rfl, rfl⟩
    · have h1 : 53 < k := by omega
      clear h
      go_enter Try.func39, Try.ntmps39
      go_wp2
      go_ret2
      exact ⟨rfl, rfl⟩
set_option maxHeartbeats 800000 in
theorem rpow2_any (k : Int) (w : World) :
    Calls Try.prog 40 #[.int .i64 k] w fun r w' => r = .returned (.tuple #[.int .i64 (p2N k), .bool (p2B k)]) ∧ w = w' := by
  by_cases h : 0 ≤ k ∧ k ≤ 53
  · obtain ⟨h0, h1⟩ := h
    have hr : p2N k = ((2 ^ k.toNat : Nat) : Int) ∧ p2B k = true := ⟨if_pos ⟨h0, h1⟩, decide_eq_true ⟨h0, h1⟩⟩
    rw [hr.1, hr.2]
    clear hr
    go_enter Try.func40, Try.ntmps40
    go_wp2
    go_loop [4, 5] (fun n i => ∃ j : Nat, (j : Int) ≤ k ∧ i = .int .i64 j ∧ n = .int .i64 ((2 ^ j : Nat) : Int)) (fun _ i => (k - intOf i).toNat)
    case atStart => exact ⟨0, by omega, rfl, rfl⟩
    case round =>
      obtain ⟨j, hj, rfl, rfl⟩ := hrel
      have hp := pow_le53 j (by omega)
      have hp2 : 2 ^ (j + 1) = 2 * 2 ^ j := by rw [Nat.pow_succ]; omega
      have Hp := Lib.hid hp2
      clear hp2
      by_cases hlt : (j : Int) < k
      · generalize hq : 2 ^ j = q at *
        clear hq
        go_wp2
        go_round
        case rel => exact ⟨j + 1, by omega, by go_num, by rw [Hp.out]; push_cast; rfl⟩
        case measure => simp [intOf]; omega
      · obtain rfl : k = (j : Int) := by omega
        have Hj := Lib.hid (show ((2 ^ j : Nat) : Int) = ((2 ^ (j : Int).toNat : Nat) : Int) from by rw [Int.toNat_natCast])
        go_wp2
        go_ret2
        exact ⟨retib Hj.out.symm rfl, rfl⟩
  · have hr : p2N k = 0 ∧ p2B k = false := ⟨if_neg h, decide_eq_false h⟩
    rw [hr.1, hr.2]
    clear hr
    by_cases h0 : k < 0
    · go_enter Try.func40, Try.ntmps40
      go_wp2
      go_ret2
      exact ⟨rfl, rfl⟩
    · have h1 : 53 < k := by omega
      clear h
      go_enter Try.func40, Try.ntmps40
      go_wp2
      go_ret2
      exact ⟨rfl, rfl⟩
theorem wrap_pow (k : Nat) (h : k < 63) : wrap64 ((2 : Int) ^ k) = ((2 ^ k : Nat) : Int) := by
  have h1 : (2 : Nat) ^ k ≤ 2 ^ 62 := Nat.pow_le_pow_right (by omega) (by omega)
  have h0 : (2 : Nat) ^ 62 = 4611686018427387904 := by decide
  rw [h0] at h1
  have h2 : (2 : Int) ^ k = ((2 ^ k : Nat) : Int) := (Int.natCast_pow 2 k).symm
  rw [h2]
  generalize 2 ^ k = q at *
  unfold wrap64
  omega
set_option maxHeartbeats 400000 in
theorem bits_any (n : Int) (w : World) (hn : I64 n) :
    Calls Try.prog 23 #[.int .i64 n] w fun r w' => r = .returned (.int .i64 (lg n.toNat : Int)) ∧ w = w' := by
  have h63 : lg n.toNat ≤ 63 := by rw [lg_le_iff]; unfold I64 at hn; omega
  have Hn := Lib.hid hn
  clear hn
  go_enter Try.func23, Try.ntmps23
  go_wp2
  go_loop [3, 4] (fun _ i => ∃ k : Nat, k ≤ 63 ∧ i = .int .i64 k ∧ k ≤ lg n.toNat) (fun _ i => (63 - intOf i).toNat)
  case atStart => exact ⟨0, by omega, rfl, by omega⟩
  case round =>
    obtain ⟨k, hk, rfl, hle⟩ := hrel
    have H0 := Lib.hid hle
    clear hle
    by_cases hlt : k < 63
    · have hw := wrap_pow k hlt
      have Hw := Lib.hid hw
      clear hw
      by_cases hc : n ≤ wrap64 ((2 : Int) ^ k)
      · go_wp2
        go_ret
        refine ⟨reti ?_, rfl⟩
        have h1 : n.toNat ≤ 2 ^ k := by have := Hw.out; generalize (2 : Nat) ^ k = q at *; omega
        rw [← lg_le_iff] at h1
        have := H0.out
        omega
      · go_wp2
        go_round
        case rel =>
          refine ⟨k + 1, by omega, by go_num, ?_⟩
          have h1 : ¬ n.toNat ≤ 2 ^ k := by
            have := Hw.out
            generalize (2 : Nat) ^ k = q at *
            omega
          rw [← lg_le_iff] at h1
          omega
        case measure => simp [intOf]; omega
    · obtain rfl : k = 63 := by omega
      go_wp2
      go_ret
      refine ⟨reti ?_, rfl⟩
      have := H0.out
      omega
end Go.Proofs.Ytcnejokbldohlaa
