/- Package bits: Num, and the reference's. -/
import Derived.Test.YtaeifbkimagpdaaBb
namespace Go.Proofs.Ytaeifbkimagpdaa
set_option linter.unusedSimpArgs false
set_option linter.unusedVariables false
open Go.ChangeShapes Go.WideShapes Go.ChangeAt Go.RowKit
set_option linter.unusedVariables false
/-- The number of the first i elements. -/
def nb (l : List Bool) : Nat → Nat
  | 0 => 0
  | i + 1 => nb l i + (if l.getD i false = true then 2 ^ i else 0)
theorem nb_lt (l : List Bool) (i : Nat) : nb l i < 2 ^ i := by
  induction i with
  | zero => simp [nb]
  | succ i ih => unfold nb; rw [Nat.pow_succ]; split <;> omega
def numOf (l : List Bool) : Nat := nb l (min l.length 64)
theorem or_pow (x i : Nat) (hx : x < 2 ^ i) (hi : i < 64) : bits BinOp.or .u64 (x : Int) (IntKind.u64.wrap ((2 : Int) ^ i)) = ((x + 2 ^ i : Nat) : Int) := by
  have h64 : (2 : Nat) ^ i ≤ 2 ^ 63 := Nat.pow_le_pow_right (by omega) (by omega)
  have e63 : (2 : Nat) ^ 63 = 9223372036854775808 := by decide
  rw [e63] at h64
  have e : IntKind.u64.wrap ((2 : Int) ^ i) = ((2 ^ i : Nat) : Int) := by
    rw [IntKind.wrap_u64, show ((2 : Int) ^ i) = ((2 ^ i : Nat) : Int) from (Int.natCast_pow 2 i).symm]
    generalize (2 : Nat) ^ i = q at *
    omega
  have h := (bits_nat .u64 64 (by decide) (fun y h0 h1 => by rw [IntKind.wrap_u64]; omega) x (2 ^ i) (by omega) (by omega)).2
  rw [e, h]
  congr 1
  have h2 := Nat.two_pow_add_eq_or_of_lt hx 1
  rw [Nat.mul_one] at h2
  rw [Nat.or_comm, ← h2, Nat.add_comm]
set_option maxHeartbeats 400000 in
theorem num_any (w : World) (B : Nat) (A : Option Addr) (n c : Nat) (l : List Bool) (hn : l.length = n) (hA : RL w B 1 A n (bools l)) (sn : n ≤ 4000000000000) :
    Calls Try.prog 16 #[.slice A n c] w fun e w' => e = .returned (.int .u64 (numOf l : Nat)) ∧ w = w' := by
  have hm : min (max (n : Int) 0) 64 = ((min n 64 : Nat) : Int) := by omega
  have C1 := Lib.hid (fun w => hold_any (n : Int) 64 w (by omega))
  rw [hm] at C1
  have hv : numOf l = nb l (min n 64) := by unfold numOf; rw [hn]
  have hk64 : min n 64 ≤ 64 := by omega
  have hkn : min n 64 ≤ n := by omega
  rw [hv]
  clear hv hm
  generalize min n 64 = k at *
  have Hn := Lib.hid hn
  have HA := Lib.hid hA
  clear hn hA
  go_enter Try.func16, Try.ntmps16
  go_wp2_with (go_at_call 46; refine (C1.out _).mono ?_; rintro r w' ⟨rfl, rfl⟩)
  go_loop [3, 4, 8] (fun v _ i => ∃ j : Nat, j ≤ k ∧ i = .int .i64 j ∧ v = .int .u64 (nb l j : Nat)) (fun _ _ i => (k - intOf i).toNat)
  case atStart => exact ⟨0, by omega, rfl, rfl⟩
  case round =>
    obtain ⟨j, hj, rfl, rfl⟩ := hrel
    by_cases hlt : j < k
    · obtain ⟨b, o, rfl, _, hc⟩ := HA.out.at_ (by omega)
      have hl : j < l.length := by rw [Hn.out]; omega
      have e1 := hc j (by omega)
      rw [bools_get _ _ hl] at e1
      have Hs := Lib.hid (show nb l (j + 1) = nb l j + (if l[j] = true then 2 ^ j else 0) from by simp [nb, hl])
      have Ho := or_pow (nb l j) j (nb_lt l j) (by omega)
      generalize l[j] = x at *
      have ki : (j : Int) < (n : Int) := by omega
      have kk : (j : Int) < (k : Int) := by omega
      have k0 : (0 : Int) ≤ (j : Int) := by omega
      clear hc hl
      cases x
      all_goals
        go_wp2
        go_round
        case rel => exact ⟨j + 1, by omega, by go_num, by rw [Hs.out]; simp⟩
        case measure => simp [intOf]; omega
    · have hjk : j = k := by omega
      subst hjk
      go_wp2
      go_ret
      exact ⟨rfl, rfl⟩
/-- The power that the reference carries along: at 64 it has left the word. -/
def pw (i : Nat) : Int := if i < 64 then ((2 ^ i : Nat) : Int) else 0
theorem pw_succ (i : Nat) (h : i < 64) : IntKind.u64.wrap (2 * pw i) = pw (i + 1) := by
  unfold pw
  rw [if_pos h, IntKind.wrap_u64]
  have e : (2 : Nat) ^ (i + 1) = 2 ^ i * 2 := Nat.pow_succ 2 i
  by_cases h2 : i + 1 < 64
  · rw [if_pos h2]
    have h3 : (2 : Nat) ^ i ≤ 2 ^ 62 := Nat.pow_le_pow_right (by omega) (by omega)
    rw [show (2 : Nat) ^ 62 = 4611686018427387904 from by decide] at h3
    generalize (2 : Nat) ^ i = q at *
    omega
  · rw [if_neg h2]
    obtain rfl : i = 63 := by omega
    decide
theorem nb_add (l : List Bool) (i : Nat) (h : i < 64) : IntKind.u64.wrap ((nb l i : Nat) + pw i) = ((nb l i + 2 ^ i : Nat) : Int) := by
  unfold pw
  rw [if_pos h, IntKind.wrap_u64]
  have h1 := nb_lt l i
  have h3 : (2 : Nat) ^ i ≤ 2 ^ 63 := Nat.pow_le_pow_right (by omega) (by omega)
  rw [show (2 : Nat) ^ 63 = 9223372036854775808 from by decide] at h3
  generalize (2 : Nat) ^ i = q at *
  omega
set_option maxHeartbeats 400000 in
theorem rnum_any (w : World) (B : Nat) (A : Option Addr) (n c : Nat) (l : List Bool) (hn : l.length = n) (hA : RL w B 1 A n (bools l)) (sn : n ≤ 4000000000000) :
    Calls Try.prog 17 #[.slice A n c] w fun e w' => e = .returned (.int .u64 (numOf l : Nat)) ∧ w = w' := by
  have Hv := Lib.hid (show numOf l = nb l (min n 64) from by unfold numOf; rw [hn])
  have Hn := Lib.hid hn
  have HA := Lib.hid hA
  clear hn hA
  go_enter Try.func17, Try.ntmps17
  go_wp2
  go_loop [3, 4, 5] (fun v p i => ∃ j : Nat, j ≤ n ∧ j ≤ 64 ∧ i = .int .i64 j ∧ v = .int .u64 (nb l j : Nat) ∧ p = .int .u64 (pw j)) (fun _ _ i => (n - intOf i).toNat)
  case atStart => exact ⟨0, by omega, by omega, rfl, rfl, rfl⟩
  case round =>
    obtain ⟨j, hj, hj2, rfl, rfl, rfl⟩ := hrel
    by_cases hlt : j < n
    · by_cases h64 : j < 64
      · obtain ⟨b, o, rfl, _, hc⟩ := HA.out.at_ (by omega)
        have hl : j < l.length := by rw [Hn.out]; omega
        have e1 := hc j (by omega)
        rw [bools_get _ _ hl] at e1
        have Hs := Lib.hid (show nb l (j + 1) = nb l j + (if l[j] = true then 2 ^ j else 0) from by simp [nb, hl])
        have Hp := Lib.hid (pw_succ j h64)
        have Ha := Lib.hid (nb_add l j h64)
        generalize l[j] = x at *
        have ki : (j : Int) < (n : Int) := by omega
        have kk : (j : Int) < 64 := by omega
        have k0 : (0 : Int) ≤ (j : Int) := by omega
        clear hc hl
        generalize hpj : pw j = pj at *
        have Hpj := Lib.hid hpj
        clear hpj
        cases x
        all_goals
          go_wp2
          go_round
          case rel => exact ⟨j + 1, by omega, by omega, by go_num, by rw [Hs.out]; first | (rw [Ha.out]; simp) | simp, by rw [Hp.out]⟩
          case measure => simp [intOf]; omega
      · have k64 : (64 : Int) ≤ (j : Int) := by omega
        have Hj := Lib.hid (show min n 64 = j from by omega)
        go_wp2
        go_ret
        exact ⟨reti (by rw [Hv.out, Hj.out]), rfl⟩
    · have Hj := Lib.hid (show min n 64 = j from by omega)
      have kn : (n : Int) ≤ (j : Int) := by omega
      go_wp2
      go_ret
      exact ⟨reti (by rw [Hv.out, Hj.out]), rfl⟩
end Go.Proofs.Ytaeifbkimagpdaa
