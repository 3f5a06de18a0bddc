import Derived.Test.YtdhkkkhnjooioaaHe
import Derived.OwnWalk
namespace Go.Proofs.Ytdhkkkhnjooioaa
set_option linter.unusedSimpArgs false
set_option linter.unusedVariables false
open Go.RowKit
set_option linter.unusedVariables false
theorem nat_xor_one (n : Nat) : n ^^^ 1 = G.flip n := by
  have h1 : (n ^^^ 1) / 2 = n / 2 := by rw [Nat.xor_div_two]; simp
  have h2 : (n ^^^ 1) % 2 = (n % 2 + 1) % 2 := by
    have := Nat.xor_mod_two_eq_one (a := n) (b := 1)
    omega
  unfold G.flip
  split <;> omega
theorem bits_xor_i64_nat (a b : Nat) (ha : a < 4611686018427387904) (hb : b < 4611686018427387904) : bits .xor .i64 a b = ((a ^^^ b : Nat) : Int) := by
  have hp : 2 ^ 62 ≤ 2 ^ 64 := by decide
  have ha' : a % 2 ^ 64 = a := Nat.mod_eq_of_lt (by omega)
  have hb' : b % 2 ^ 64 = b := Nat.mod_eq_of_lt (by omega)
  have hx : a ^^^ b < 4611686018427387904 := Nat.xor_lt_two_pow (n := 62) (by omega) (by omega)
  have e : IntKind.i64.bits = 64 := rfl
  simp only [bits, BitVec.ofInt_natCast, BitVec.toNat_xor, BitVec.toNat_ofNat, e, ha', hb']
  rw [IntKind.wrap_i64]; omega
theorem xor1n (n : Nat) (h : n < 4611686018427387904) : bits .xor .i64 (n : Int) 1 = ((G.flip n : Nat) : Int) := by
  rw [show (1 : Int) = ((1 : Nat) : Int) from rfl, bits_xor_i64_nat _ _ h (by omega), nat_xor_one]
theorem flip_lt {n : Nat} (h : n < 4611686018427387904) : G.flip n < 4611686018427387904 := by unfold G.flip; split <;> omega
theorem flipIf_lt {n : Nat} (h : n < 4611686018427387904) (b : Bool) : G.flipIf n b < 4611686018427387904 := by unfold G.flipIf; split; exact flip_lt h; exact h
section
variable (w : World)
theorem enot_any (n : Nat) (h : n < 4611686018427387904) : Calls Try.prog 14 #[nv n] w fun e w' => e = .returned (nv (G.flip n)) ∧ w = w' := by
  have hx := xor1n n h
  go_enter Try.func14, Try.ntmps14
  go_wp2
  go_ret
  exact ⟨rfl, rfl⟩
theorem eneg_any (n : Nat) : Calls Try.prog 66 #[nv n] w fun e w' => e = .returned (.bool (n % 2 == 1)) ∧ w = w' := by
  by_cases h : n = 0
  · subst h
    go_enter Try.func66, Try.ntmps66
    go_wp2
    go_ret
    exact ⟨rfl, rfl⟩
  · have h0 : (0 : Int) < (n : Int) := by omega
    have h2 : ((n : Int) % 2 == 1) = (n % 2 == 1) := by
      rcases Nat.mod_two_eq_zero_or_one n with h | h <;> (simp [h]; omega)
    go_enter Try.func66, Try.ntmps66
    go_wp2
    go_ret
    exact ⟨rfl, rfl⟩
theorem enode_any (n : Nat) (h : n < 9223372036854775808) : Calls Try.prog 50 #[nv n] w fun e w' => e = .returned (nv (n / 2)) ∧ w = w' := by
  have h0 : max (n : Int) 0 = (n : Int) := by omega
  have h1 : wrap64 ((n : Int) / 2) = ((n / 2 : Nat) : Int) := by unfold wrap64; omega
  go_enter Try.func50, Try.ntmps50
  go_wp2
  go_ret
  exact ⟨congrArg (fun b => Ending.returned (.int .i64 b)) (by omega), rfl⟩
theorem enode_neg (f : Int) (h : f < 0) : Calls Try.prog 50 #[.int .i64 f] w fun e w' => e = .returned (nv 0) ∧ w = w' := by
  have h0 : max f 0 = 0 := by omega
  go_enter Try.func50, Try.ntmps50
  go_wp2
  go_ret
  exact ⟨rfl, rfl⟩
theorem eflip_any (n : Nat) (b : Bool) (h : n < 4611686018427387904) : Calls Try.prog 65 #[nv n, .bool b] w fun e w' => e = .returned (nv (G.flipIf n b)) ∧ w = w' := by
  cases b
  all_goals
    go_enter Try.func65, Try.ntmps65
    go_wp2_with (go_at_call 14; (with_reducible refine Calls.mono (enot_any _ _ h) ?_); rintro e w9 ⟨rfl, rfl⟩)
    go_ret
    exact ⟨rfl, rfl⟩
set_option maxRecDepth 100000 in
theorem eof_any (n : Nat) (b : Bool) (h : n < 4194304) : Calls Try.prog 64 #[nv n, .bool b] w fun e w' => e = .returned (nv (G.edge n b)) ∧ w = w' := by
  have h0 : max (n : Int) 0 = (n : Int) := by omega
  have h1 : 2 * (n : Int) = ((2 * n : Nat) : Int) := by omega
  have hfl := eflip_any w (2 * n) b (by omega)
  unfold G.edge
  generalize 2 * n = m at *
  go_enter Try.func64, Try.ntmps64
  go_wp2_with (go_at_call 65; (try simp only [h1]); (with_reducible refine Calls.mono hfl ?_); rintro e w9 ⟨rfl, rfl⟩)
  go_ret
  exact ⟨rfl, rfl⟩
theorem enorm_any (lo hi : Nat) (hl : lo < 4611686018427387904) (hh : hi < 4611686018427387904) : Calls Try.prog 61 #[nv lo, nv hi] w fun e w' => e = .returned (.tuple #[nv (G.flipIf lo (hi % 2 == 1)), nv (G.flipIf hi (hi % 2 == 1)), .bool (hi % 2 == 1)]) ∧ w = w' := by
  generalize hb : (hi % 2 == 1) = b
  have hneg := eneg_any w hi
  rw [hb] at hneg
  go_enter Try.func61, Try.ntmps61
  go_wp2_with (first | (go_at_call 66; (with_reducible refine Calls.mono hneg ?_); rintro e w9 ⟨rfl, rfl⟩) | (go_at_call 65; first | ((with_reducible refine Calls.mono (eflip_any _ _ _ hl) ?_); rintro e w9 ⟨rfl, rfl⟩) | ((with_reducible refine Calls.mono (eflip_any _ _ _ hh) ?_); rintro e w9 ⟨rfl, rfl⟩)))
  go_ret3
  exact ⟨rfl, rfl⟩
end
end Go.Proofs.Ytdhkkkhnjooioaa
