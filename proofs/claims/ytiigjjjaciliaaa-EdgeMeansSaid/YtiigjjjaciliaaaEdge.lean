/- The contracts of the functions of package edge and of its reference, on edges from 0 to 2^32 + 4. -/
import Derived.Test.YtiigjjjaciliaaaPost
import Derived.WalkKit
import Derived.ProofKit
import Derived.OpenShut
import Derived.Outline
import Derived.Deep.Light
import Derived.Lib.Hide
namespace Go.Proofs.Ytiigjjjaciliaaa
open Go.ChangeShapes Go.WideShapes Go.ChangeAt Go.RowKit
set_option linter.unusedVariables false

def nt (e : Int) : Int := if e % 2 = 0 then e + 1 else e - 1
def ng (e : Int) : Bool := e % 2 == 1

theorem nat_xor_one (n : Nat) : n ^^^ 1 = if n % 2 = 0 then n + 1 else n - 1 := by
  have h1 : (n ^^^ 1) / 2 = n / 2 := by
    rw [Nat.xor_div_two]; simp
  have h2 : (n ^^^ 1) % 2 = (n % 2 + 1) % 2 := by
    have := Nat.xor_mod_two_eq_one (a := n) (b := 1)
    omega
  split <;> omega

theorem bits_xor_i64_nat (a b : Nat) (ha : a < 4611686018427387904) (hb : b < 4611686018427387904) :
    bits .xor .i64 a b = ((a ^^^ b : Nat) : Int) := by
  have hp : 2 ^ 62 ≤ 2 ^ 64 := by decide
  have ha' : a % 2 ^ 64 = a := Nat.mod_eq_of_lt (by omega)
  have hb' : b % 2 ^ 64 = b := Nat.mod_eq_of_lt (by omega)
  have hx : a ^^^ b < 4611686018427387904 := Nat.xor_lt_two_pow (n := 62) (by omega) (by omega)
  have e : IntKind.i64.bits = 64 := rfl
  simp only [bits, BitVec.ofInt_natCast, BitVec.toNat_xor, BitVec.toNat_ofNat, e, ha', hb']
  rw [IntKind.wrap_i64]; omega

theorem xor1 (e : Int) (h0 : 0 ≤ e) (h1 : e ≤ 4294967300) : bits .xor .i64 e 1 = nt e := by
  obtain ⟨n, rfl⟩ := Int.eq_ofNat_of_zero_le h0
  rw [show (1 : Int) = ((1 : Nat) : Int) from rfl, bits_xor_i64_nat _ _ (by omega) (by omega), nat_xor_one]
  unfold nt
  split <;> split <;> omega

theorem nt_bd (e : Int) (h0 : 0 ≤ e) (h1 : e ≤ 4294967296) : 0 ≤ nt e ∧ nt e ≤ 4294967297 := by
  unfold nt; split <;> omega

theorem not_any (e : Int) (w : World) (h0 : 0 ≤ e) (h1 : e ≤ 4294967300) :
    Calls Try.prog 16 #[.int .i64 e] w fun r w' => r = .returned (.int .i64 (nt e)) ∧ w = w' := by
  have hx := xor1 e h0 h1
  go_enter Try.func16, Try.ntmps16
  go_wp2
  go_ret
  exact ⟨rfl, rfl⟩
theorem neg_any (e : Int) (w : World) (h0 : 0 ≤ e) :
    Calls Try.prog 17 #[.int .i64 e] w fun r w' => r = .returned (.bool (ng e)) ∧ w = w' := by
  by_cases h : e ≤ 0
  · obtain rfl : e = 0 := by omega
    go_enter Try.func17, Try.ntmps17
    go_wp2
    go_ret
    exact ⟨rfl, rfl⟩
  · have h' : 0 < e := by omega
    go_enter Try.func17, Try.ntmps17
    go_wp2
    go_ret
    exact ⟨rfl, rfl⟩
theorem rneg_any (e : Int) (w : World) (h0 : 0 ≤ e) :
    Calls Try.prog 18 #[.int .i64 e] w fun r w' => r = .returned (.bool (ng e)) ∧ w = w' := by
  go_enter Try.func18, Try.ntmps18
  go_wp2
  go_ret
  exact ⟨rfl, rfl⟩
theorem flip_yes (e : Int) (w : World) (h0 : 0 ≤ e) (h1 : e ≤ 4294967300) :
    Calls Try.prog 24 #[.int .i64 e, .bool true] w fun r w' => r = .returned (.int .i64 (nt e)) ∧ w = w' := by
  go_enter Try.func24, Try.ntmps24
  go_wp2_with (go_at_call 16; refine (not_any _ _ (by omega) (by omega)).mono ?_; rintro r w' ⟨rfl, rfl⟩)
  go_ret
  exact ⟨rfl, rfl⟩
theorem flip_no (e : Int) (w : World) :
    Calls Try.prog 24 #[.int .i64 e, .bool false] w fun r w' => r = .returned (.int .i64 e) ∧ w = w' := by
  go_enter Try.func24, Try.ntmps24
  go_wp2
  go_ret
  exact ⟨rfl, rfl⟩
def fl (e : Int) (b : Bool) : Int := if b then nt e else e
theorem flip_any (e : Int) (b : Bool) (w : World) (h0 : 0 ≤ e) (h1 : e ≤ 4294967300) :
    Calls Try.prog 24 #[.int .i64 e, .bool b] w fun r w' => r = .returned (.int .i64 (fl e b)) ∧ w = w' := by
  cases b
  · exact flip_no e w
  · exact flip_yes e w h0 h1
theorem node_any (e : Int) (w : World) (h0 : 0 ≤ e) (h1 : e ≤ 4294967300) :
    Calls Try.prog 21 #[.int .i64 e] w fun r w' => r = .returned (.int .i64 (e / 2)) ∧ w = w' := by
  go_enter Try.func21, Try.ntmps21
  go_wp2
  go_ret
  exact ⟨rfl, rfl⟩
theorem rnode_any (e : Int) (w : World) (h0 : 0 ≤ e) (h1 : e ≤ 4294967300) :
    Calls Try.prog 22 #[.int .i64 e] w fun r w' => r = .returned (.int .i64 (e / 2)) ∧ w = w' := by
  go_enter Try.func22, Try.ntmps22
  go_wp2
  go_ret
  exact ⟨rfl, rfl⟩
theorem rof_yes (e : Int) (w : World) (h0 : 0 ≤ e) (h1 : e ≤ 4294967300) :
    Calls Try.prog 20 #[.int .i64 e, .bool true] w fun r w' => r = .returned (.int .i64 (2 * e + 1)) ∧ w = w' := by
  go_enter Try.func20, Try.ntmps20
  go_wp2
  go_ret
  exact ⟨rfl, rfl⟩
theorem rof_no (e : Int) (w : World) (h0 : 0 ≤ e) (h1 : e ≤ 4294967300) :
    Calls Try.prog 20 #[.int .i64 e, .bool false] w fun r w' => r = .returned (.int .i64 (2 * e)) ∧ w = w' := by
  go_enter Try.func20, Try.ntmps20
  go_wp2
  go_ret
  exact ⟨rfl, rfl⟩
theorem rnot_any (e : Int) (w : World) (h0 : 0 ≤ e) (h1 : e ≤ 4294967300) :
    Calls Try.prog 23 #[.int .i64 e] w fun r w' => r = .returned (.int .i64 (nt e)) ∧ w = w' := by
  by_cases h : e % 2 = 0
  · have hn : ng e = false := by simp [ng, h]
    have he : nt e = 2 * (e / 2) + 1 := by unfold nt; rw [if_pos h]; omega
    have He := Lib.hid he; clear he h
    go_enter Try.func23, Try.ntmps23
    go_wp2_with (first | (go_at_call 22; refine (rnode_any _ _ (by omega) (by omega)).mono ?_; rintro r w' ⟨rfl, rfl⟩) | (go_at_call 18; refine (rneg_any _ _ (by omega)).mono ?_; rintro r w' ⟨rfl, rfl⟩) | (go_at_call 20; refine (rof_yes _ _ (by omega) (by omega)).mono ?_; rintro r w' ⟨rfl, rfl⟩))
    go_ret
    exact ⟨by rw [He.out]; rfl, rfl⟩
  · have hn : ng e = true := by simp only [ng, beq_iff_eq]; omega
    have he : nt e = 2 * (e / 2) := by unfold nt; rw [if_neg h]; omega
    have He := Lib.hid he; clear he h
    go_enter Try.func23, Try.ntmps23
    go_wp2_with (first | (go_at_call 22; refine (rnode_any _ _ (by omega) (by omega)).mono ?_; rintro r w' ⟨rfl, rfl⟩) | (go_at_call 18; refine (rneg_any _ _ (by omega)).mono ?_; rintro r w' ⟨rfl, rfl⟩) | (go_at_call 20; refine (rof_no _ _ (by omega) (by omega)).mono ?_; rintro r w' ⟨rfl, rfl⟩))
    go_ret
    exact ⟨by rw [He.out]; rfl, rfl⟩
theorem ret2 {a b : Value} {x : Array Value} (h : x = #[a, b]) : Ending.returned (.tuple #[a, b]) = .returned (.tuple x) := by rw [h]
def meetV (f g : Int) : Array Value := if f = 1 ∨ g = 1 ∨ f = nt g then #[.int .i64 1, .bool true] else if f = 0 ∨ f = g then #[.int .i64 g, .bool true] else if g = 0 then #[.int .i64 f, .bool true] else #[.int .i64 0, .bool false]
theorem meet_any (f g : Int) (w : World) (f0 : 0 ≤ f) (f1 : f ≤ 4294967300) (g0 : 0 ≤ g) (g1 : g ≤ 4294967300) :
    Calls Try.prog 11 #[.int .i64 f, .int .i64 g] w fun r w' => r = .returned (.tuple (meetV f g)) ∧ w = w' := by
  go_enter Try.func11, Try.ntmps11
  go_wp2_with (go_at_call 16; refine (not_any _ _ (by omega) (by omega)).mono ?_; rintro r w' ⟨rfl, rfl⟩)
  all_goals go_ret2
  all_goals go_light
  all_goals refine ⟨ret2 (a := .int .i64 _) (b := .bool _) ?_, rfl⟩
  all_goals grind [meetV]
end Go.Proofs.Ytiigjjjaciliaaa
