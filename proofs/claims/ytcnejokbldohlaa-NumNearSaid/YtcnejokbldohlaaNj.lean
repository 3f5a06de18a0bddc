/- The walk of the chapter's examples. -/
import Derived.Test.YtcnejokbldohlaaNi
import Derived.Test.YtcnejokbldohlaaNb
namespace Go.Proofs.Ytcnejokbldohlaa
open Go.ChangeShapes Go.WideShapes Go.ChangeAt Go.RowKit
set_option linter.unusedVariables false
theorem m12 : lst ⟨#[45, 49, 50]⟩ = [45, 49, 50] := rfl
theorem z12 : lst ⟨#[48, 49, 50]⟩ = [48, 49, 50] := rfl
theorem textm12 : textS (-12) = ⟨#[45, 49, 50]⟩ := by
  apply lst_inj
  rw [lst_textS, m12]
  unfold txt
  rw [show (-12 : Int).natAbs = 12 from rfl, dg_big (n := 12) (by omega), dg_small (n := 12 / 10) (by omega)]
  rfl
theorem lives_any (w : World) : Calls Try.prog 15 #[] w fun r w' => r = .returned (.bool true) ∧ Below w.heap.size w w' := by
  have c1 : ∀ w, Calls Try.prog 35 #[.int .i64 9007199254740991, .int .i64 1] w fun r w' => r = .returned (.tuple #[.int .i64 9007199254740992, .bool true]) ∧ w = w' := fun w => by
    have h := add_any 9007199254740991 1 w (by unfold I64; omega) (by unfold I64; omega)
    rwa [resN_in _ (by omega), resB_in _ (by omega)] at h
  have c2 : ∀ w, Calls Try.prog 35 #[.int .i64 9007199254740992, .int .i64 1] w fun r w' => r = .returned (.tuple #[.int .i64 0, .bool false]) ∧ w = w' := fun w => by
    have h := add_any 9007199254740992 1 w (by unfold I64; omega) (by unfold I64; omega)
    rwa [resN_out _ (by omega), resB_out _ (by omega)] at h
  have c3 : ∀ w, Calls Try.prog 16 #[.string ⟨#[45, 49, 50]⟩, .int .i64 (-12), .int .i64 0] w fun r w' => r = .returned (.tuple #[.int .i64 (-12), .int .i64 0]) ∧ w = w' := fun w => by
    have h := parse_any ⟨#[45, 49, 50]⟩ (-12) 0 w (by decide) (by unfold I64; omega) (by unfold I64; omega)
    rw [m12] at h
    exact h
  have c4 : ∀ w, Calls Try.prog 16 #[.string ⟨#[48, 49, 50]⟩, .int .i64 0, .int .i64 99] w fun r w' => r = .returned (.tuple #[.int .i64 0, .int .i64 3]) ∧ w = w' := fun w => by
    have h := parse_any ⟨#[48, 49, 50]⟩ 0 99 w (by decide) (by unfold I64; omega) (by unfold I64; omega)
    rw [z12] at h
    exact h
  have c5 : ∀ w, Calls Try.prog 23 #[.int .i64 5] w fun r w' => r = .returned (.int .i64 3) ∧ w = w' := fun w => by
    have h := bits_any 5 w (by unfold I64; omega)
    rwa [show lg (5 : Int).toNat = 3 from by rw [show (5 : Int).toNat = 5 from rfl, lg_step 5 (by omega), lg_step ((5 + 1) / 2) (by omega), lg_step (((5 + 1) / 2 + 1) / 2) (by omega), lg_small _ (by omega)]] at h
  have c6 : ∀ w, Calls Try.prog 18 #[.int .i64 (-12)] w fun r w' => r = .returned (.string ⟨#[45, 49, 50]⟩) ∧ Below w.heap.size w w' := fun w => by
    have h := text_any (-12) w (by unfold I64; omega)
    rwa [textm12] at h
  have C1 := Lib.hid c1
  have C2 := Lib.hid c2
  have C3 := Lib.hid c3
  have C4 := Lib.hid c4
  have C5 := Lib.hid c5
  have C6 := Lib.hid c6
  clear c1 c2 c3 c4 c5 c6
  go_enter Try.func15, Try.ntmps15
  go_wp2_with fail
  refine (C1.out _).mono ?_
  rintro r w' ⟨rfl, rfl⟩
  go_wp2_with fail
  refine (C2.out _).mono ?_
  rintro r w' ⟨rfl, rfl⟩
  go_wp2_with fail
  refine (C3.out _).mono ?_
  rintro r w' ⟨rfl, rfl⟩
  go_wp2_with fail
  refine (C4.out _).mono ?_
  rintro r w' ⟨rfl, rfl⟩
  go_wp2_with (first | (go_at_call 23; refine (C5.out _).mono ?_; rintro r w' ⟨rfl, rfl⟩) | (go_at_call 18; refine (C6.out _).mono ?_; rintro r w' ⟨rfl, hb1⟩))
  go_ret
  exact ⟨rfl, hb1⟩
end Go.Proofs.Ytcnejokbldohlaa
