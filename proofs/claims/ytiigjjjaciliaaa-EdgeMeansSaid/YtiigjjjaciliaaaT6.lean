import Derived.Test.YtiigjjjaciliaaaT5
import Derived.Deep.QuietTactic
import Derived.BigQuiet
namespace Go.Proofs.Ytiigjjjaciliaaa
open Go.ChangeShapes Go.WideShapes Go.ChangeAt Go.RowKit
set_option linter.unusedVariables false
theorem beq_of_bne {a b c : Bool} (h : (a != b) = c) : (a == b) = !c := by rw [← h]; cases a <;> cases b <;> rfl
set_option maxRecDepth 100000 in
set_option maxHeartbeats 2000000 in
theorem means_walk (x0 x1 x2 : Int) (p0 : 0 ≤ x0) (q0 : x0 ≤ 255) (p1 : 0 ≤ x1) (q1 : x1 ≤ 255) (p2 : 0 ≤ x2) (q2 : x2 ≤ 255) (nd : Nat) (hn : nd < 18446744073709551616) (w : World) :
    Calls Try.prog 5 #[.agg #[.int .u8 x0, .int .u8 x1, .int .u8 x2], .int .u64 (nd : Int)] w fun e w' => e = .returned (.bool true) ∧ Below w.heap.size w w' := by
  go_enter Try.func5, Try.ntmps5
  go_upto_region 1 with fail
  go_cut [5, 6, 7] (fun s5 s6 s7 wx => ∃ f g h : Int, 0 ≤ f ∧ f ≤ 41 ∧ 0 ≤ g ∧ g ≤ 41 ∧ 0 ≤ h ∧ h ≤ 41 ∧ s5 = .int .i64 f ∧ s6 = .int .i64 g ∧ s7 = .int .i64 h ∧ Below w.heap.size w wx)
  case first =>
    go_quiet (fail)
    go_wp2_with fail
    go_meet
    go_light
    exact ⟨_, _, _, by omega, by omega, by omega, by omega, by omega, by omega, rfl, rfl, rfl, ((Below.refl _ _).alloc (Nat.le_refl _) _).trans ⟨rfl, rfl, rfl, Nat.le_refl _, fun _ _ => rfl⟩⟩
  case rest =>
    obtain ⟨f, g, h, f0, f1, g0, g1, h0, h1, rfl, rfl, rfl, hb⟩ := hcut
    clear p0 q0 p1 q1 p2 q2
    have hx := ite_means nd f g h f0 f1 g0 g1 h0 h1
    obtain ⟨l, k, n, e1, l0, l1, k0, k1, hl, hk, hnk⟩ := norm_means nd f g f0 f1 g0 g1
    obtain ⟨r, ok, e2, r0, r1, hr⟩ := meet_means nd f g f0 f1 g0 g1
    have c1 := fun w => norm_any f g w (by omega) (by omega) (by omega) (by omega)
    have c2 := fun w => meet_any f g w (by omega) (by omega) (by omega) (by omega)
    have c3 := fun w => ite13_any f g h w (by omega) (by omega) (by omega) (by omega) (by omega) (by omega)
    rw [e1] at c1
    rw [e2] at c2
    have C1 := Lib.hid c1
    have C2 := Lib.hid c2
    have hnt := isV_nt nd f
    have ntb := nt_bd' f f0 f1
    generalize hfa : isV nd f = fa at *
    generalize hgb : isV nd g = gb at *
    generalize hhc : isV nd h = hc at *
    clear c1 c2 e1 e2
    rcases hx with ⟨a, b, c, n', r', e3, b0, b1, hi⟩ | ⟨a, b, c, n', r', e3, a0, a1, b0, b1, cc0, cc1, ha, hbb, hi⟩
    · rw [e3] at c3
      unfold askV at c3
      have C3 := Lib.hid c3
      clear c3 e3
      cases fa <;> cases ok <;> simp only [Bool.false_eq_true, if_false, if_true, true_imp_iff, false_imp_iff] at hi hr
      all_goals
        go_wp2_with (first | (go_at_call 15; refine (is_any _ _ _ (by omega) (by omega) hn).mono ?_; rintro r w' ⟨rfl, rfl⟩) | (go_at_call 16; refine (not_any _ _ (by omega) (by omega)).mono ?_; rintro r w' ⟨rfl, rfl⟩) | (go_at_call 9; refine (C1.out _).mono ?_; rintro r w' ⟨rfl, rfl⟩) | (go_at_call 11; refine (C2.out _).mono ?_; rintro r w' ⟨rfl, rfl⟩) | (go_at_call 13; refine (C3.out _).mono ?_; rintro r w1 ⟨rfl, hb1⟩) | (go_at_call 17; refine (neg_any _ _ (by omega)).mono ?_; rintro r w' ⟨rfl, rfl⟩) | (go_at_call 18; refine (rneg_any _ _ (by omega)).mono ?_; rintro r w' ⟨rfl, rfl⟩) | (go_at_call 8; refine (lives_any _).mono ?_; rintro r w3 ⟨rfl, hb3⟩))
        go_ret
        have z1 := hb.size
        have z2 := hb1.size
        exact ⟨rfl, ((hb.trans (hb1.mono z1)).alloc (by omega) _).trans (hb3.mono (by simp; omega))⟩
    · rw [e3] at c3
      unfold askV at c3
      have C3 := Lib.hid c3
      clear c3 e3
      generalize hva : isV nd a = va at *
      cases fa <;> cases ok <;> cases va <;> simp only [Bool.false_eq_true, if_false, if_true, true_imp_iff, false_imp_iff] at hi hr
      all_goals
        have hi2 := beq_of_bne hi
        go_wp2_with (first | (go_at_call 15; refine (is_any _ _ _ (by omega) (by omega) hn).mono ?_; rintro r w' ⟨rfl, rfl⟩) | (go_at_call 16; refine (not_any _ _ (by omega) (by omega)).mono ?_; rintro r w' ⟨rfl, rfl⟩) | (go_at_call 9; refine (C1.out _).mono ?_; rintro r w' ⟨rfl, rfl⟩) | (go_at_call 11; refine (C2.out _).mono ?_; rintro r w' ⟨rfl, rfl⟩) | (go_at_call 13; refine (C3.out _).mono ?_; rintro r w1 ⟨rfl, hb1⟩) | (go_at_call 17; refine (neg_any _ _ (by omega)).mono ?_; rintro r w' ⟨rfl, rfl⟩) | (go_at_call 18; refine (rneg_any _ _ (by omega)).mono ?_; rintro r w' ⟨rfl, rfl⟩) | (go_at_call 8; refine (lives_any _).mono ?_; rintro r w3 ⟨rfl, hb3⟩))
        go_ret
        have z1 := hb.size
        have z2 := hb1.size
        exact ⟨rfl, ((hb.trans (hb1.mono z1)).alloc (by omega) _).trans (hb3.mono (by simp; omega))⟩
end Go.Proofs.Ytiigjjjaciliaaa
