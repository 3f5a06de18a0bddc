/- The walk of the law NumReads, NumBack. -/
import Derived.Test.YtcnejokbldohlaaNj
namespace Go.Proofs.Ytcnejokbldohlaa
open Go.ChangeShapes Go.WideShapes Go.ChangeAt Go.RowKit
set_option linter.unusedVariables false
theorem reads_walk (s : ByteArray) (lo hi n : Int) (w : World) (hs : s.size ≤ 9223372036854775807) (hlo : I64 lo) (hhi : I64 hi) (hn : I64 n) :
    Calls Try.prog 4 #[.string s, .int .i64 lo, .int .i64 hi, .int .i64 n] w fun r w' => r = .returned (.bool true) ∧ Below w.heap.size w w' := by
  by_cases h5 : (500 : Int) < s.size
  · go_enter Try.func4, Try.ntmps4
    go_wp2_with (go_at_call 15; refine (lives_any _).mono ?_; rintro r w' ⟨rfl, hb1⟩)
    go_ret
    exact ⟨rfl, hb1⟩
  · have C1 := Lib.hid (fun w => parse_any s lo hi w hs hlo hhi)
    have C2 := Lib.hid (fun w => rparse_any s lo hi w (by omega) hlo hhi)
    have C3 := Lib.hid (fun w => text_any n w hn)
    have C4 := Lib.hid (fun w => rtext_any n w hn)
    clear hs hlo hhi hn
    go_enter Try.func4, Try.ntmps4
    go_wp2_with (first | (go_at_call 15; refine (lives_any _).mono ?_; rintro r w1 ⟨rfl, hb1⟩) | (go_at_call 16; refine (C1.out _).mono ?_; rintro r w' ⟨rfl, rfl⟩) | (go_at_call 17; refine (C2.out _).mono ?_; rintro r w2 ⟨rfl, hb2⟩) | (go_at_call 18; refine (C3.out _).mono ?_; rintro r w3 ⟨rfl, hb3⟩) | (go_at_call 19; refine (C4.out _).mono ?_; rintro r w4 ⟨rfl, hb4⟩))
    go_ret
    exact ⟨rfl, Bthen (Bthen (Bthen hb2 hb1) hb3) hb4⟩
theorem back_walk (n : Int) (s : ByteArray) (lo hi : Int) (w : World) (hn : I64 n) (hs : s.size ≤ 9223372036854775807) (hlo : I64 lo) (hhi : I64 hi) :
    Calls Try.prog 7 #[.int .i64 n, .string s, .int .i64 lo, .int .i64 hi] w fun r w' => r = .returned (.bool true) ∧ Below w.heap.size w w' := by
  have c1 : ∀ w, Calls Try.prog 16 #[.string (textS n), .int .i64 n, .int .i64 n] w fun r w' => r = .returned (.tuple #[.int .i64 n, .int .i64 0]) ∧ w = w' := fun w => by
    have h := parse_any (textS n) n n w (by have := textS_size n hn; omega) hn hn
    rw [lst_textS, (prE_in (txt_form n) (by rw [txt_val]; omega)).1, (prE_in (txt_form n) (by rw [txt_val]; omega)).2, txt_val] at h
    exact h
  have C1 := Lib.hid c1
  have C2 := Lib.hid (fun w => text_any n w hn)
  have c3 := fun w => parse_any s lo hi w hs hlo hhi
  clear c1 hn
  by_cases hin : formB (lst s) = true ∧ lo ≤ sval (lst s) ∧ sval (lst s) ≤ hi
  · rw [(prE_in hin.1 hin.2).1, (prE_in hin.1 hin.2).2] at c3
    have ht : textS (sval (lst s)) = s := lst_inj (by rw [lst_textS, txt_sval _ hin.1])
    have hv1 := hin.2.1
    have hv2 := hin.2.2
    have c4 := fun w => text_any (sval (lst s)) w (by unfold I64 at *; omega)
    rw [ht] at c4
    clear hin ht
    generalize sval (lst s) = v at *
    have C3 := Lib.hid c3
    have C4 := Lib.hid c4
    have HN : lo ≤ hi := by omega
    clear c3 c4 hlo hhi hs
    go_enter Try.func7, Try.ntmps7
    go_wp2_with fail
    refine (lives_any _).mono ?_
    rintro r w1 ⟨rfl, hb1⟩
    go_wp2_with fail
    refine (C2.out _).mono ?_
    rintro r w2 ⟨rfl, hb2⟩
    go_wp2_with fail
    refine (C1.out _).mono ?_
    rintro r w' ⟨rfl, rfl⟩
    go_wp2_with fail
    refine (C3.out _).mono ?_
    rintro r w' ⟨rfl, rfl⟩
    go_wp2_with fail
    refine (C4.out _).mono ?_
    rintro r w3 ⟨rfl, hb3⟩
    go_wp2_with (go_at_call 25; refine (near_any _ _ _ _).mono ?_; rintro r w' ⟨rfl, rfl⟩)
    all_goals go_ret
    all_goals exact ⟨rfl, Bthen (Bthen hb1 hb2) hb3⟩
  · have hk : ∃ e : Int, 1 ≤ e ∧ prN (lst s) lo hi = 0 ∧ prE (lst s) lo hi = e := by
      cases hf : formB (lst s)
      · exact ⟨3, by omega, prE_form hf⟩
      · exact ⟨2, by omega, prE_out hf (fun h => hin ⟨hf, h⟩)⟩
    obtain ⟨e, he, h1, h2⟩ := hk
    rw [h1, h2] at c3
    have C3 := Lib.hid c3
    clear c3 hlo hhi hs h1 h2 hin
    have hee : (e == 0) = false := by rw [beq_eq_false_iff_ne]; omega
    have hne : (e != 0) = true := by rw [bne_iff_ne]; omega
    by_cases hlh : hi < lo
    · go_enter Try.func7, Try.ntmps7
      go_wp2_with fail
      refine (lives_any _).mono ?_
      rintro r w1 ⟨rfl, hb1⟩
      go_wp2_with fail
      refine (C2.out _).mono ?_
      rintro r w2 ⟨rfl, hb2⟩
      go_wp2_with fail
      refine (C1.out _).mono ?_
      rintro r w' ⟨rfl, rfl⟩
      go_wp2_with fail
      refine (C3.out _).mono ?_
      rintro r w' ⟨rfl, rfl⟩
      go_wp2_with (go_at_call 25; refine (near_any _ _ _ _).mono ?_; rintro r w' ⟨rfl, rfl⟩)
      go_ret
      exact ⟨rfl, Bthen hb1 hb2⟩
    · have HN : lo ≤ hi := by omega
      go_enter Try.func7, Try.ntmps7
      go_wp2_with fail
      refine (lives_any _).mono ?_
      rintro r w1 ⟨rfl, hb1⟩
      go_wp2_with fail
      refine (C2.out _).mono ?_
      rintro r w2 ⟨rfl, hb2⟩
      go_wp2_with fail
      refine (C1.out _).mono ?_
      rintro r w' ⟨rfl, rfl⟩
      go_wp2_with fail
      refine (C3.out _).mono ?_
      rintro r w' ⟨rfl, rfl⟩
      go_wp2_with (go_at_call 25; refine (near_any _ _ _ _).mono ?_; rintro r w' ⟨rfl, rfl⟩)
      all_goals go_ret
      all_goals exact ⟨rfl, Bthen hb1 hb2⟩
end Go.Proofs.Ytcnejokbldohlaa
