/- The reference's Hold and Of: a list made by append. -/
import Derived.Test.YtaeifbkimagpdaaBc
namespace Go.Proofs.Ytaeifbkimagpdaa
set_option linter.unusedSimpArgs false
set_option linter.unusedVariables false
open Go.ChangeShapes Go.WideShapes Go.ChangeAt Go.RowKit
set_option linter.unusedVariables false
theorem rhold_any (n : Int) (w : World) :
    Calls Try.prog 47 #[.int .i64 n, .int .i64 0, .int .i64 64] w fun r w' => r = .returned (.int .i64 (min (max n 0) 64)) ∧ w = w' := by
  by_cases h : n < 0
  · have e : min (max n 0) 64 = 0 := by omega
    rw [e]
    clear e
    go_enter Try.func47, Try.ntmps47
    go_wp2
    go_ret
    exact ⟨rfl, rfl⟩
  · by_cases h2 : 64 < n
    · have e : min (max n 0) 64 = 64 := by omega
      rw [e]
      clear e
      go_enter Try.func47, Try.ntmps47
      go_wp2
      go_ret
      exact ⟨rfl, rfl⟩
    · have e : min (max n 0) 64 = n := by omega
      rw [e]
      clear e
      go_enter Try.func47, Try.ntmps47
      go_wp2
      go_ret
      exact ⟨rfl, rfl⟩
theorem u64_half {x : Nat} (h : (x : Int) ≤ 18446744073709551615) : IntKind.u64.wrap ((x : Int) / 2) = ((x / 2 : Nat) : Int) := by rw [IntKind.wrap_u64]; omega
set_option maxHeartbeats 1000000 in
theorem rof_any (n : Nat) (m : Int) (w : World) (hn : n < 18446744073709551616) :
    Calls Try.prog 15 #[.int .u64 (n : Int), .int .i64 m] w (NewBL w (bitsOf n (min (max m 0) 64).toNat)) := by
  obtain ⟨k, hk⟩ : ∃ k : Nat, min (max m 0) 64 = (k : Int) := Int.eq_ofNat_of_zero_le (by omega)
  have hk64 : k ≤ 64 := by omega
  have C1 := Lib.hid (fun w => rhold_any m w)
  rw [hk] at C1 ⊢
  rw [Int.toNat_natCast]
  obtain ⟨i2, hi2, hz2, hs2, hy2⟩ := info_parts bool_info
  have Hn := Lib.hid hn
  clear hk hn
  go_enter Try.func15, Try.ntmps15
  go_wp2
  go_loopw [0, 5, 6] (fun u v i wr => ∃ j : Nat, j ≤ k ∧ i = .int .i64 j ∧ u = .int .u64 ((n / 2 ^ j : Nat) : Int) ∧ Own wr w.heap.size 4 1 v j (bools (bitsOf n j)) ∧ Below w.heap.size w wr) (fun _ _ i _ => (k - intOf i).toNat)
  case atStart =>
    refine ⟨0, by omega, rfl, by simp, ?_, (Below.refl _ _).alloc (Nat.le_refl _) _⟩
    exact Own.ofRow (World.ownsRow_lit (base := w.heap.size) (size := 1) (e := 4) w #[] 0 (Nat.le_refl _) (by unfold maxLen; omega) rfl)
  case round =>
    obtain ⟨j, hj, rfl, rfl, hown, hb⟩ := hrel
    obtain ⟨A, c, rfl, _⟩ := hown.shape
    have hbz := hb.size
    have Hown := Lib.hid hown
    have Hb := Lib.hid hb
    clear hown hb
    by_cases hlt : j < k
    · have kk : (j : Int) < (k : Int) := by omega
      have Hq := Lib.hid (show (((n / 2 ^ j : Nat) : Int) % 2 == 1) = n.testBit j from by
        rw [Nat.testBit_eq_decide_div_mod_eq, Bool.eq_iff_iff, beq_iff_eq, decide_eq_true_iff]; omega)
      have Hd := Lib.hid (show n / 2 ^ (j + 1) = n / 2 ^ j / 2 from by rw [Nat.pow_succ, Nat.div_div_eq_div_mul])
      have hx : (((n / 2 ^ j : Nat) : Int)) ≤ 18446744073709551615 := by
        have := Nat.lt_of_le_of_lt (Nat.div_le_self n (2 ^ j)) Hn.out
        omega
      generalize n / 2 ^ j = x at *
      have Hx := Lib.hid hx
      clear hx
      go_wp2_with (first | (go_at_call 47; refine (C1.out _).mono ?_; rintro r w' ⟨rfl, rfl⟩) | (at_builtin; refine wpList_append_Own _ rfl (.tmp 14) (.tmp 18) _ rfl w.heap.size 4 i2 (.bool false) 1 1 Try.underlying23 hi2 hz2 hs2 hy2 rfl (by omega) (.slice A j c) j (bools (bitsOf n j)) rfl (Hown.out.alloc _) ⟨wr.heap.size, 0, none⟩ 1 1 [.bool ((x : Int) % 2 == 1)] rfl rfl (cell_one_new wr _ _) (by intro u hu; simp at hu; subst hu; rfl) (by unfold maxLen; omega) (by omega) (by simp; omega) ?_; intro v1 w1 hown1 hgrow hat; have Hown1 := Lib.hid hown1; have Hgrow := Lib.hid hgrow; clear hown1 hgrow hat))
      go_roundw
      case rel =>
        go_light
        refine ⟨j + 1, by omega, by go_num, by rw [Hd.out]; exact congrArg (Value.int .u64) (u64_half Hx.out), ?_, ?_⟩
        · have h := Hown1.out
          rw [Hq.out] at h
          rw [bitsOf_succ]
          simpa [bools] using h
        · exact ((Hb.out.alloc hbz _).grown Hgrow.out (by simp; omega) (fun g hg => ((Hown.out.lt g hg).1)))
      case measure => simp [intOf]; omega
    · have hjk : j = k := by omega
      subst hjk
      go_wp2_with (go_at_call 47; refine (C1.out _).mono ?_; rintro r w' ⟨rfl, rfl⟩)
      go_ret
      refine ⟨A, c, by rw [bitsOf_length]; rfl, by rw [bitsOf_length]; exact ⟨by assumption, Hown.out.low⟩, by rw [bitsOf_length]; exact RL.of_own Hown.out, Hb.out⟩
end Go.Proofs.Ytaeifbkimagpdaa
