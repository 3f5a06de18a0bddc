/- BitsRound: Of and Num are inverse to each other, Next adds one, Parse inverts Text. -/
import Derived.Test.YtaeifbkimagpdaaBk
namespace Go.Proofs.Ytaeifbkimagpdaa
set_option linter.unusedSimpArgs false
set_option linter.unusedVariables false
open Go.ChangeShapes Go.WideShapes Go.ChangeAt Go.RowKit
set_option linter.unusedVariables false
theorem nb_bit (l : List Bool) (i j : Nat) : (nb l i).testBit j = (decide (j < i) && l.getD j false) := by
  induction i with
  | zero => simp [nb]
  | succ i ih =>
    unfold nb
    have hlt := nb_lt l i
    by_cases hb : l.getD i false = true
    · rw [if_pos hb, Nat.add_comm]
      rcases Nat.lt_trichotomy j i with h | h | h
      · rw [Nat.testBit_two_pow_add_gt h, ih, decide_eq_true h, decide_eq_true (show j < i + 1 by omega)]
      · subst h
        rw [Nat.testBit_two_pow_add_eq, ih, decide_eq_false (Nat.lt_irrefl j), decide_eq_true (show j < j + 1 by omega), hb]; rfl
      · rw [decide_eq_false (show ¬ j < i + 1 by omega), Bool.false_and]
        apply Nat.testBit_lt_two_pow
        have h2 : (2 : Nat) ^ (i + 1) ≤ 2 ^ j := Nat.pow_le_pow_right (by omega) (by omega)
        rw [Nat.pow_succ] at h2
        omega
    · rw [if_neg hb, Nat.add_zero, ih]
      rcases Nat.lt_trichotomy j i with h | h | h
      · rw [decide_eq_true h, decide_eq_true (show j < i + 1 by omega)]
      · subst h
        rw [decide_eq_false (Nat.lt_irrefl j)]
        simp only [Bool.not_eq_true] at hb
        rw [hb]; simp
      · rw [decide_eq_false (show ¬ j < i + 1 by omega), decide_eq_false (show ¬ j < i by omega)]
theorem numOf_eq (l : List Bool) (h : l.length ≤ 64) : numOf l = nb l l.length := by unfold numOf; rw [Nat.min_eq_left h]
theorem of_num (l : List Bool) (h : l.length ≤ 64) : bitsOf (numOf l) l.length = l := by
  apply List.ext_getElem?
  intro j
  unfold bitsOf
  rw [List.getElem?_map]
  by_cases hj : j < l.length
  · rw [List.getElem?_range hj, numOf_eq l h]
    simp only [Option.map_some]
    rw [nb_bit, decide_eq_true hj]
    simp [hj]
  · rw [List.getElem?_eq_none (by simp; omega), List.getElem?_eq_none (by omega)]; rfl
theorem num_of (n : Nat) (h : n < 18446744073709551616) : numOf (bitsOf n 64) = n := by
  rw [numOf_eq _ (by rw [bitsOf_length]; exact Nat.le_refl _), bitsOf_length]
  apply Nat.eq_of_testBit_eq
  intro j
  rw [nb_bit]
  by_cases hj : j < 64
  · rw [decide_eq_true hj]
    simp [bitsOf, hj]
  · rw [decide_eq_false hj, Bool.false_and]
    symm
    apply Nat.testBit_lt_two_pow
    have h2 : (2 : Nat) ^ 64 ≤ 2 ^ j := Nat.pow_le_pow_right (by omega) (by omega)
    rw [show (2 : Nat) ^ 64 = 18446744073709551616 from by decide] at h2
    omega
theorem nb_next (l : List Bool) (i : Nat) (h : i ≤ l.length) : (cy l i = true → nb (nextL l) i = 0 ∧ nb l i + 1 = 2 ^ i) ∧ (cy l i = false → nb (nextL l) i = nb l i + 1) := by
  induction i with
  | zero => simp [nb, cy]
  | succ i ih =>
    obtain ⟨h1, h2⟩ := ih (by omega)
    have hi : i < l.length := by omega
    have hc := cy_succ l i hi
    have hg : (nextL l).getD i false = (l[i] != cy l i) := by rw [List.getD_eq_getElem?_getD, nextL_get l i hi]; rfl
    have hgl : l.getD i false = l[i] := by simp [hi]
    unfold nb
    rw [hg, hgl, hc]
    generalize l[i] = x at *
    cases hcy : cy l i
    · have h3 := h2 hcy
      constructor
      · intro hf; simp at hf
      · intro _
        rw [h3]
        cases x <;> simp <;> omega
    · obtain ⟨h3, h4⟩ := h1 hcy
      constructor
      · intro hx
        simp only [Bool.true_and] at hx
        subst hx
        rw [h3, Nat.pow_succ]
        simp; omega
      · intro hx
        simp only [Bool.true_and] at hx
        subst hx
        rw [h3]
        simp; omega
theorem round_next (l : List Bool) (h : l.length ≤ 64) : (cy l l.length = true → numOf (nextL l) = 0) ∧ (cy l l.length = false → numOf (nextL l) = numOf l + 1 ∧ numOf l + 1 < 18446744073709551616) := by
  have hn := nb_next l l.length (Nat.le_refl _)
  rw [numOf_eq _ (by rw [nextL_length]; exact h), numOf_eq l h, nextL_length]
  refine ⟨fun hc => (hn.1 hc).1, fun hc => ⟨hn.2 hc, ?_⟩⟩
  rw [← hn.2 hc]
  have h1 := nb_lt (nextL l) l.length
  have h2 : (2 : Nat) ^ l.length ≤ 2 ^ 64 := Nat.pow_le_pow_right (by omega) h
  rw [show (2 : Nat) ^ 64 = 18446744073709551616 from by decide] at h2
  omega
theorem text_dg (l : List Bool) : (textOf l).data.toList.all dg = true := by
  unfold textOf
  rw [List.all_eq_true]
  intro c hc
  obtain ⟨b, _, rfl⟩ := List.mem_map.1 (show c ∈ l.map digit from hc)
  cases b <;> rfl
theorem parse_text (l : List Bool) : parseL (textOf l) = l := by
  unfold textOf parseL
  simp only [List.map_map]
  conv => rhs; rw [← List.map_id l]
  apply List.map_congr_left
  intro b _
  cases b <;> rfl
theorem u64_fits {x : Nat} (h : x + 1 < 18446744073709551616) : IntKind.u64.wrap ((x : Int) + 1) = ((x + 1 : Nat) : Int) := by rw [IntKind.wrap_u64]; omega
set_option maxRecDepth 100000 in
set_option maxHeartbeats 2000000 in
theorem round_any (n : Nat) (hn : n < 18446744073709551616) (A : Option Addr) (L c : Nat) (l : List Bool) (hl : l.length = L) (w : World) (hA : RL w w.heap.size 1 A L (bools l)) :
    Calls Try.prog 7 #[.int .u64 (n : Int), .slice A L c] w fun e w' => e = .returned (.bool true) ∧ Below w.heap.size w w' := by
  by_cases hlong : 64 < L
  · go_enter Try.func7, Try.ntmps7
    go_wp2_with (go_at_call 12; refine (lives_any _).mono ?_; rintro e w1 ⟨rfl, hb⟩; have Hb := Lib.hid hb; clear hb)
    go_ret
    exact ⟨rfl, Hb.out⟩
  · subst hl
    have hL : l.length ≤ 64 := by omega
    have H0 := Lib.hid (show At w w A l from ⟨Below.refl _ _, hA⟩)
    have hlim : numOf l < 18446744073709551616 := by
      rw [numOf_eq l hL]
      have h1 := nb_lt l l.length
      have h2 : (2 : Nat) ^ l.length ≤ 2 ^ 64 := Nat.pow_le_pow_right (by omega) hL
      rw [show (2 : Nat) ^ 64 = 18446744073709551616 from by decide] at h2
      omega
    have C1 := Lib.hid (fun w => by
      have := of_any (numOf l) (l.length : Int) w hlim
      rw [show (min (max (l.length : Int) 0) 64).toNat = l.length by omega, of_num l hL] at this
      exact this)
    have C2 := Lib.hid (fun w => by
      have := of_any n 64 w hn
      rw [show (min (max (64 : Int) 0) 64).toNat = 64 by omega] at this
      exact this)
    have N2 := Lib.hid (num_of n hn)
    have Hs := Lib.hid (textOf_size l)
    have Hd := Lib.hid (text_dg l)
    have Hp := Lib.hid (parse_text l)
    obtain ⟨r1, r2⟩ := round_next l hL
    have Hr1 := Lib.hid r1
    have Hr2 := Lib.hid r2
    clear hA hn hlong hlim r1 r2
    go_enter Try.func7, Try.ntmps7
    go_wp2_with (go_at_call 16; refine (num_any _ _ A l.length c l rfl H0.out.2 (by omega)).mono ?_; rintro e w' ⟨rfl, rfl⟩)
    refine (text_any _ A l.length c l rfl H0.out.2 (by omega)).mono ?_
    rintro e w1 ⟨rfl, hb⟩
    have H1 := Lib.hid (H0.out.step hb)
    clear hb H0
    go_wp2_with fail
    refine (parse_any w1 (textOf l) (by rw [Hs.out]; omega)).mono ?_
    rintro e w2 hpp
    obtain ⟨A2, c2, rfl, hb, hr2⟩ : ∃ A2 c2, e = .returned (.tuple #[.slice A2 l.length c2, .int .i64 0]) ∧ Below w1.heap.size w1 w2 ∧ RL w2 w2.heap.size 1 A2 l.length (bools l) := by
      obtain ⟨hb, (⟨h, _⟩ | ⟨_, h, _⟩ | ⟨_, _, A2, c2, he, hr⟩)⟩ := hpp
      · rw [Hs.out] at h; omega
      · rw [Hd.out] at h; cases h
      · rw [Hs.out] at he hr; rw [Hp.out] at hr; exact ⟨A2, c2, he, hb, hr⟩
    have H2 := Lib.hid (H1.out.step hb)
    have K2 := Lib.hid (show At w w2 A2 l from ⟨H2.out.1, hr2⟩)
    clear hb hr2 hpp H1
    go_wp2_with fail
    refine (C1.out w2).mono ?_
    intro e w3 hk
    obtain ⟨A3, c3, rfl, h3, hb⟩ := new_at H2.out.1 hk
    have J3 := Lib.hid h3
    have H3 := Lib.hid (H2.out.step hb)
    have K3 := Lib.hid (K2.out.step hb)
    clear h3 hb hk H2 K2
    go_wp2_with fail
    refine (same_eq J3.out H3.out rfl rfl rfl (by omega)).mono ?_
    rintro e w4 ⟨rfl, q, rfl⟩
    have H4 := Lib.hid (H3.out.drewN q)
    have K4 := Lib.hid (K3.out.drewN q)
    clear H3 K3 J3
    go_wp2_with fail
    refine (C2.out _).mono ?_
    intro e w5 hk
    obtain ⟨A5, c5, rfl, h5, hb⟩ := new_at H4.out.1 hk
    have J5 := Lib.hid h5
    have H5 := Lib.hid (H4.out.step hb)
    have K5 := Lib.hid (K4.out.step hb)
    clear h5 hb hk H4 K4
    rw [bitsOf_length] at *
    go_wp2_with fail
    refine (num_any _ _ A5 64 c5 (bitsOf n 64) (bitsOf_length n 64) (by have := J5.out.2; rwa [bitsOf_length] at this) (by omega)).mono ?_
    rw [N2.out]
    rintro e w' ⟨rfl, rfl⟩
    clear J5
    go_wp2_with fail
    refine (same_eq K5.out H5.out rfl rfl rfl (by omega)).mono ?_
    rintro e w6 ⟨rfl, q2, rfl⟩
    have H6 := Lib.hid (H5.out.drewN q2)
    clear H5 K5
    go_wp2_with fail
    refine (next_any _ A l.length c l rfl H6.out.2 (by omega)).mono ?_
    intro e w7 hk
    obtain ⟨A7, c7, rfl, h7, hb⟩ := new_at H6.out.1 hk
    have J7 := Lib.hid h7
    have H7 := Lib.hid (H6.out.step hb)
    clear h7 hb hk H6
    go_wp2_with fail
    refine (num_any _ _ A7 (nextL l).length c7 (nextL l) rfl J7.out.2 (by rw [nextL_length]; omega)).mono ?_
    rintro e w' ⟨rfl, rfl⟩
    clear J7
    go_wp2_with fail
    have hbW : Hid (Below w.heap.size w w7) := H7.out.1
    go_loop [9, 10] (fun v i => ∃ j : Nat, j ≤ l.length ∧ i = .int .i64 j ∧ v = .bool (cy l j)) (fun _ i => (l.length - intOf i).toNat)
    case atStart => exact ⟨0, by omega, rfl, rfl⟩
    case round =>
      obtain ⟨j, hj, rfl, rfl⟩ := hrel
      by_cases hlt : j < l.length
      · obtain ⟨b, o, rfl, hbw, hc⟩ := H7.out.2.at_ (by omega)
        have e1 := hc j (by omega)
        rw [bools_get _ _ hlt] at e1
        have Hcs := Lib.hid (cy_succ l j hlt)
        generalize l[j] = x at *
        generalize cy l j = cr at *
        have ki : (j : Int) < (l.length : Int) := by omega
        have k0 : (0 : Int) ≤ (j : Int) := by omega
        clear hc
        cases cr
        all_goals
          go_wp2
          go_round
          case rel => exact ⟨j + 1, by omega, by go_num, by rw [Hcs.out]; simp⟩
          case measure => simp [intOf]; omega
      · obtain rfl : j = l.length := by omega
        have hr1 := Hr1.out
        have hr2 := Hr2.out
        clear Hr1 Hr2 hlt hj
        generalize hcy : cy l l.length = cr at *
        cases cr
        · obtain ⟨h1, h2⟩ := hr2 rfl
          have hw := u64_fits h2
          generalize numOf (nextL l) = y at *
          subst h1
          clear hr1 hr2 h2 hcy
          go_wp2_with fail
          refine (lives_any _).mono ?_
          rintro e w8 ⟨rfl, hb⟩
          have HB := Lib.hid (At.lives hbW.out hb)
          clear hb
          go_wp2
          go_ret
          exact ⟨rfl, HB.out⟩
        · have h1 := hr1 rfl
          generalize numOf (nextL l) = y at *
          subst h1
          clear hr1 hr2 hcy
          go_wp2_with fail
          refine (lives_any _).mono ?_
          rintro e w8 ⟨rfl, hb⟩
          have HB := Lib.hid (At.lives hbW.out hb)
          clear hb
          go_wp2
          go_ret
          exact ⟨rfl, HB.out⟩
end Go.Proofs.Ytaeifbkimagpdaa
