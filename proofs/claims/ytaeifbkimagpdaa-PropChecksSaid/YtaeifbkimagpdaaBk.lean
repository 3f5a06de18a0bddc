/- The laws of bits: Tells, Orders, Reads. -/
import Derived.Test.YtaeifbkimagpdaaBj
namespace Go.Proofs.Ytaeifbkimagpdaa
set_option linter.unusedSimpArgs false
set_option linter.unusedVariables false
open Go.ChangeShapes Go.WideShapes Go.ChangeAt Go.RowKit
set_option linter.unusedVariables false
/-- The list l lies at A, from the first world on. -/
def At (w0 w : World) (A : Option Addr) (l : List Bool) : Prop := Below w0.heap.size w0 w ∧ RL w w.heap.size 1 A l.length (bools l)
theorem At.step {w0 w w' : World} {A : Option Addr} {l : List Bool} (h : At w0 w A l) (hb : Below w.heap.size w w') : At w0 w' A l := ⟨h.1.trans (hb.mono h.1.size), (h.2.below hb).more hb.size⟩
theorem At.drewN {w0 w : World} {A : Option Addr} {l : List Bool} (h : At w0 w A l) (k : Nat) : At w0 (w.drewN k) A l := ⟨bdrewN h.1 k, h.2.drewN k⟩
theorem At.lives {w0 w w' : World} (h : Below w0.heap.size w0 w) (hb : Below w.heap.size w w') : Below w0.heap.size w0 w' := h.trans (hb.mono h.size)
/-- The two lists that Same compares are equal. -/
theorem same_eq {w0 w : World} {A C : Option Addr} {n m ca cb : Nat} {l r : List Bool} (hA : At w0 w A l) (hC : At w0 w C r) (h : l = r) (hn : n = l.length) (hm : m = r.length) (sn : l.length ≤ 4000000000000) :
    Calls Try.prog 13 #[.slice A n ca, .slice C m cb] w fun e w' => e = .returned (.bool true) ∧ ∃ k, w' = w.drewN k := by
  subst h; subst hn; subst hm
  have := same_any w w.heap.size A C l.length l.length ca cb l l rfl rfl hA.2 hC.2 sn sn
  rwa [decide_eq_true rfl] at this
theorem new_at {w0 w w' : World} {l : List Bool} {e : Ending} (h : Below w0.heap.size w0 w) (k : NewBL w l e w') : ∃ A c, e = .returned (.slice A l.length c) ∧ At w0 w' A l ∧ Below w.heap.size w w' := by
  obtain ⟨A, c, he, _, hr, hb⟩ := k
  exact ⟨A, c, he, ⟨h.trans (hb.mono h.size), hr⟩, hb⟩
set_option maxHeartbeats 2000000 in
theorem tells_any (n : Nat) (hn : n < 18446744073709551616) (m : Int) (A : Option Addr) (L c : Nat) (l : List Bool) (hl : l.length = L) (w : World) (hA : RL w w.heap.size 1 A L (bools l)) :
    Calls Try.prog 3 #[.int .u64 (n : Int), .int .i64 m, .slice A L c] w fun e w' => e = .returned (.bool true) ∧ Below w.heap.size w w' := by
  by_cases hlong : 300 < L
  · go_enter Try.func3, Try.ntmps3
    go_wp2_with (go_at_call 12; refine (lives_any _).mono ?_; rintro e w1 ⟨rfl, hb⟩; have Hb := Lib.hid hb; clear hb)
    go_ret
    exact ⟨rfl, Hb.out⟩
  · subst hl
    have H0 := Lib.hid (show At w w A l from ⟨Below.refl _ _, hA⟩)
    have Hn := Lib.hid hn
    have hL3 : l.length ≤ 300 := by omega
    clear hA hn hlong
    generalize hb1 : bitsOf n (min (max m 0) 64).toNat = lb at *
    have Hlb := Lib.hid (show lb.length ≤ 64 from by rw [← hb1, bitsOf_length]; omega)
    have C1 := Lib.hid (fun w => by have := of_any n m w Hn.out; rw [hb1] at this; exact this)
    have C2 := Lib.hid (fun w => by have := rof_any n m w Hn.out; rw [hb1] at this; exact this)
    clear hb1
    go_enter Try.func3, Try.ntmps3
    go_wp2_with fail
    refine (C1.out w).mono ?_
    intro e w1 hk
    obtain ⟨A1, c1, rfl, h1, hb⟩ := new_at (Below.refl w.heap.size w) hk
    have H1 := Lib.hid h1
    have H0' := Lib.hid (H0.out.step hb)
    clear h1 hb hk H0
    go_wp2_with fail
    refine (C2.out w1).mono ?_
    intro e w2 hk
    obtain ⟨A2, c2, rfl, h2, hb⟩ := new_at H1.out.1 hk
    have H2 := Lib.hid h2
    have H1' := Lib.hid (H1.out.step hb)
    have H0 := Lib.hid (H0'.out.step hb)
    clear h2 hb hk H0' H1
    go_wp2_with fail
    refine (same_eq H1'.out H2.out rfl rfl rfl (by have := Hlb.out; omega)).mono ?_
    rintro e w3 ⟨rfl, q, rfl⟩
    have H0' := Lib.hid (H0.out.drewN q)
    clear H0 H1' H2
    go_wp2_with (first | (go_at_call 16; refine (num_any _ _ A l.length c l rfl H0'.out.2 (by omega)).mono ?_; rintro e w' ⟨rfl, rfl⟩) | (go_at_call 17; refine (rnum_any _ _ A l.length c l rfl H0'.out.2 (by omega)).mono ?_; rintro e w' ⟨rfl, rfl⟩) | (go_at_call 18; fail))
    refine (next_any _ A l.length c l rfl H0'.out.2 (by omega)).mono ?_
    intro e w4 hk
    obtain ⟨A4, c4, rfl, h4, hb⟩ := new_at H0'.out.1 hk
    have H4 := Lib.hid h4
    have H0 := Lib.hid (H0'.out.step hb)
    clear h4 hb hk H0'
    go_wp2_with fail
    refine (rnext_any _ A l.length c l rfl H0.out.2 (by omega)).mono ?_
    intro e w5 hk
    obtain ⟨A5, c5, rfl, h5, hb⟩ := new_at H0.out.1 hk
    have H5 := Lib.hid h5
    have H4' := Lib.hid (H4.out.step hb)
    have H0' := Lib.hid (H0.out.step hb)
    clear h5 hb hk H0 H4
    go_wp2_with fail
    refine (same_eq H4'.out H5.out rfl rfl rfl (by rw [nextL_length]; omega)).mono ?_
    rintro e w6 ⟨rfl, q2, rfl⟩
    have H0 := Lib.hid (H0'.out.drewN q2)
    clear H0' H4' H5
    go_wp2_with fail
    refine (text_any _ A l.length c l rfl H0.out.2 (by omega)).mono ?_
    rintro e w7 ⟨rfl, hb⟩
    have H0' := Lib.hid (H0.out.step hb)
    clear hb H0
    go_wp2_with (go_at_call 21; refine (rtext_any _ _ A l.length c l rfl H0'.out.2 (by omega)).mono ?_; rintro e w' ⟨rfl, rfl⟩)
    refine (lives_any _).mono ?_
    rintro e w8 ⟨rfl, hb⟩
    have HB := Lib.hid (At.lives H0'.out.1 hb)
    clear hb H0'
    go_wp2
    go_ret
    exact ⟨rfl, HB.out⟩
theorem cmpB_neg (x y : Bool) : cmpB y x = - cmpB x y := by cases x <;> cases y <;> rfl
theorem cmpL_neg : ∀ a b : List Bool, cmpL b a = - cmpL a b
  | [], [] => rfl
  | [], _ :: _ => rfl
  | _ :: _, [] => rfl
  | x :: a, y :: b => by
    simp only [cmpL]
    by_cases h : x = y
    · rw [if_pos h, if_pos h.symm]; exact cmpL_neg a b
    · rw [if_neg h, if_neg (Ne.symm h)]; exact cmpB_neg x y
theorem cmpL_zero : ∀ a b : List Bool, cmpL a b = 0 ↔ a = b
  | [], [] => by simp [cmpL]
  | [], _ :: _ => by simp [cmpL]
  | _ :: _, [] => by simp [cmpL]
  | x :: a, y :: b => by
    simp only [cmpL]
    by_cases h : x = y
    · rw [if_pos h, cmpL_zero a b]; simp [h]
    · rw [if_neg h]
      constructor
      · intro h2
        unfold cmpB at h2
        rw [if_neg h] at h2
        split at h2 <;> simp at h2
      · intro h2
        injection h2 with h2
        exact absurd h2 h
theorem less_three (a b : List Bool) : (lessL a b = true ∧ lessL b a = false ∧ decide (a = b) = false) ∨ (lessL a b = false ∧ lessL b a = true ∧ decide (a = b) = false) ∨ (lessL a b = false ∧ lessL b a = false ∧ decide (a = b) = true) := by
  have h1 := cmpL_neg a b
  have h2 := cmpL_zero a b
  unfold lessL
  rcases Int.lt_trichotomy (cmpL a b) 0 with h | h | h
  · refine .inl ⟨by simp [h], by simp; omega, ?_⟩
    rw [decide_eq_false_iff_not]
    intro e
    have := h2.2 e
    omega
  · exact .inr (.inr ⟨by simp [h], by simp; omega, by simp [h2.1 h]⟩)
  · refine .inr (.inl ⟨by simp; omega, by simp; omega, ?_⟩)
    rw [decide_eq_false_iff_not]
    intro e
    have := h2.2 e
    omega
set_option maxHeartbeats 2000000 in
theorem orders_any (A C : Option Addr) (n m ca cb : Nat) (l r : List Bool) (hn : l.length = n) (hm : r.length = m) (w : World) (hA : RL w w.heap.size 1 A n (bools l)) (hC : RL w w.heap.size 1 C m (bools r)) :
    Calls Try.prog 4 #[.slice A n ca, .slice C m cb] w fun e w' => e = .returned (.bool true) ∧ Below w.heap.size w w' := by
  by_cases h1 : 300 < n
  · clear hA hC hn hm
    go_enter Try.func4, Try.ntmps4
    go_wp2_with (go_at_call 12; refine (lives_any _).mono ?_; rintro e w1 ⟨rfl, hb⟩; have Hb := Lib.hid hb; clear hb)
    go_ret
    exact ⟨rfl, Hb.out⟩
  · by_cases h2 : 300 < m
    · clear hA hC hn hm
      go_enter Try.func4, Try.ntmps4
      go_wp2_with (go_at_call 12; refine (lives_any _).mono ?_; rintro e w1 ⟨rfl, hb⟩; have Hb := Lib.hid hb; clear hb)
      go_ret
      exact ⟨rfl, Hb.out⟩
    · have L1 := Lib.hid (less_any w w.heap.size A C n m ca cb l r hn hm hA hC (by omega) (by omega))
      have L2 := Lib.hid (less_any w w.heap.size C A m n cb ca r l hm hn hC hA (by omega) (by omega))
      have R1 := Lib.hid (rless_any w w.heap.size A C n m ca cb l r hn hm hA hC (by omega) (by omega))
      have R2 := Lib.hid (fun k => rless_any (w.drewN k) w.heap.size C A m n cb ca r l hm hn (hC.drewN k) (hA.drewN k) (by omega) (by omega))
      have S1 := Lib.hid (fun k => same_any (w.drewN k) w.heap.size A C n m ca cb l r hn hm (hA.drewN k) (hC.drewN k) (by omega) (by omega))
      have h3 := less_three l r
      clear hA hC hn hm
      generalize lessL l r = x at *
      generalize lessL r l = y at *
      generalize decide (l = r) = z at *
      rcases h3 with ⟨rfl, rfl, rfl⟩ | ⟨rfl, rfl, rfl⟩ | ⟨rfl, rfl, rfl⟩
      all_goals
        go_enter Try.func4, Try.ntmps4
        go_wp2_with fail
        refine L1.out.mono ?_
        rintro e w' ⟨rfl, rfl⟩
        go_wp2_with fail
        refine L2.out.mono ?_
        rintro e w' ⟨rfl, rfl⟩
        go_wp2_with fail
        refine R1.out.mono ?_
        rintro e w' ⟨rfl, k1, rfl⟩
        go_wp2_with fail
        refine (R2.out _).mono ?_
        rintro e w' ⟨rfl, k2, rfl⟩
        rw [World.drewN_drewN]
        go_wp2_with fail
        refine (S1.out _).mono ?_
        rintro e w' ⟨rfl, k3, rfl⟩
        rw [World.drewN_drewN]
        go_wp2_with fail
        refine (lives_any _).mono ?_
        rintro e w8 ⟨rfl, hb⟩
        have HB := Lib.hid (At.lives (bdrewN (Below.refl w.heap.size w) _) hb)
        clear hb
        go_wp2
        go_ret
        exact ⟨rfl, HB.out⟩
theorem text_parse (s : ByteArray) (h : s.data.toList.all dg = true) : textOf (parseL s) = s := by
  unfold textOf parseL
  apply ByteArray.ext
  apply Array.toList_inj.1
  simp only [List.map_map]
  conv => rhs; rw [← List.map_id s.data.toList]
  apply List.map_congr_left
  intro c hc
  rcases dg_cases (List.all_eq_true.1 h c hc) with rfl | rfl <;> rfl
theorem RL.nothing (w : World) (B : Nat) : RL w B 1 none 0 (bools []) := ⟨rfl, fun h => absurd h (by omega)⟩
set_option maxHeartbeats 2000000 in
theorem reads_any (s : ByteArray) (w : World) (hs : s.size ≤ 9223372036854775807) :
    Calls Try.prog 5 #[.string s] w fun e w' => e = .returned (.bool true) ∧ Below w.heap.size w w' := by
  by_cases h1 : 5000 < s.size
  · go_enter Try.func5, Try.ntmps5
    go_wp2_with (go_at_call 12; refine (lives_any _).mono ?_; rintro e w1 ⟨rfl, hb⟩; have Hb := Lib.hid hb; clear hb)
    go_ret
    exact ⟨rfl, Hb.out⟩
  · have hz : s.size ≤ 5000 := by omega
    clear h1 hs
    go_enter Try.func5, Try.ntmps5
    go_wp2_with fail
    refine (parse_any w s (by omega)).mono ?_
    rintro e w1 ⟨hb, hc⟩
    have B1 := Lib.hid hb
    clear hb
    rcases hc with ⟨hl, rfl⟩ | ⟨hl, hf, rfl⟩ | ⟨hl, ht, A1, c1, rfl, hr1⟩
    · go_wp2_with fail
      refine (rparse_any w1 s (by omega)).mono ?_
      rintro e w2 ⟨hb, (⟨_, rfl⟩ | ⟨hl2, _⟩ | ⟨hl2, _⟩)⟩
      · have B2 := Lib.hid (Bthen B1.out hb)
        clear hb
        go_wp2_with fail
        refine (same_any w2 0 none none 0 0 0 0 [] [] rfl rfl (RL.nothing _ _) (RL.nothing _ _) (by omega) (by omega)).mono ?_
        rw [decide_eq_true rfl]
        rintro e w3 ⟨rfl, q, rfl⟩
        go_wp2_with fail
        refine (lives_any _).mono ?_
        rintro e w4 ⟨rfl, hb⟩
        have HB := Lib.hid (At.lives (bdrewN B2.out q) hb)
        clear hb
        go_wp2
        go_ret
        exact ⟨rfl, HB.out⟩
      · omega
      · omega
    · go_wp2_with fail
      refine (rparse_any w1 s (by omega)).mono ?_
      rintro e w2 ⟨hb, (⟨hl2, _⟩ | ⟨_, _, rfl⟩ | ⟨_, ht2, _⟩)⟩
      · omega
      · have B2 := Lib.hid (Bthen B1.out hb)
        clear hb hf
        go_wp2_with fail
        refine (same_any w2 0 none none 0 0 0 0 [] [] rfl rfl (RL.nothing _ _) (RL.nothing _ _) (by omega) (by omega)).mono ?_
        rw [decide_eq_true rfl]
        rintro e w3 ⟨rfl, q, rfl⟩
        go_wp2_with fail
        refine (lives_any _).mono ?_
        rintro e w4 ⟨rfl, hb⟩
        have HB := Lib.hid (At.lives (bdrewN B2.out q) hb)
        clear hb
        go_wp2
        go_ret
        exact ⟨rfl, HB.out⟩
      · rw [hf] at ht2; cases ht2
    · have R1 := Lib.hid hr1
      have Ht := Lib.hid ht
      clear hr1 ht
      go_wp2_with fail
      refine (rparse_any w1 s (by omega)).mono ?_
      rintro e w2 ⟨hb, (⟨hl2, _⟩ | ⟨_, hf2, _⟩ | ⟨_, _, A2, c2, rfl, hr2⟩)⟩
      · omega
      · rw [Ht.out] at hf2; cases hf2
      · have B2 := Lib.hid (Bthen B1.out hb)
        have R1' := Lib.hid ((R1.out.below hb).more hb.size)
        have R2 := Lib.hid hr2
        have hpl := Lib.hid (parseL_length s)
        have Htp := Lib.hid (text_parse s Ht.out)
        clear hb hr2 R1
        generalize parseL s = l at *
        go_wp2_with fail
        refine (same_any w2 _ A1 A2 s.size s.size c1 c2 l l hpl.out hpl.out R1'.out R2.out (by omega) (by omega)).mono ?_
        rw [decide_eq_true rfl]
        rintro e w3 ⟨rfl, q, rfl⟩
        go_wp2_with fail
        refine (text_any _ A1 s.size c1 l hpl.out (R1'.out.drewN q) (by omega)).mono ?_
        rw [Htp.out]
        rintro e w4 ⟨rfl, hb⟩
        have B4 := Lib.hid (At.lives (bdrewN B2.out q) hb)
        clear hb R1' R2
        go_wp2_with fail
        refine (lives_any _).mono ?_
        rintro e w5 ⟨rfl, hb⟩
        have HB := Lib.hid (At.lives B4.out hb)
        clear hb
        go_wp2
        go_ret
        exact ⟨rfl, HB.out⟩
end Go.Proofs.Ytaeifbkimagpdaa
