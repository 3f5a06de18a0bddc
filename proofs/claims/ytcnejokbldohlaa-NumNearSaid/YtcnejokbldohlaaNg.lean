/- Walks of below, Less and Parse of the reference. -/
import Derived.Test.YtcnejokbldohlaaNf
namespace Go.Proofs.Ytcnejokbldohlaa
open Go.ChangeShapes Go.WideShapes Go.ChangeAt Go.RowKit
set_option linter.unusedVariables false
theorem retb {a b : Bool} (h : b = a) : Ending.returned (.bool a) = .returned (.bool b) := by rw [h]
def pl (A : List Nat) : List Nat := A.map fun d => 48 + d
theorem pl_length (A : List Nat) : (pl A).length = A.length := by simp [pl]
theorem pl_get (A : List Nat) (k c : Nat) (h : (pl A)[k]? = some c) : A.getD k 0 + 48 = c := by
  simp only [pl, List.getElem?_map, Option.map_eq_some_iff] at h
  obtain ⟨d, hd, rfl⟩ := h
  simp [hd]; omega
set_option maxHeartbeats 1000000 in
theorem below_any (a b : ByteArray) (A B : List Nat) (w : World) (ha : lst a = pl A) (hb : lst b = pl B) (cA : Canon A) (cB : Canon B) (sa : a.size ≤ 1000) (sb : b.size ≤ 1000) :
    Calls Try.prog 56 #[.string a, .string b] w fun r w' => r = .returned (.bool (decide (val A < val B))) ∧ ∃ n, w' = w.drewN n := by
  have la : A.length = a.size := by rw [← lst_length, ha, pl_length]
  have lb : B.length = b.size := by rw [← lst_length, hb, pl_length]
  have Ha := Lib.hid ha
  have Hb := Lib.hid hb
  have CA := Lib.hid cA
  have CB := Lib.hid cB
  clear ha hb cA cB
  by_cases hl : a.size = b.size
  · have hne : ((a.size : Int) != (b.size : Int)) = false := by simp [hl]
    have hlt : (decide (val A < val B)) = decide (val A < val B) := rfl
    generalize hV : decide (val A < val B) = V at *
    have HV := Lib.hid hV
    have La := Lib.hid la
    have Lb := Lib.hid lb
    have Hl := Lib.hid hl
    clear hV hlt la lb hl
    go_enter Try.func56, Try.ntmps56
    go_wp2
    go_loopw [5] (fun i wr => ∃ k n : Nat, k ≤ a.size ∧ i = .int .i64 k ∧ A.take k = B.take k ∧ wr = w.drewN n) (fun i _ => (a.size - intOf i).toNat)
    case atStart => exact ⟨0, 0, by omega, rfl, rfl, rfl⟩
    case round =>
      obtain ⟨k, n, hk, rfl, hpre, rfl⟩ := hrel
      have Hpre := Lib.hid hpre
      clear hpre
      by_cases hlt : k < a.size
      · obtain ⟨x, hx, hx2, hxl⟩ := byteI a k hlt
        have hlt2 : k < b.size := by have := Hl.out; omega
        obtain ⟨y, hy, hy2, hyl⟩ := byteI b k hlt2
        rw [Ha.out] at hxl
        rw [Hb.out] at hyl
        have Hx := Lib.hid (pl_get A k x hxl)
        have Hy := Lib.hid (pl_get B k y hyl)
        have k0 : (0 : Int) ≤ (k : Int) := by omega
        have k1 : (k : Int) < (a.size : Int) := by omega
        have k2 : (k : Int) < (b.size : Int) := by omega
        clear hxl hyl
        by_cases hxy : x = y
        · subst hxy
          have hne' : ((x : Int) != (x : Int)) = false := by simp
          have Hp := Lib.hid (show A.take (k + 1) = B.take (k + 1) from by
            rw [List.take_add_one, List.take_add_one, Hpre.out]
            have h1 := Hx.out
            have h2 := Hy.out
            have hA : k < A.length := by rw [La.out]; exact hlt
            have hB : k < B.length := by rw [Lb.out]; exact hlt2
            rw [List.getD_eq_getElem?_getD, List.getElem?_eq_getElem hA] at h1
            rw [List.getD_eq_getElem?_getD, List.getElem?_eq_getElem hB] at h2
            rw [List.getElem?_eq_getElem hA, List.getElem?_eq_getElem hB]
            simp only [Option.getD_some] at h1 h2
            simp only [Option.toList_some]
            rw [show A[k] = B[k] by omega])
          go_wp2_with fail
          go_quiet (fail)
          go_wp2
          go_roundw
          case rel => exact ⟨k + 1, _, by omega, by go_num, Hp.out, rfl⟩
          case measure => simp [intOf]; omega
        · have hne' : ((x : Int) != (y : Int)) = true := by rw [bne_iff_ne]; omega
          have Hfin := Lib.hid (show V = decide (x < y) from by
            rw [← HV.out, decide_eq_decide, val_lt_iff A B (by rw [La.out, Lb.out, Hl.out]) CA.out.2.1 CB.out.2.1 k (by rw [La.out]; exact hlt) Hpre.out (by have := Hx.out; have := Hy.out; omega)]
            have := Hx.out
            have := Hy.out
            omega)
          go_wp2_with fail
          go_quiet (fail)
          go_wp2_with fail
          go_quiet (fail)
          go_wp2
          go_ret
          exact ⟨retb (by rw [Hfin.out]), _, by rw [World.drewN_drewN, World.drewN_drewN]⟩
      · have hka : k = a.size := by omega
        have Hfin := Lib.hid (show V = false from by
          rw [← HV.out, decide_eq_false_iff_not]
          have h1 := Hpre.out
          rw [List.take_of_length_le (by rw [La.out]; omega), List.take_of_length_le (by rw [Lb.out]; have := Hl.out; omega)] at h1
          rw [h1]; omega)
        clear hka
        go_wp2
        go_ret
        exact ⟨retb Hfin.out, _, rfl⟩
  · have hne : ((a.size : Int) != (b.size : Int)) = true := by rw [bne_iff_ne]; omega
    have Hfin := Lib.hid (show decide (val A < val B) = decide (a.size < b.size) from by
      rw [decide_eq_decide]
      constructor
      · intro h
        rcases Nat.lt_or_ge a.size b.size with h1 | h1
        · exact h1
        · rcases len_lt_val CB.out.2.1 CA.out (show B.length < A.length by omega) with h2 | h2
          · omega
          · exact absurd h2 CB.out.1
      · intro h
        rcases len_lt_val CA.out.2.1 CB.out (show A.length < B.length by omega) with h2 | h2
        · exact h2
        · exact absurd h2 CA.out.1)
    clear hl la lb
    go_enter Try.func56, Try.ntmps56
    go_wp2
    go_ret
    exact ⟨retb (by rw [Hfin.out]), 0, rfl⟩
theorem formB_parts {s : ByteArray} (h : formB (lst s) = true) : Canon (ds (strip (lst s))) ∧ strip (lst s) = pl (ds (strip (lst s))) ∧ 0 < s.size := by
  have hok := h
  rw [← ok_form] at hok
  refine ⟨ok_canon hok, (ds_back _ (ok_parts hok).2.1).symm, ?_⟩
  rw [← lst_length]
  have := (ok_parts hok).1
  cases hl : lst s with
  | nil => rw [hl] at this; exact absurd rfl this
  | cons _ _ => simp
theorem quiet_below {a b : ByteArray} {A B : List Nat} {w : World} (ha : lst a = pl A) (hb : lst b = pl B) (cA : Canon A) (cB : Canon B) (sa : a.size ≤ 1000) (sb : b.size ≤ 1000) :
    Calls Try.prog 56 #[.string a, .string b] w fun r w' => r = .returned (.bool (decide (val A < val B))) ∧ ∃ n, w' = w.drewN n := below_any a b A B w ha hb cA cB sa sb
set_option maxHeartbeats 1000000 in
theorem less_any (a b : ByteArray) (w : World) (ha : formB (lst a) = true) (hb : formB (lst b) = true) (sa : a.size ≤ 1000) (sb : b.size ≤ 1000) :
    Calls Try.prog 43 #[.string a, .string b] w fun r w' => r = .returned (.bool (decide (sval (lst a) < sval (lst b)))) ∧ ∃ n, w' = w.drewN n := by
  obtain ⟨cA, lA, a0⟩ := formB_parts ha
  obtain ⟨cB, lB, b0⟩ := formB_parts hb
  obtain ⟨x, hx, hx2, hxl⟩ := byteI a 0 a0
  obtain ⟨y, hy, hy2, hyl⟩ := byteI b 0 b0
  have nx : neg (lst a) = decide (x = 45) := by unfold neg; rw [head_of hxl]; simp
  have ny : neg (lst b) = decide (y = 45) := by unfold neg; rw [head_of hyl]; simp
  have qx := strip_is hxl
  have qy := strip_is hyl
  have za : (1 : Int) ≤ a.size := by omega
  have zb : (1 : Int) ≤ b.size := by omega
  have pa := fun h => neg_pos ha h
  have pb := fun h => neg_pos hb h
  have vA : sval (lst a) = if x = 45 then -(val (ds (strip (lst a))) : Int) else (val (ds (strip (lst a))) : Int) := by unfold sval; rw [nx]; simp
  have vB : sval (lst b) = if y = 45 then -(val (ds (strip (lst b))) : Int) else (val (ds (strip (lst b))) : Int) := by unfold sval; rw [ny]; simp
  rw [nx] at pa
  rw [ny] at pb
  generalize ds (strip (lst a)) = A at *
  generalize ds (strip (lst b)) = B at *
  clear nx ny ha hb hxl hyl
  by_cases h1 : x = 45
  · by_cases h2 : y = 45
    · rw [if_pos h1] at qx vA
      rw [if_pos h2] at qy vB
      have e1 := (lst_tail a).trans (qx.symm.trans lA)
      have e2 := (lst_tail b).trans (qy.symm.trans lB)
      have hc := fun w => @quiet_below _ _ _ _ w e2 e1 cB cA (by rw [ByteArray.size_extract]; omega) (by rw [ByteArray.size_extract]; omega)
      have hv : decide (sval (lst a) < sval (lst b)) = decide (val B < val A) := by rw [decide_eq_decide, vA, vB]; omega
      have Hc := Lib.hid hc
      rw [hv]
      clear hc hv e1 e2 qx qy vA vB lA lB pa pb cA cB
      subst h1 h2
      go_enter Try.func43, Try.ntmps43
      go_wp2_with fail
      go_quiet ((go_at_call 56; exact Calls.quiet_of (Hc.out _)))
      go_wp2
      go_ret
      exact ⟨rfl, _, rfl⟩
    · have hp := pa (decide_eq_true h1)
      rw [if_pos h1] at vA
      rw [if_neg h2] at vB
      have hv : decide (sval (lst a) < sval (lst b)) = true := by rw [decide_eq_true_iff, vA, vB]; omega
      rw [hv]
      clear hv qx qy vA vB lA lB pa pb cA cB
      have g2 : ((y : Int) == 45) = false := by rw [beq_eq_false_iff_ne]; omega
      subst h1
      go_enter Try.func43, Try.ntmps43
      go_wp2
      go_ret
      exact ⟨rfl, 0, rfl⟩
  · have g1 : ((x : Int) == 45) = false := by rw [beq_eq_false_iff_ne]; omega
    by_cases h2 : y = 45
    · have hp := pb (decide_eq_true h2)
      rw [if_neg h1] at vA
      rw [if_pos h2] at vB
      have hv : decide (sval (lst a) < sval (lst b)) = false := by rw [decide_eq_false_iff_not, vA, vB]; omega
      rw [hv]
      clear hv qx qy vA vB lA lB pa pb cA cB h1
      subst h2
      go_enter Try.func43, Try.ntmps43
      go_wp2
      go_ret
      exact ⟨rfl, 0, rfl⟩
    · have g2 : ((y : Int) == 45) = false := by rw [beq_eq_false_iff_ne]; omega
      rw [if_neg h1] at qx vA
      rw [if_neg h2] at qy vB
      have hc := fun w => @quiet_below _ _ _ _ w (qx.symm.trans lA) (qy.symm.trans lB) cA cB sa sb
      have hv : decide (sval (lst a) < sval (lst b)) = decide (val A < val B) := by rw [decide_eq_decide, vA, vB]; omega
      have Hc := Lib.hid hc
      rw [hv]
      clear hc hv qx qy vA vB lA lB pa pb cA cB h1 h2
      go_enter Try.func43, Try.ntmps43
      go_wp2_with (go_at_call 56; refine (Hc.out _).mono ?_; rintro r w' ⟨rfl, n, rfl⟩)
      go_ret
      exact ⟨rfl, _, rfl⟩
end Go.Proofs.Ytcnejokbldohlaa
