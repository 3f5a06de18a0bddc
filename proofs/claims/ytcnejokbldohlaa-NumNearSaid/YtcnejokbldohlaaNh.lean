/- The walk of the reference's Parse. -/
import Derived.Test.YtcnejokbldohlaaNg
namespace Go.Proofs.Ytcnejokbldohlaa
open Go.ChangeShapes Go.WideShapes Go.ChangeAt Go.RowKit
set_option linter.unusedVariables false
theorem val_le_append (a b : List Nat) : val a ≤ val (a ++ b) := by
  induction b using snocRec with
  | nil => simp
  | snoc b d ih => rw [← List.append_assoc, val_snoc]; omega
theorem pre_step (D : List Nat) (k d : Nat) (h : D[k]? = some d) : val (D.take (k + 1)) = 10 * val (D.take k) + d ∧ val (D.take (k + 1)) ≤ val D := by
  refine ⟨by rw [List.take_add_one, h]; exact val_snoc _ _, ?_⟩
  have := val_le_append (D.take (k + 1)) (D.drop (k + 1))
  rwa [List.take_append_drop] at this
theorem ds_get {l : List Nat} {k c : Nat} (h : l[k]? = some c) : (ds l)[k]? = some (c - 48) := by simp [ds, h]
theorem dig_at {l : List Nat} {k c : Nat} (hl : l.all dig = true) (h : l[k]? = some c) : 48 ≤ c ∧ c ≤ 57 := by
  have := List.all_eq_true.1 hl c (List.mem_of_getElem? h)
  simpa [dig] using this
theorem prE_form {l : List Nat} {lo hi : Int} (h : formB l = false) : prN l lo hi = 0 ∧ prE l lo hi = 3 := by unfold prN prE; simp [h]
theorem prE_out {l : List Nat} {lo hi : Int} (h : formB l = true) (h2 : ¬ (lo ≤ sval l ∧ sval l ≤ hi)) : prN l lo hi = 0 ∧ prE l lo hi = 2 := by
  unfold prN prE; exact ⟨if_neg (fun h => h2 h.2), by rw [if_pos h, if_neg h2]⟩
theorem prE_in {l : List Nat} {lo hi : Int} (h : formB l = true) (h2 : lo ≤ sval l ∧ sval l ≤ hi) : prN l lo hi = sval l ∧ prE l lo hi = 0 := by
  unfold prN prE; exact ⟨if_pos ⟨h, h2⟩, by rw [if_pos h, if_pos h2]⟩
theorem retii {k k' : IntKind} {a b c d : Int} (h : b = a) (h' : d = c) : Ending.returned (.tuple #[.int k a, .int k' c]) = .returned (.tuple #[.int k b, .int k' d]) := by rw [h, h']
theorem textS_size (n : Int) (h : I64 n) : (textS n).size ≤ 20 := by
  rw [← lst_length, lst_textS]
  unfold txt
  rw [List.length_append, List.length_map]
  have := dg_len19 n h
  split <;> simp <;> omega
theorem Bdrew {B : Nat} {w w1 : World} {n : Nat} (h : Below B w w1) : Below B w (w1.drewN n) := h.trans ⟨rfl, rfl, rfl, Nat.le_refl _, fun _ _ => rfl⟩
set_option maxHeartbeats 2000000 in
theorem rparse_any (s : ByteArray) (lo hi : Int) (w : World) (hs : s.size ≤ 500) (hlo : I64 lo) (hhi : I64 hi) :
    Calls Try.prog 17 #[.string s, .int .i64 lo, .int .i64 hi] w fun r w' => r = .returned (.tuple #[.int .i64 (prN (lst s) lo hi), .int .i64 (prE (lst s) lo hi)]) ∧ Below w.heap.size w w' := by
  have c1 := fun w => form_any s w hs
  have C2 := Lib.hid (fun w => rtext_any lo w hlo)
  have C3 := Lib.hid (fun w => rtext_any hi w hhi)
  cases hf : formB (lst s)
  · rw [(prE_form hf).1, (prE_form hf).2]
    rw [hf] at c1
    have C1 := Lib.hid c1
    clear c1 hf hlo hhi
    go_enter Try.func17, Try.ntmps17
    go_wp2_with (go_at_call 42; refine (C1.out _).mono ?_; rintro r w' ⟨rfl, rfl⟩)
    go_ret2
    exact ⟨rfl, Below.refl _ _⟩
  · rw [hf] at c1
    have C1 := Lib.hid c1
    have c4 := fun w => less_any s (textS lo) w hf (by rw [lst_textS]; exact txt_form lo) (by omega) (by have := textS_size lo hlo; omega)
    have c5 := fun w => less_any (textS hi) s w (by rw [lst_textS]; exact txt_form hi) hf (by have := textS_size hi hhi; omega) (by omega)
    rw [lst_textS, txt_val] at c4 c5
    have l1 := hlo.1
    have h1 := hhi.2
    have Lhi := Lib.hid hhi
    have Llo := Lib.hid hlo
    by_cases q1 : sval (lst s) < lo
    · rw [(prE_out hf (by omega)).1, (prE_out hf (by omega)).2]
      rw [decide_eq_true q1] at c4
      have C4 := Lib.hid c4
      clear c1 c4 c5 hf q1 l1 h1
      go_enter Try.func17, Try.ntmps17
      go_wp2_with fail
      refine (C1.out _).mono ?_
      rintro r w' ⟨rfl, rfl⟩
      go_wp2_with fail
      refine (C2.out _).mono ?_
      rintro r w1 ⟨rfl, hb1⟩
      go_wp2_with fail
      refine (C4.out _).mono ?_
      rintro r w2 ⟨rfl, n2, rfl⟩
      go_wp2_with fail
      go_ret2
      exact ⟨rfl, Bdrew hb1⟩
    · rw [decide_eq_false q1] at c4
      have C4 := Lib.hid c4
      by_cases q2 : hi < sval (lst s)
      · rw [(prE_out hf (by omega)).1, (prE_out hf (by omega)).2]
        rw [decide_eq_true q2] at c5
        have C5 := Lib.hid c5
        clear c1 c4 c5 hf q1 q2 l1 h1
        go_enter Try.func17, Try.ntmps17
        go_wp2_with fail
        refine (C1.out _).mono ?_
        rintro r w' ⟨rfl, rfl⟩
        go_wp2_with fail
        refine (C2.out _).mono ?_
        rintro r w1 ⟨rfl, hb1⟩
        go_wp2_with fail
        refine (C4.out _).mono ?_
        rintro r w2 ⟨rfl, n2, rfl⟩
        go_wp2_with fail
        refine (C3.out _).mono ?_
        rintro r w3 ⟨rfl, hb3⟩
        go_wp2_with fail
        refine (C5.out _).mono ?_
        rintro r w4 ⟨rfl, n4, rfl⟩
        go_wp2_with fail
        go_ret2
        exact ⟨rfl, Bdrew ((Bdrew hb1).trans (hb3.mono hb1.size))⟩
      · rw [(prE_in hf (by omega)).1, (prE_in hf (by omega)).2]
        rw [decide_eq_false q2] at c5
        have C5 := Lib.hid c5
        obtain ⟨cD, lD, s0⟩ := formB_parts hf
        obtain ⟨x, hx, hx2, hxl⟩ := byteI s 0 s0
        have nx : neg (lst s) = decide (x = 45) := by unfold neg; rw [head_of hxl]; simp
        have qx := strip_is hxl
        have hall : (strip (lst s)).all dig = true := by have := hf; rw [← ok_form] at this; exact (ok_parts this).2.1
        have vS : sval (lst s) = if x = 45 then -(val (ds (strip (lst s))) : Int) else (val (ds (strip (lst s))) : Int) := by unfold sval; rw [nx]; simp
        generalize hv : sval (lst s) = v at *
        have Hall := Lib.hid hall
        have z0 : (1 : Int) ≤ s.size := by omega
        clear c1 c4 c5 hf nx lD hall hv hxl
        have v1 : -9223372036854775808 ≤ v := by omega
        have v2 : v ≤ 9223372036854775807 := by omega
        clear q1 q2 l1 h1
        go_enter Try.func17, Try.ntmps17
        go_wp2_with fail
        refine (C1.out _).mono ?_
        rintro r w' ⟨rfl, rfl⟩
        go_wp2_with fail
        refine (C2.out _).mono ?_
        rintro r w1 ⟨rfl, hb1⟩
        go_wp2_with fail
        refine (C4.out _).mono ?_
        rintro r w2 ⟨rfl, n2, rfl⟩
        go_wp2_with fail
        refine (C3.out _).mono ?_
        rintro r w3 ⟨rfl, hb3⟩
        go_wp2_with fail
        refine (C5.out _).mono ?_
        rintro r w4 ⟨rfl, n4, rfl⟩
        go_wp2_with fail
        have hbz : Below w.heap.size w ((w3.drewN n4)) := Bdrew ((Bdrew hb1).trans (hb3.mono hb1.size))
        have Hbz := Lib.hid hbz
        by_cases h45 : x = 45
        · rw [if_pos h45] at qx vS
          have hA : ∀ k c, 1 ≤ k → (lst s)[k]? = some c → (48 ≤ c ∧ c ≤ 57) ∧ (ds (strip (lst s)))[k - 1]? = some (c - 48) := by
            intro k c hk hc
            have h1 : (strip (lst s))[k - 1]? = some c := by
              rw [qx, List.getElem?_tail, show k - 1 + 1 = k by omega]; exact hc
            exact ⟨dig_at Hall.out h1, ds_get h1⟩
          have hlen : (ds (strip (lst s))).length = s.size - 1 := by rw [qx]; simp [ds, lst_length]
          generalize ds (strip (lst s)) = D at *
          have HA := Lib.hid hA
          have HL := Lib.hid hlen
          have HV := Lib.hid vS
          have HC := Lib.hid cD
          have hz : (s.size : Int) ≤ 500 := by omega
          clear hA hlen vS qx cD
          subst h45
          go_loop [8, 9] (fun n i => ∃ k : Nat, k ≤ s.size ∧ i = .int .i64 k ∧ n = .int .i64 (-(val (D.take (k - 1)) : Int))) (fun _ i => (s.size - intOf i).toNat)
          case atStart => exact ⟨0, by omega, rfl, by simp [val]⟩
          case round =>
            obtain ⟨k, hk, rfl, rfl⟩ := hrel
            by_cases hlt : k < s.size
            · by_cases hk0 : k = 0
              · subst hk0
                go_wp2
                go_round
                case rel => exact ⟨1, by omega, rfl, by simp [val]⟩
                case measure => simp [intOf]; omega
              · obtain ⟨c, hc, hc2, hcl⟩ := byteI s k hlt
                obtain ⟨⟨d1, d2⟩, hD⟩ := HA.out k c (by omega) hcl
                obtain ⟨e1, e2⟩ := pre_step D (k - 1) (c - 48) hD
                rw [show k - 1 + 1 = k by omega] at e1 e2
                have hV := HV.out
                have HE := Lib.hid e1
                have b1 : 10 * (val (D.take (k - 1)) : Int) + c ≤ 9223372036854775856 := by omega
                have d1' : (48 : Int) ≤ c := by omega
                have d2' : (c : Int) ≤ 57 := by omega
                have h45 : ((c : Int) == 45) = false := by rw [beq_eq_false_iff_ne]; omega
                clear hcl hD e1 e2 hV
                generalize val (D.take (k - 1)) = q at *
                go_wp2
                go_round
                case rel =>
                  go_light
                  refine ⟨k + 1, by omega, by go_num, ?_⟩
                  rw [show k + 1 - 1 = k by omega, HE.out]
                  congr 1
                  omega
                case measure => simp [intOf]; omega
            · have hks : k = s.size := by omega
              have HF := Lib.hid (show v = -(val (D.take (k - 1)) : Int) from by rw [HV.out, List.take_of_length_le (by rw [HL.out]; omega)])
              clear hks
              go_wp2
              go_ret2
              exact ⟨retii HF.out rfl, Hbz.out⟩
        · rw [if_neg h45] at qx vS
          have hA : ∀ k c : Nat, (lst s)[k]? = some c → (48 ≤ c ∧ c ≤ 57) ∧ (ds (strip (lst s)))[k]? = some (c - 48) := by
            intro k c hc
            have h1 : (strip (lst s))[k]? = some c := by rw [qx]; exact hc
            exact ⟨dig_at Hall.out h1, ds_get h1⟩
          have hlen : (ds (strip (lst s))).length = s.size := by rw [qx]; simp [ds, lst_length]
          generalize ds (strip (lst s)) = D at *
          have HA := Lib.hid hA
          have HL := Lib.hid hlen
          have HV := Lib.hid vS
          have hz : (s.size : Int) ≤ 500 := by omega
          have g45 : ((x : Int) == 45) = false := by rw [beq_eq_false_iff_ne]; omega
          clear hA hlen vS qx cD
          go_loop [8, 9] (fun n i => ∃ k : Nat, k ≤ s.size ∧ i = .int .i64 k ∧ n = .int .i64 (val (D.take k) : Int)) (fun _ i => (s.size - intOf i).toNat)
          case atStart => exact ⟨0, by omega, rfl, by simp [val]⟩
          case round =>
            obtain ⟨k, hk, rfl, rfl⟩ := hrel
            by_cases hlt : k < s.size
            · obtain ⟨c, hc, hc2, hcl⟩ := byteI s k hlt
              obtain ⟨⟨d1, d2⟩, hD⟩ := HA.out k c hcl
              obtain ⟨e1, e2⟩ := pre_step D k (c - 48) hD
              have hV := HV.out
              have HE := Lib.hid e1
              have b1 : 10 * (val (D.take k) : Int) + c ≤ 9223372036854775855 := by omega
              have d1' : (48 : Int) ≤ c := by omega
              have d2' : (c : Int) ≤ 57 := by omega
              have h45' : ((c : Int) == 45) = false := by rw [beq_eq_false_iff_ne]; omega
              clear hcl hD e1 e2 hV
              generalize val (D.take k) = q at *
              go_wp2
              go_round
              case rel =>
                go_light
                refine ⟨k + 1, by omega, by go_num, ?_⟩
                rw [HE.out]
                congr 1
                omega
              case measure => simp [intOf]; omega
            · have hks : k = s.size := by omega
              have HF := Lib.hid (show v = (val (D.take k) : Int) from by rw [HV.out, List.take_of_length_le (by rw [HL.out]; omega)])
              clear hks
              go_wp2
              go_ret2
              exact ⟨retii HF.out rfl, Hbz.out⟩
end Go.Proofs.Ytcnejokbldohlaa
