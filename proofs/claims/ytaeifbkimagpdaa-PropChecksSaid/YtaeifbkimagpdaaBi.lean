/- Package bits: Less, and the reference's. -/
import Derived.Test.YtaeifbkimagpdaaBh
namespace Go.Proofs.Ytaeifbkimagpdaa
set_option linter.unusedSimpArgs false
set_option linter.unusedVariables false
open Go.ChangeShapes Go.WideShapes Go.ChangeAt Go.RowKit
set_option linter.unusedVariables false
def cmpB (x y : Bool) : Int := if x = y then 0 else if y = true then -1 else 1
def cmpL : List Bool → List Bool → Int
  | [], [] => 0
  | [], _ :: _ => -1
  | _ :: _, [] => 1
  | x :: a, y :: b => if x = y then cmpL a b else cmpB x y
def lessL (a b : List Bool) : Bool := decide (cmpL a b < 0)
theorem cmpB_any (x y : Bool) (w : World) : Calls Try.prog 49 #[.bool x, .bool y] w fun e w' => e = .returned (.int .i64 (cmpB x y)) ∧ w = w' := by
  cases x <;> cases y
  all_goals
    go_enter Try.func49, Try.ntmps49
    go_wp2
    go_ret
    exact ⟨rfl, rfl⟩
theorem cmpL_step {l r : List Bool} {k : Nat} (hl : k < l.length) (hr : k < r.length) : cmpL (l.drop k) (r.drop k) = if l[k] = r[k] then cmpL (l.drop (k + 1)) (r.drop (k + 1)) else cmpB l[k] r[k] := by
  rw [List.drop_eq_getElem_cons hl, List.drop_eq_getElem_cons hr]; rfl
theorem cmpL_endl {l r : List Bool} {k : Nat} (hl : k = l.length) (hr : k < r.length) : cmpL (l.drop k) (r.drop k) = -1 := by
  rw [List.drop_of_length_le (by omega), List.drop_eq_getElem_cons hr]; rfl
theorem cmpL_endr {l r : List Bool} {k : Nat} (hl : k < l.length) (hr : k = r.length) : cmpL (l.drop k) (r.drop k) = 1 := by
  rw [List.drop_eq_getElem_cons hl, List.drop_of_length_le (l := r) (by omega)]; rfl
theorem cmpL_end {l r : List Bool} {k : Nat} (hl : k = l.length) (hr : k = r.length) : cmpL (l.drop k) (r.drop k) = 0 := by
  rw [List.drop_of_length_le (by omega), List.drop_of_length_le (by omega)]; rfl
set_option maxHeartbeats 1000000 in
theorem cmpf_any (w : World) (B : Nat) (A C : Option Addr) (n m ca cb : Nat) (l r : List Bool) (hn : l.length = n) (hm : r.length = m) (hA : RL w B 1 A n (bools l)) (hC : RL w B 1 C m (bools r)) (sn : n ≤ 4000000000000) (sm : m ≤ 4000000000000) :
    Calls Try.prog 48 #[.slice A n ca, .slice C m cb, .func (.func 49) #[] #[]] w fun e w' => e = .returned (.int .i64 (cmpL l r)) ∧ w = w' := by
  generalize hV : cmpL l r = V at *
  have HV := Lib.hid hV
  have Hn := Lib.hid hn
  have Hm := Lib.hid hm
  have HA := Lib.hid hA
  have HC := Lib.hid hC
  clear hV hn hm hA hC
  go_enter Try.func48, Try.ntmps48
  go_wp2
  go_loop [13] (fun i => ∃ k : Nat, k ≤ n ∧ i = .int .i64 k ∧ k ≤ m ∧ Hid (cmpL (l.drop k) (r.drop k) = V)) (fun i => (n - intOf i).toNat)
  case atStart => exact ⟨0, by omega, rfl, by omega, HV.out⟩
  case round =>
    obtain ⟨k, hk, rfl, hkm, hpre⟩ := hrel
    by_cases hlt : k < n
    · obtain ⟨b, o, rfl, _, hc⟩ := HA.out.at_ (by omega)
      have hl : k < l.length := by rw [Hn.out]; exact hlt
      have e1 := hc k (by omega)
      rw [bools_get _ _ hl] at e1
      have k1 : (k : Int) < (n : Int) := by omega
      have k0 : (0 : Int) ≤ (k : Int) := by omega
      by_cases hltm : k < m
      · obtain ⟨b', o', rfl, _, hc'⟩ := HC.out.at_ (by omega)
        have hr : k < r.length := by rw [Hm.out]; exact hltm
        have e2 := hc' k (by omega)
        rw [bools_get _ _ hr] at e2
        have k2 : (k : Int) < (m : Int) := by omega
        have hst := cmpL_step hl hr
        rw [hpre.out] at hst
        generalize l[k] = x at *
        generalize r[k] = y at *
        clear hc hc' hl hr hpre
        by_cases hxy : x = y
        · subst hxy
          rw [if_pos rfl] at hst
          have Hst := Lib.hid hst
          have Hz := Lib.hid (show cmpB x x = 0 from by unfold cmpB; rw [if_pos rfl])
          clear hst
          go_wp2_with (go_at_call 49; refine (cmpB_any _ _ _).mono ?_; rw [Hz.out]; rintro e w' ⟨rfl, rfl⟩)
          go_round
          case rel => exact ⟨k + 1, by omega, by go_num, by omega, Hst.out.symm⟩
          case measure => simp [intOf]; omega
        · rw [if_neg hxy] at hst
          have Hst := Lib.hid hst
          have hnz : ((cmpB x y) != 0) = true := by unfold cmpB; rw [if_neg hxy]; cases y <;> rfl
          clear hst hxy
          go_wp2_with (go_at_call 49; refine (cmpB_any _ _ _).mono ?_; rintro e w' ⟨rfl, rfl⟩)
          go_ret
          exact ⟨reti Hst.out, rfl⟩
      · have hke : k = m := by omega
        subst hke
        have Hst := Lib.hid (hpre.out.symm.trans (cmpL_endr hl Hm.out.symm))
        generalize l[k] = x at *
        clear hpre hc hl
        go_wp2
        go_ret
        exact ⟨reti Hst.out, rfl⟩
    · have hke : k = n := by omega
      subst hke
      by_cases hltm : k < m
      · have Hst := Lib.hid (hpre.out.symm.trans (cmpL_endl Hn.out.symm (by rw [Hm.out]; exact hltm)))
        clear hpre
        go_wp2
        go_ret
        exact ⟨reti Hst.out, rfl⟩
      · have Hst := Lib.hid (hpre.out.symm.trans (cmpL_end Hn.out.symm (by rw [Hm.out]; omega)))
        clear hpre
        go_wp2
        go_ret
        exact ⟨reti Hst.out, rfl⟩
theorem less_any (w : World) (B : Nat) (A C : Option Addr) (n m ca cb : Nat) (l r : List Bool) (hn : l.length = n) (hm : r.length = m) (hA : RL w B 1 A n (bools l)) (hC : RL w B 1 C m (bools r)) (sn : n ≤ 4000000000000) (sm : m ≤ 4000000000000) :
    Calls Try.prog 22 #[.slice A n ca, .slice C m cb] w fun e w' => e = .returned (.bool (lessL l r)) ∧ w = w' := by
  have C1 := Lib.hid (cmpf_any w B A C n m ca cb l r hn hm hA hC sn sm)
  clear hA hC hn hm
  go_enter Try.func22, Try.ntmps22
  go_wp2_with (go_at_call 48; refine C1.out.mono ?_; rintro e w' ⟨rfl, rfl⟩)
  go_ret
  exact ⟨rfl, rfl⟩
set_option maxHeartbeats 1000000 in
theorem rless_any (w : World) (B : Nat) (A C : Option Addr) (n m ca cb : Nat) (l r : List Bool) (hn : l.length = n) (hm : r.length = m) (hA : RL w B 1 A n (bools l)) (hC : RL w B 1 C m (bools r)) (sn : n ≤ 4000000000000) (sm : m ≤ 4000000000000) :
    Calls Try.prog 23 #[.slice A n ca, .slice C m cb] w fun e w' => e = .returned (.bool (lessL l r)) ∧ ∃ k, w' = w.drewN k := by
  generalize hV : cmpL l r = V at *
  have hW : lessL l r = decide (V < 0) := by unfold lessL; rw [hV]
  generalize hL : lessL l r = L at *
  have HL := Lib.hid hW
  have HV := Lib.hid hV
  have Hn := Lib.hid hn
  have Hm := Lib.hid hm
  have HA := Lib.hid hA
  have HC := Lib.hid hC
  clear hV hn hm hA hC hW hL
  go_enter Try.func23, Try.ntmps23
  go_wp2
  go_loopw [5] (fun i wr => ∃ k j : Nat, k ≤ n ∧ i = .int .i64 k ∧ k ≤ m ∧ Hid (cmpL (l.drop k) (r.drop k) = V) ∧ wr = w.drewN j) (fun i _ => (n - intOf i).toNat)
  case atStart => exact ⟨0, 0, by omega, rfl, by omega, HV.out, rfl⟩
  case round =>
    obtain ⟨k, j, hk, rfl, hkm, hpre, rfl⟩ := hrel
    by_cases hlt : k < n ∧ k < m
    · obtain ⟨hlt, hltm⟩ := hlt
      obtain ⟨b, o, rfl, _, hc⟩ := HA.out.at_ (by omega)
      have hl : k < l.length := by rw [Hn.out]; exact hlt
      have e1 := hc k (by omega)
      rw [bools_get _ _ hl] at e1
      have k1 : (k : Int) < (n : Int) := by omega
      have k0 : (0 : Int) ≤ (k : Int) := by omega
      obtain ⟨b', o', rfl, _, hc'⟩ := HC.out.at_ (by omega)
      have hr : k < r.length := by rw [Hm.out]; exact hltm
      have e2 := hc' k (by omega)
      rw [bools_get _ _ hr] at e2
      have k2 : (k : Int) < (m : Int) := by omega
      have hst := cmpL_step hl hr
      rw [hpre.out] at hst
      generalize l[k] = x at *
      generalize r[k] = y at *
      clear hc hc' hl hr hpre
      by_cases hxy : x = y
      · subst hxy
        rw [if_pos rfl] at hst
        have Hst := Lib.hid hst
        clear hst
        go_wp2_with fail
        go_quiet (fail)
        go_wp2
        go_roundw
        case rel => exact ⟨k + 1, _, by omega, by go_num, by omega, Hst.out.symm, rfl⟩
        case measure => simp [intOf]; omega
      · rw [if_neg hxy] at hst
        have Hst := Lib.hid (show L = y from by rw [HL.out, hst]; unfold cmpB; rw [if_neg hxy]; cases y <;> rfl)
        have hb : (x != y) = true := by rw [bne_iff_ne]; exact hxy
        have hb2 : (x == y) = false := by rw [beq_eq_false_iff_ne]; exact hxy
        clear hst hxy
        go_wp2_with fail
        go_quiet (fail)
        go_wp2
        go_ret
        exact ⟨retb Hst.out, _, rfl⟩
    · have hcase : (k = n ∧ k = m) ∨ (k = n ∧ k < m) ∨ (k < n ∧ k = m) := by omega
      rcases hcase with ⟨h1, h2⟩ | ⟨h1, h2⟩ | ⟨h1, h2⟩
      · have Hst := Lib.hid (show L = decide (n < m) from by rw [HL.out, ← hpre.out, cmpL_end (h1.trans Hn.out.symm) (h2.trans Hm.out.symm)]; simp; omega)
        subst h1
        subst h2
        clear hpre hlt
        go_wp2
        go_ret
        exact ⟨retb (by rw [Hst.out]; simp), _, rfl⟩
      · have Hst := Lib.hid (show L = true from by rw [HL.out, ← hpre.out, cmpL_endl (h1.trans Hn.out.symm) (by rw [Hm.out]; exact h2)]; rfl)
        subst h1
        clear hpre hlt
        go_wp2
        go_ret
        exact ⟨retb (by first | exact Hst.out | (rw [Hst.out]; simp [h2])), _, rfl⟩
      · have Hst := Lib.hid (show L = false from by rw [HL.out, ← hpre.out, cmpL_endr (by rw [Hn.out]; exact h1) (h2.trans Hm.out.symm)]; rfl)
        subst h2
        clear hpre hlt
        go_wp2
        go_ret
        exact ⟨retb (by first | exact Hst.out | (rw [Hst.out]; simp; omega)), _, rfl⟩
end Go.Proofs.Ytaeifbkimagpdaa
