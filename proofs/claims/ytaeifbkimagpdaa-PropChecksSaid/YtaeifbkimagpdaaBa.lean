/- Slices that are read: where their elements lie; the reference's Same. -/
import Derived.Test.YtaeifbkimagpdaaRL
import Derived.Deep.QuietTactic
import Derived.BigQuiet
namespace Go.Proofs.Ytaeifbkimagpdaa
set_option linter.unusedSimpArgs false
set_option linter.unusedVariables false
open Go.ChangeShapes Go.WideShapes Go.ChangeAt Go.RowKit
set_option linter.unusedVariables false
def bools (l : List Bool) : List Value := l.map Value.bool
theorem bools_length (l : List Bool) : (bools l).length = l.length := by simp [bools]
theorem bools_get (l : List Bool) (k : Nat) (hk : k < l.length) : (bools l)[k]? = some (.bool l[k]) := by simp [bools, hk]
theorem retb {a b : Bool} (h : b = a) : Ending.returned (.bool a) = .returned (.bool b) := by rw [h]
theorem same_take {l m : List Bool} {k : Nat} (hl : k < l.length) (hm : k < m.length) (h : l.take k = m.take k) (e : l[k] = m[k]) : l.take (k + 1) = m.take (k + 1) := by
  rw [List.take_add_one, List.take_add_one, h, List.getElem?_eq_getElem hl, List.getElem?_eq_getElem hm, e]
set_option maxHeartbeats 1000000 in
theorem same_any (w : World) (B : Nat) (A C : Option Addr) (n m ca cb : Nat) (l r : List Bool) (hn : l.length = n) (hm : r.length = m) (hA : RL w B 1 A n (bools l)) (hC : RL w B 1 C m (bools r)) (sn : n ≤ 4000000000000) (sm : m ≤ 4000000000000) :
    Calls Try.prog 13 #[.slice A n ca, .slice C m cb] w fun e w' => e = .returned (.bool (decide (l = r))) ∧ ∃ k, w' = w.drewN k := by
  by_cases hnm : n = m
  · subst hnm
    have hne : ((n : Int) != (n : Int)) = false := by simp
    generalize hV : decide (l = r) = V at *
    have HV := Lib.hid hV
    have Hn := Lib.hid hn
    have Hm := Lib.hid hm
    have HA := Lib.hid hA
    have HC := Lib.hid hC
    clear hV hn hm hA hC
    go_enter Try.func13, Try.ntmps13
    go_wp2
    go_loopw [5] (fun i wr => ∃ k j : Nat, k ≤ n ∧ i = .int .i64 k ∧ l.take k = r.take k ∧ wr = w.drewN j) (fun i _ => (n - intOf i).toNat)
    case atStart => exact ⟨0, 0, by omega, rfl, rfl, rfl⟩
    case round =>
      obtain ⟨k, j, hk, rfl, hpre, rfl⟩ := hrel
      have Hpre := Lib.hid hpre
      clear hpre
      by_cases hlt : k < n
      · obtain ⟨b, o, rfl, _, hc⟩ := HA.out.at_ (by omega)
        obtain ⟨b', o', rfl, _, hc'⟩ := HC.out.at_ (by omega)
        have hl : k < l.length := by rw [Hn.out]; exact hlt
        have hr : k < r.length := by rw [Hm.out]; exact hlt
        have e1 := hc k (by omega)
        have e2 := hc' k (by omega)
        rw [bools_get _ _ hl] at e1
        rw [bools_get _ _ hr] at e2
        have hst := fun e => same_take hl hr Hpre.out e
        have hdf : l[k] ≠ r[k] → V = false := fun hne => by
          rw [← HV.out, decide_eq_false_iff_not]
          intro h
          subst h
          exact hne rfl
        generalize l[k] = x at *
        generalize r[k] = y at *
        have k1 : (k : Int) < (n : Int) := by omega
        have k0 : (0 : Int) ≤ (k : Int) := by omega
        clear hc hc' hl hr
        by_cases hxy : x = y
        · subst hxy
          have Hst := Lib.hid (hst rfl)
          clear hst hdf
          go_wp2_with fail
          go_quiet (fail)
          go_wp2
          go_roundw
          case rel => exact ⟨k + 1, _, by omega, by go_num, Hst.out, rfl⟩
          case measure => simp [intOf]; omega
        · have Hdf := Lib.hid (hdf hxy)
          have hb : (x != y) = true := by rw [bne_iff_ne]; exact hxy
          have hb2 : (x == y) = false := by rw [beq_eq_false_iff_ne]; exact hxy
          clear hst hdf hxy
          go_wp2_with fail
          go_quiet (fail)
          go_wp2
          go_ret
          exact ⟨retb Hdf.out, _, by rw [World.drewN_drewN]⟩
      · have Hfin := Lib.hid (show V = true from by
          rw [← HV.out, decide_eq_true_iff]
          have h := Hpre.out
          rwa [List.take_of_length_le (by rw [Hn.out]; omega), List.take_of_length_le (by rw [Hm.out]; omega)] at h)
        go_wp2
        go_ret
        exact ⟨retb Hfin.out, _, rfl⟩
  · have hne : ((n : Int) != (m : Int)) = true := by rw [bne_iff_ne]; omega
    have Hfin := Lib.hid (show decide (l = r) = false from by
      rw [decide_eq_false_iff_not]; intro h; subst h; omega)
    clear hnm hn hm hA hC
    go_enter Try.func13, Try.ntmps13
    go_wp2
    go_ret
    exact ⟨retb Hfin.out, 0, rfl⟩
end Go.Proofs.Ytaeifbkimagpdaa
