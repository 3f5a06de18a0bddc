/- uniq: the law's same of equal lists, lives. -/
import Derived.Test.YtmgjoggffnogfaaVp
namespace Go.Proofs.Ytmgjoggffnogfaa
set_option linter.unusedSimpArgs false
set_option linter.unusedVariables false
open Go.RowKit
set_option linter.unusedVariables false
set_option maxHeartbeats 1000000 in
theorem lsame_any (E w : World) (I : PH) (ms : List PH) (v v' : Value) (xs : List Ne) (hA : RowN I v xs) (hC : RowN I v' xs) (hl : xs.length ≤ 100000) (hS : Sat E I ms w) :
    Calls Try.prog 14 #[v, v'] w fun e w' => e = .returned (.bool true) ∧ Sat E I ms w' := by
  refine Calls.mono (R := fun e w' => e = .returned (.bool true) ∧ ∃ k, w' = w.drewN k) ?_ (fun e w' ⟨h1, k, h2⟩ => ⟨h1, by subst h2; exact hS.drewN k⟩)
  have hA := hA.le hS.ile
  have hC := hC.le hS.ile
  clear hS
  obtain ⟨A, ca, rfl, _⟩ := id hA
  obtain ⟨C, cb, rfl, _⟩ := id hC
  have hne : ((xs.length : Int) != (xs.length : Int)) = false := by simp
  have HA := Lib.hid hA
  have HC := Lib.hid hC
  clear hA hC
  go_enter Try.func14, Try.ntmps14
  go_wp2
  go_loopw [13] (fun i wr => ∃ k j : Nat, k ≤ xs.length ∧ i = .int .i64 k ∧ wr = w.drewN j) (fun i _ => (xs.length - intOf i).toNat)
  case atStart => exact ⟨0, 0, by omega, rfl, rfl⟩
  case round =>
    obtain ⟨k, j, hk, rfl, rfl⟩ := hrel
    by_cases hlt : k < xs.length
    · obtain ⟨b, o, rfl, hc⟩ := HA.out.at_ (List.getElem?_eq_getElem hlt)
      obtain ⟨b', o', rfl, hc'⟩ := HC.out.at_ (List.getElem?_eq_getElem hlt)
      generalize xs[k] = x at *
      have d0 := heap_at (PH.le.refl _) (hc 0 _ rfl)
      have d1 := heap_at (PH.le.refl _) (hc 1 _ rfl)
      have d2 := heap_at (PH.le.refl _) (hc 2 _ rfl)
      have e0 := heap_at (PH.le.refl _) (hc' 0 _ rfl)
      have e1 := heap_at (PH.le.refl _) (hc' 1 _ rfl)
      have e2 := heap_at (PH.le.refl _) (hc' 2 _ rfl)
      rw [Nat.add_zero] at d0 e0
      have k1 : (k : Int) < (xs.length : Int) := by omega
      have k0 : (0 : Int) ≤ (k : Int) := by omega
      clear hc hc'
      go_wp2_with fail
      go_quiet (fail)
      go_wp2
      go_roundw
      case rel => exact ⟨k + 1, _, by omega, by go_num, rfl⟩
      case measure => simp [intOf]; omega
    · go_wp2
      go_ret
      exact ⟨rfl, _, rfl⟩
set_option maxHeartbeats 1000000 in
theorem lives_any (E w : World) (I : PH) (ms : List PH) (hS : Sat E I ms w) : Calls Try.prog 7 #[] w fun e w' => e = .returned (.bool true) ∧ Sat E I ms w' := by
  go_enter Try.func7, Try.ntmps7
  go_wp2_with (go_at_call 6; ((with_reducible refine Calls.mono (new_any _ _ _ _ hS) ?_); clear hS; rintro e w ⟨g, M, rfl, hS⟩))
  refine (put_yes _ _ _ _ g M [] 0 1 0 7 hS MapOk.nil rfl).mono ?_
  clear hS
  rintro e w ⟨rfl, hS⟩
  go_wp2_with fail
  refine (put_no _ _ _ _ g M _ _ 1 0 8 7 hS rfl).mono ?_
  rintro e w' ⟨rfl, rfl⟩
  go_wp2_with fail
  refine (find_any _ g M _ _ 1 0 (hS.tb (.head _) (.tail _ (.head _)))).mono ?_
  rintro e w' ⟨rfl, rfl⟩
  have h1 : findE (putE [] 1 0 7 0) 1 0 = some 7 := rfl
  have h2 : findE (putE [] 1 0 7 0) 0 1 = none := rfl
  have h3 : (putE [] 1 0 7 0).length = 1 := rfl
  rw [h1]
  simp only [Option.getD_some, Option.isSome_some]
  go_wp2_with fail
  refine (find_any _ g M _ _ 0 1 (hS.tb (.head _) (.tail _ (.head _)))).mono ?_
  rintro e w' ⟨rfl, rfl⟩
  rw [h2]
  simp only [Option.getD_none, Option.isSome_none]
  go_wp2_with fail
  refine (len_any _ g M _ _ (hS.tb (.head _) (.tail _ (.head _)))).mono ?_
  rintro e w' ⟨rfl, rfl⟩
  rw [h3]
  go_wp2
  go_ret
  exact ⟨rfl, hS.drop.drop⟩
end Go.Proofs.Ytmgjoggffnogfaa
