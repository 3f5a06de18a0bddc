/- events.Right, the reference's Plan and Right. -/
import Derived.Test.YtmgjoggffnogfaaDoorWr
namespace Go.Proofs.YtmgjoggffnogfaaDoor
set_option linter.unusedSimpArgs false
set_option linter.unusedVariables false
open Go.RowKit
set_option linter.unusedVariables false
def riE (vars : Int) (l : List Ev) : Int := if vars < 0 ∨ 64 < vars then 2 else plE vars.toNat 0 l
theorem stP_vars {E w : World} {I : PH} {ms : List PH} {S L P V1 V2 A T n : Nat} {room : Int} {v : Value} {m : PH} {l : List (Nat × Nat)} (h : Sat E I (stP S L P V1 V2 A T n room v m l ++ ms) w) : VarsAt (heapOf w) S n := by
  refine ⟨L, some ⟨V1, 0, none⟩, n, ?_, ?_⟩
  · refine PH.at_le (h.own (PH.one S (.cells (stV L P v) 93)) ?_) (PH.one_at _ rfl)
    simp [stP]
  · refine PH.at_le (h.own (PH.one L (.cells #[vSl n V1, vSl n V2] 90)) ?_) (PH.one_at _ rfl)
    simp [stP]
theorem dplan_new (E : World) (I : PH) (ms : List PH) (X M H S L P V1 V2 A T : Nat) (n : Nat) (room : Int) (v : Value) (m : PH) (tl : List (Nat × Nat)) (hn : n ≤ 64) (l : List Ev) (lv : Value) (w : World) (hR : RowG I evC lv l)
    (hS : Sat E I (PH.one X (.cells (manV S M H 2 (.slice none 0 0) 0) 69) :: PH.one M (.cells mmV 98) :: PH.one H (mapObj ikey h1R 2) :: stP S L P V1 V2 A T n room v m tl ++ ms) w) :
    Calls Tryd.prog 13 #[vPt X, lv] w fun e w' => e = .returned (.int .i64 (plE n 0 l)) ∧ Sat E I [] w' := by
  have hS1 := hS.empty.perm (List.Perm.swap _ _ _)
  refine (plan_any E I _ X S M H 2 (.slice none 0 0) 0 [] _ n lv l w hn (by simp) (OwnP.nil _ _) hR (fun w h => ?_) hS1).mono ?_
  · exact stP_vars h.drop.drop
  · rintro e w ⟨rfl, hp⟩
    obtain ⟨wv, mw, ws, c, _, _, hS2⟩ := hp
    exact ⟨rfl, hS2.sub (List.nil_sublist _)⟩
set_option maxHeartbeats 1000000 in
theorem right_any (E : World) (I : PH) (vars : Int) (lv : Value) (l : List Ev) (w : World) (hR : RowG I evC lv l) (hS : Sat E I [] w) :
    Calls Tryd.prog 10 #[.int .i64 vars, lv] w fun e w' => e = .returned (.int .i64 (riE vars l)) ∧ Sat E I [] w' := by
  by_cases hv : vars < 0 ∨ 64 < vars
  · have hr : riE vars l = 2 := by unfold riE; rw [if_pos hv]
    rw [hr]
    go_enter Tryd.func10, Tryd.ntmps10
    go_wp2_with (first | (go_at_call 12; (with_reducible refine Calls.mono (dnew_bad _ _ _ (by omega)) ?_); rintro e w' ⟨rfl, rfl⟩))
    go_ret
    exact ⟨rfl, hS⟩
  · obtain ⟨n, rfl⟩ : ∃ n : Nat, vars = (n : Int) := ⟨vars.toNat, by omega⟩
    have hr : riE (n : Int) l = plE n 0 l := by unfold riE; rw [if_neg hv]; simp
    rw [hr]
    have hn : n ≤ 64 := by omega
    clear hr hv
    go_enter Tryd.func10, Tryd.ntmps10
    go_wp2_with (first | (go_at_call 12; (with_reducible refine Calls.mono (dnew_ok _ _ _ _ _ _ hn (by omega) (by omega) hS) ?_); clear hS; rintro e w ⟨X, M, H, S, L, P, V1, V2, A, T, v, m, tl, rfl, htl, hO, hS⟩) | (go_at_call 13; (with_reducible refine Calls.mono (dplan_new _ _ _ _ _ _ _ _ _ _ _ _ _ _ _ _ _ _ hn _ _ _ hR hS) ?_); clear hS; rintro e w ⟨rfl, hS⟩))
    go_ret
    exact ⟨rfl, hS⟩
end Go.Proofs.YtmgjoggffnogfaaDoor
