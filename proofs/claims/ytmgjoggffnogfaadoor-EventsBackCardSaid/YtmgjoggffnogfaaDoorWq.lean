/- dd.New, Vars. -/
import Derived.Test.YtmgjoggffnogfaaDoorWp
namespace Go.Proofs.YtmgjoggffnogfaaDoor
set_option linter.unusedSimpArgs false
set_option linter.unusedVariables false
open Go.RowKit
set_option linter.unusedVariables false
theorem ty_agg61 : aggB Tryd.prog 61 = some false := by kernel_rfl
theorem ty_sz61 : sizeB Tryd.prog 61 = some 1 := by kernel_rfl
theorem ty_z61 : zeroB Tryd.prog 61 = some (.pointer none) := by kernel_rfl
theorem ty_agg66 : aggB Tryd.prog 66 = some false := by kernel_rfl
theorem ty_sz66 : sizeB Tryd.prog 66 = some 1 := by kernel_rfl
theorem ty_z66 : zeroB Tryd.prog 66 = some (.pointer none) := by kernel_rfl
theorem ty_agg65 : aggB Tryd.prog 65 = some false := by kernel_rfl
theorem ty_sz65 : sizeB Tryd.prog 65 = some 1 := by kernel_rfl
theorem ty_z65 : zeroB Tryd.prog 65 = some (.map none) := by kernel_rfl
theorem ty_agg22 : aggB Tryd.prog 22 = some false := by kernel_rfl
theorem ty_sz22 : sizeB Tryd.prog 22 = some 1 := by kernel_rfl
theorem ty_z22 : zeroB Tryd.prog 22 = some (.slice none 0 0) := by kernel_rfl
theorem ty_agg31 : aggB Tryd.prog 31 = some false := by kernel_rfl
theorem ty_sz31 : sizeB Tryd.prog 31 = some 1 := by kernel_rfl
theorem ty_z31 : zeroB Tryd.prog 31 = some (.pointer none) := by kernel_rfl
theorem ty_agg47 : aggB Tryd.prog 47 = some true := by kernel_rfl
theorem ty_sz47 : sizeB Tryd.prog 47 = some 3 := by kernel_rfl
theorem ty_z47 : zeroB Tryd.prog 47 = some (.agg #[.int .i64 0, .int .i64 0, .int .i64 0]) := by kernel_rfl
theorem kI : Key Tryd.prog 3 ikey := key_int Tryd.underlying3
def h0R : List (Rw Int) := [⟨0, .int .i64 1, 0⟩]
def h1R : List (Rw Int) := [⟨0, .int .i64 1, 0⟩, ⟨1, .int .i64 0, 1⟩]
theorem h0R_ok : MapOk h0R 1 := ⟨by decide, by decide, by decide⟩
def manV (S M H : Nat) (next : Int) (waits : Value) (calls : Int) : Array Value := #[vPt S, vPt M, .map (some H), .int .i64 next, waits, .int .i64 calls]
def mmV : Array Value := #[.int .i64 4096, .slice none 0 0, .int .i64 0, .int .i64 0]
theorem dnew_bad (vars room : Int) (w : World) (h : vars < 0 ∨ 64 < vars ∨ room < 1 ∨ 1048576 < room) : Calls Tryd.prog 12 #[.int .i64 vars, .int .i64 room] w fun e w' => e = .returned (.tuple #[.pointer none, .int .i64 2]) ∧ w = w' := by
  go_enter Tryd.func12, Tryd.ntmps12
  go_wp2_with (go_at_call 26; (with_reducible refine Calls.mono (nnew_bad _ _ _ h) ?_); rintro e w' ⟨rfl, rfl⟩)
  go_ret2
  exact ⟨rfl, rfl⟩
set_option maxHeartbeats 4000000 in
set_option maxRecDepth 100000 in
theorem dnew_ok (E : World) (I : PH) (ms : List PH) (n : Nat) (room : Int) (w : World) (hn : n ≤ 64) (h1 : 1 ≤ room) (h2 : room ≤ 1048576) (hS : Sat E I ms w) :
    Calls Tryd.prog 12 #[.int .i64 (n : Int), .int .i64 room] w fun e w' => ∃ X M H S L P V1 V2 A T v m l, e = .returned (.tuple #[vPt X, .int .i64 0]) ∧ l.length = n ∧ OwnP m 94 1 v n (tabVs l) ∧
      Sat E I (PH.one X (.cells (manV S M H 2 (.slice none 0 0) 0) 69) :: PH.one M (.cells mmV 98) :: PH.one H (mapObj ikey h1R 2) :: stP S L P V1 V2 A T n room v m l ++ ms) w' := by
  go_enter Tryd.func12, Tryd.ntmps12
  go_wp2_with (first
    | (go_at_call 26; (with_reducible refine Calls.mono (nnew_ok _ _ _ _ _ _ hn h1 h2 hS) ?_); clear hS; rintro e w ⟨S, L, P, V1, V2, A, T, v, m, l, rfl, hl, hO, hS⟩; generalize hst : stP S L P V1 V2 A T n room v m l ++ ms = st at hS)
    | ((with_reducible refine isMakeMap ?_); refine mkM ikey hS rfl rfl ?_; clear hS; intro H w hS; (try simp only [Act.put, List.setIfInBounds_toArray, List.set_cons_succ, List.set_cons_zero]))
    | ((with_reducible refine isInsert ?_); refine inNew (x := 0) (l := []) hS 0 rfl kI Tryd.underlying65 rfl rfl rfl rfl rfl MapOk.nil rfl ?_; clear hS; intro w hS; (try simp only [List.set_cons_succ, List.set_cons_zero, List.setIfInBounds_toArray, Act.eval, Array.getD_eq_getD_getElem?, List.getElem?_toArray, List.getElem?_cons_succ, List.getElem?_cons_zero, Option.getD_some, Value.cells] at hS); (try simp only [Act.put, List.setIfInBounds_toArray, List.set_cons_succ, List.set_cons_zero]))
    | ((with_reducible refine isInsert ?_); refine inNew (x := 1) (l := h0R) hS 0 rfl kI Tryd.underlying65 rfl rfl rfl rfl rfl h0R_ok rfl ?_; clear hS; intro w hS; (try simp only [List.set_cons_succ, List.set_cons_zero, List.setIfInBounds_toArray, Act.eval, Array.getD_eq_getD_getElem?, List.getElem?_toArray, List.getElem?_cons_succ, List.getElem?_cons_zero, Option.getD_some, Value.cells] at hS); (try simp only [Act.put, List.setIfInBounds_toArray, List.set_cons_succ, List.set_cons_zero]))
    | (go_at_call 27; (with_reducible refine Calls.mono (mnew_any _ _ _ _ hS) ?_); clear hS; rintro e w ⟨M, rfl, hS⟩)
    | ((with_reducible refine atList ?_); first | ((with_reducible refine isBoxD 23 ?_); refine bx hS rfl rfl rfl ?_; clear hS; intro X w hS; (try simp only [Act.eval, Array.getD_eq_getD_getElem?, List.getElem?_toArray, List.getElem?_cons_succ, List.getElem?_cons_zero, Option.getD_some, Value.cells] at hS); (try simp only [Act.put, List.setIfInBounds_toArray, List.set_cons_succ, List.set_cons_zero])) | ((with_reducible refine isAllocD 23 ?_); (refine' al (z := _) hS rfl rfl ?ha ?_); (case ha => first | exact ty_z3); clear hS; intro X w hS; (try simp only [Act.eval, Array.getD_eq_getD_getElem?, List.getElem?_toArray, List.getElem?_cons_succ, List.getElem?_cons_zero, Option.getD_some, Value.cells] at hS); (try simp only [Act.put, List.setIfInBounds_toArray, List.set_cons_succ, List.set_cons_zero])) | ((with_reducible refine isGuard ?_); first | go_skip | ((with_reducible refine guarded_no ?hw ?_); (case hw => (simp only [Region.wanted, yielded, List.getElem?_toArray, List.getElem?_cons_succ, List.getElem?_cons_zero, Option.bind_some]; first | exact (rfl : (some true == some false) = false) | exact (rfl : (some false == some true) = false))); (try simp only [Act.put, List.setIfInBounds_toArray, List.set_cons_succ, List.set_cons_zero])) | ((with_reducible refine guarded_yes ?hw ?_); case hw => (simp only [Region.wanted, yielded, List.getElem?_toArray, List.getElem?_cons_succ, List.getElem?_cons_zero, Option.bind_some, beq_self_eq_true]; done)) | ((refine' guarded_cases (b := _) ?hy ?_ ?_); (case hy => (simp only [yielded, List.getElem?_toArray, List.getElem?_cons_succ, List.getElem?_cons_zero, Option.bind_some]; exact rfl)); all_goals (intro hb; (try simp only [Bool.not_true, Bool.not_false] at hb); (try simp only [hb]); (try simp only [Act.put, List.setIfInBounds_toArray, List.set_cons_succ, List.set_cons_zero]); first | ((have hf : False := by (simp at hb; done)); cases hf) | ((have hf : False := by (simp at hb; omega)); cases hf) | skip))) | ((with_reducible refine isLoad ?_); first | (refine ld1 0 hS rfl rfl ?ha rfl rfl rfl ?_; (case ha => first | exact ty_agg3); (try simp only [Act.put, List.setIfInBounds_toArray, List.set_cons_succ, List.set_cons_zero])) | ((refine' ldI1 (v := _) hS rfl rfl ?ha rfl ?hb ?_); (case ha => first | exact ty_agg3); (case hb => assumption); (try simp only [Act.put, List.setIfInBounds_toArray, List.set_cons_succ, List.set_cons_zero]))) | ((with_reducible refine isStore ?_); first | (refine st1 0 hS rfl rfl rfl rfl rfl ?ha rfl rfl ?hb ?_; (case ha => first | exact ty_sz3); (case hb => (simp; done)); clear hS; intro w hS; (try simp only [List.set_cons_succ, List.set_cons_zero, List.setIfInBounds_toArray, Act.eval, Array.getD_eq_getD_getElem?, List.getElem?_toArray, List.getElem?_cons_succ, List.getElem?_cons_zero, Option.getD_some, Value.cells] at hS); (try simp only [Act.put, List.setIfInBounds_toArray, List.set_cons_succ, List.set_cons_zero]))) | ((with_reducible refine isBox ?_); refine bx hS rfl rfl rfl ?_; clear hS; intro X w hS; (try simp only [Act.eval, Array.getD_eq_getD_getElem?, List.getElem?_toArray, List.getElem?_cons_succ, List.getElem?_cons_zero, Option.getD_some, Value.cells] at hS); (try simp only [Act.put, List.setIfInBounds_toArray, List.set_cons_succ, List.set_cons_zero])) | ((with_reducible refine isAlloc ?_); (refine' al (z := _) hS rfl rfl ?ha ?_); (case ha => first | exact ty_z3); clear hS; intro X w hS; (try simp only [Act.eval, Array.getD_eq_getD_getElem?, List.getElem?_toArray, List.getElem?_cons_succ, List.getElem?_cons_zero, Option.getD_some, Value.cells] at hS); (try simp only [Act.put, List.setIfInBounds_toArray, List.set_cons_succ, List.set_cons_zero]))))
  go_ret2
  subst hst
  exact ⟨X, M, H, S, L, P, V1, V2, A, T, v, m, l, rfl, hl, hO, hS⟩
end Go.Proofs.YtmgjoggffnogfaaDoor
