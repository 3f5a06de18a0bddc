/- Expressions: a tree that bears its slices' addresses; where it lies; what it means. -/
import Derived.Test.YtmhdcjjcddpciaaSb
import Derived.Test.YtmhdcjjcddpciaaSe
namespace Go.Proofs.Ytmhdcjjcddpciaa
set_option linter.unusedSimpArgs false
set_option linter.unusedVariables false
open Go.RowKit
inductive Tr where
  | mk (op var : Int) (A : Option Addr) (cap : Nat) (kids : List Tr)
namespace Tr
def op : Tr → Int | mk o _ _ _ _ => o
def var : Tr → Int | mk _ v _ _ _ => v
def A : Tr → Option Addr | mk _ _ a _ _ => a
def cap : Tr → Nat | mk _ _ _ c _ => c
def kids : Tr → List Tr | mk _ _ _ _ k => k
def cells (t : Tr) : List Value := [.int .i64 t.op, .int .i64 t.var, .slice t.A t.kids.length t.cap]
def val (t : Tr) : Value := .agg #[.int .i64 t.op, .int .i64 t.var, .slice t.A t.kids.length t.cap]
theorem val_cells (t : Tr) : t.val = .agg t.cells.toArray := rfl
end Tr
/-- The elements of a slice of expressions, from cell off of block X on. -/
def Row (I : PH) (A : Option Addr) (l : List Tr) : Prop :=
  l.length ≤ 9223372036854775807 ∧ (0 < l.length → ∃ X off, A = some ⟨X, off, none⟩ ∧ ∀ k t, l[k]? = some t → Cells I X (off + k * 3) t.cells)
/-- The tree lies in I. -/
inductive In (I : PH) : Tr → Prop
  | mk {op var : Int} {A : Option Addr} {cap : Nat} {kids : List Tr} : Row I A kids → (∀ t ∈ kids, In I t) → In I (.mk op var A cap kids)
theorem Row.le {I J : PH} (h : I.le J) {A : Option Addr} {l : List Tr} (hr : Row I A l) : Row J A l :=
  ⟨hr.1, fun hl => by
    obtain ⟨X, off, e, hc⟩ := hr.2 hl
    exact ⟨X, off, e, fun k t hk => (hc k t hk).le h⟩⟩
theorem In.le {I J : PH} (h : I.le J) {t : Tr} (ht : In I t) : In J t := by
  induction ht with
  | mk hr _ ih => exact .mk (hr.le h) ih
theorem In.row {I : PH} {t : Tr} (h : In I t) : Row I t.A t.kids := by cases h; assumption
theorem In.kid {I : PH} {t : Tr} (h : In I t) : ∀ k ∈ t.kids, In I k := by cases h; assumption
/-- The k-th operand: where it stands. -/
theorem In.at_ {I : PH} {t : Tr} (h : In I t) : 0 < t.kids.length → ∃ X off, t.A = some ⟨X, off, none⟩ ∧ ∀ k u, t.kids[k]? = some u → Cells I X (off + k * 3) u.cells ∧ In I u := fun hl => by
  obtain ⟨X, off, e, hc⟩ := h.row.2 hl
  exact ⟨X, off, e, fun k u hk => ⟨hc k u hk, h.kid u (List.mem_of_getElem? hk)⟩⟩
/-- How many operands an operator takes. -/
def few (op : Int) : Int := if op = 1 ∨ op = 2 ∨ op = 3 then 0 else if op = 4 then 1 else if op = 5 ∨ op = 6 ∨ op = 7 then 0 else if op = 8 ∨ op = 9 then 2 else if op = 10 then 3 else -1
def many (op : Int) : Int := if op = 1 ∨ op = 2 ∨ op = 3 then 0 else if op = 4 then 1 else if op = 5 ∨ op = 6 ∨ op = 7 then 64 else if op = 8 ∨ op = 9 then 2 else if op = 10 then 3 else -1
theorem ty_agg25 : aggB Try.prog 25 = some true := by kernel_rfl
theorem ty_sz25 : sizeB Try.prog 25 = some 3 := by kernel_rfl
theorem ty_z25 : zeroB Try.prog 25 = some (.agg #[.int .i64 0, .int .i64 0, .slice none 0 0]) := by kernel_rfl
theorem ty_agg3 : aggB Try.prog 3 = some false := by kernel_rfl
theorem ty_sz3 : sizeB Try.prog 3 = some 1 := by kernel_rfl
theorem ty_z3 : zeroB Try.prog 3 = some (.int .i64 0) := by kernel_rfl
theorem ty_agg4 : aggB Try.prog 4 = some false := by kernel_rfl
theorem ty_sz4 : sizeB Try.prog 4 = some 1 := by kernel_rfl
theorem ty_z4 : zeroB Try.prog 4 = some (.bool false) := by kernel_rfl
theorem ty_agg23 : aggB Try.prog 23 = some false := by kernel_rfl
theorem ty_sz23 : sizeB Try.prog 23 = some 1 := by kernel_rfl
theorem ty_z23 : zeroB Try.prog 23 = some (.slice none 0 0) := by kernel_rfl
theorem ty_agg26 : aggB Try.prog 26 = some false := by kernel_rfl
theorem ty_sz26 : sizeB Try.prog 26 = some 1 := by kernel_rfl
theorem ty_z26 : zeroB Try.prog 26 = some (.int .i64 0) := by kernel_rfl
set_option maxRecDepth 4000 in
theorem kids_any (op : Int) (w : World) : Calls Try.prog 40 #[.int .i64 op] w fun e w' => e = .returned (.tuple #[.int .i64 (few op), .int .i64 (many op)]) ∧ w' = w := by
  unfold few many
  by_cases h1 : op = 1 ∨ op = 2 ∨ op = 3
  · rcases h1 with rfl | rfl | rfl <;> (go_enter Try.func40, Try.ntmps40; go_wp2_with fail; go_ret2; exact ⟨rfl, rfl⟩)
  by_cases h2 : op = 4
  · subst h2; go_enter Try.func40, Try.ntmps40; go_wp2_with fail; go_ret2; exact ⟨rfl, rfl⟩
  by_cases h3 : op = 5 ∨ op = 6 ∨ op = 7
  · rcases h3 with rfl | rfl | rfl <;> (go_enter Try.func40, Try.ntmps40; go_wp2_with fail; go_ret2; exact ⟨rfl, rfl⟩)
  by_cases h4 : op = 8 ∨ op = 9
  · rcases h4 with rfl | rfl <;> (go_enter Try.func40, Try.ntmps40; go_wp2_with fail; go_ret2; exact ⟨rfl, rfl⟩)
  by_cases h5 : op = 10
  · subst h5; go_enter Try.func40, Try.ntmps40; go_wp2_with fail; go_ret2; exact ⟨rfl, rfl⟩
  simp only [not_or] at h1 h3 h4
  obtain ⟨a1, a2, a3⟩ := h1
  obtain ⟨b1, b2, b3⟩ := h3
  obtain ⟨c1, c2⟩ := h4
  rw [if_neg (by omega), if_neg h2, if_neg (by omega), if_neg (by omega), if_neg h5]
  go_enter Try.func40, Try.ntmps40
  go_wp2_with fail
  go_ret2
  exact ⟨rfl, rfl⟩
theorem rkids_any (op : Int) (w : World) : Calls Try.prog 41 #[.int .i64 op] w fun e w' => e = .returned (.tuple #[.int .i64 (few op), .int .i64 (many op)]) ∧ w' = w := by
  unfold few many
  by_cases h1 : op = 1 ∨ op = 2 ∨ op = 3
  · rcases h1 with rfl | rfl | rfl <;> (go_enter Try.func41, Try.ntmps41; go_wp2_with fail; go_ret2; exact ⟨rfl, rfl⟩)
  by_cases h2 : op = 4
  · subst h2; go_enter Try.func41, Try.ntmps41; go_wp2_with fail; go_ret2; exact ⟨rfl, rfl⟩
  by_cases h3 : op = 5 ∨ op = 6 ∨ op = 7
  · rcases h3 with rfl | rfl | rfl <;> (go_enter Try.func41, Try.ntmps41; go_wp2_with fail; go_ret2; exact ⟨rfl, rfl⟩)
  by_cases h4 : op = 8 ∨ op = 9
  · rcases h4 with rfl | rfl <;> (go_enter Try.func41, Try.ntmps41; go_wp2_with fail; go_ret2; exact ⟨rfl, rfl⟩)
  by_cases h5 : op = 10
  · subst h5; go_enter Try.func41, Try.ntmps41; go_wp2_with fail; go_ret2; exact ⟨rfl, rfl⟩
  simp only [not_or] at h1 h3 h4
  obtain ⟨a1, a2, a3⟩ := h1
  obtain ⟨b1, b2, b3⟩ := h3
  obtain ⟨c1, c2⟩ := h4
  rw [if_neg (by omega), if_neg h2, if_neg (by omega), if_neg (by omega), if_neg h5]
  go_enter Try.func41, Try.ntmps41
  go_wp2_with fail
  go_ret2
  exact ⟨rfl, rfl⟩
/-- What is wrong with one part. -/
def lenP (op : Int) (n : Nat) : Int := if (n : Int) < few op then 3 else if many op < (n : Int) then 3 else 0
def wrongP (op var : Int) (n : Nat) : Int := if few op < 0 then 11 else if op = 3 then (if var < 0 then 9 else if 64 ≤ var then 9 else lenP op n) else if var = 0 then lenP op n else 9
def Tr.wrong (t : Tr) : Int := wrongP t.op t.var t.kids.length
set_option maxHeartbeats 1000000 in
theorem wrong_any (E w : World) (I : PH) (ms : List PH) (op var : Int) (A : Option Addr) (n cap : Nat) (hS : Sat E I ms w) : Calls Try.prog 29 #[.agg #[.int .i64 op, .int .i64 var, .slice A n cap]] w fun e w' => e = .returned (.int .i64 (wrongP op var n)) ∧ Sat E I ms w' := by
  unfold wrongP lenP
  repeat' split
  all_goals (try subst_vars)
  all_goals (try have d1 : decide (var < 0) = false := by (simp; omega))
  all_goals (try have d2 : decide (var ≥ 64) = false := by (simp; omega))
  all_goals
    go_enter Try.func29, Try.ntmps29
    go_wp2_with (first | ((with_reducible refine atList ?_); first | ((with_reducible refine isGuard ?_); first | go_skip | (refine guarded_yes ?hw ?_; case hw => (simp only [Region.wanted, yielded, List.getElem?_toArray, List.getElem?_cons_succ, List.getElem?_cons_zero, Option.bind_some, beq_self_eq_true]; done)) | ((refine' guarded_cases (b := _) ?hy ?_ ?_); (case hy => (simp only [yielded, List.getElem?_toArray, List.getElem?_cons_succ, List.getElem?_cons_zero, Option.bind_some]; exact rfl)); all_goals (intro hb; (try simp only [Bool.not_true, Bool.not_false] at hb); (try simp only [hb]); (try simp only [Act.put, List.setIfInBounds_toArray, List.set_cons_succ, List.set_cons_zero]); first | ((have hf : False := by (simp at hb; done)); cases hf) | ((have hf : False := by (simp at hb; omega)); cases hf) | skip))) | ((with_reducible refine isLoad ?_); first | (refine ld1 0 hS rfl rfl ?ha rfl rfl rfl ?_; (case ha => first | exact ty_agg3 | exact ty_agg23); (try simp only [Act.put, List.setIfInBounds_toArray, List.set_cons_succ, List.set_cons_zero])) | (refine ldN 0 hS rfl rfl ?ha rfl rfl ?hb ?_; (case ha => first | exact ty_agg25); (case hb => first | exact ty_sz25); (try simp only [Act.put, List.setIfInBounds_toArray, List.set_cons_succ, List.set_cons_zero])) | ((refine' ldI1 (v := _) hS rfl rfl ?ha rfl ?hb ?_); (case ha => first | exact ty_agg3 | exact ty_agg23); (case hb => assumption); (try simp only [Act.put, List.setIfInBounds_toArray, List.set_cons_succ, List.set_cons_zero])) | ((refine' ldIN (vs := _) hS rfl rfl ?ha rfl ?hc ?hb ?_); (case ha => first | exact ty_agg25); (case hc => assumption); (case hb => first | exact ty_sz25); (try simp only [Act.put, List.setIfInBounds_toArray, List.set_cons_succ, List.set_cons_zero]))) | ((with_reducible refine isStore ?_); first | (refine st1 0 hS rfl rfl rfl rfl rfl ?ha rfl rfl ?hb ?_; (case ha => first | exact ty_sz3 | exact ty_sz23); (case hb => (simp; done)); clear hS; intro w hS; (try simp only [List.set_cons_succ, List.set_cons_zero, List.setIfInBounds_toArray, Act.eval, Array.getD_eq_getD_getElem?, List.getElem?_toArray, List.getElem?_cons_succ, List.getElem?_cons_zero, Option.getD_some, Value.cells] at hS); (try simp only [Act.put, List.setIfInBounds_toArray, List.set_cons_succ, List.set_cons_zero])) | (refine stN 0 hS rfl rfl rfl rfl rfl ?ha rfl rfl ?_; (case ha => first | exact ty_sz25); clear hS; intro w hS; (try simp only [List.set_cons_succ, List.set_cons_zero, List.setIfInBounds_toArray, Act.eval, Array.getD_eq_getD_getElem?, List.getElem?_toArray, List.getElem?_cons_succ, List.getElem?_cons_zero, Option.getD_some, Value.cells] at hS); (try simp only [Act.put, List.setIfInBounds_toArray, List.set_cons_succ, List.set_cons_zero]))) | ((with_reducible refine isBox ?_); refine bx hS rfl rfl rfl ?_; clear hS; intro X w hS; (try simp only [Act.eval, Array.getD_eq_getD_getElem?, List.getElem?_toArray, List.getElem?_cons_succ, List.getElem?_cons_zero, Option.getD_some, Value.cells] at hS); (try simp only [Act.put, List.setIfInBounds_toArray, List.set_cons_succ, List.set_cons_zero])) | ((with_reducible refine isAlloc ?_); (refine' al (z := _) hS rfl rfl ?ha ?_); (case ha => first | exact ty_z25 | exact ty_z3 | exact ty_z23); clear hS; intro X w hS; (try simp only [Act.eval, Array.getD_eq_getD_getElem?, List.getElem?_toArray, List.getElem?_cons_succ, List.getElem?_cons_zero, Option.getD_some, Value.cells] at hS); (try simp only [Act.put, List.setIfInBounds_toArray, List.set_cons_succ, List.set_cons_zero]))) | (go_at_call 40; refine (kids_any _ _).mono ?_; rintro e w ⟨rfl, rfl⟩))
    all_goals (try (go_ret; exact ⟨rfl, hS.drop⟩))
end Go.Proofs.Ytmhdcjjcddpciaa
