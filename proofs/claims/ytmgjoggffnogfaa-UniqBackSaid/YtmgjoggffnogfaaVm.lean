/- The reference of uniq: Find, ahead. -/
import Derived.Test.YtmgjoggffnogfaaVl
import Derived.Test.YtmgjoggffnogfaaSn
namespace Go.Proofs.Ytmgjoggffnogfaa
set_option linter.unusedSimpArgs false
set_option linter.unusedVariables false
open Go.RowKit
set_option linter.unusedVariables false
theorem ty_agg38 : aggB Try.prog 38 = some true := by kernel_rfl
theorem ty_sz38 : sizeB Try.prog 38 = some 3 := by kernel_rfl
theorem ty_z38 : zeroB Try.prog 38 = some (.agg #[.int .i64 0, .int .i64 0, .int .i64 0]) := by kernel_rfl
theorem ty_agg26 : aggB Try.prog 26 = some false := by kernel_rfl
theorem ty_sz26 : sizeB Try.prog 26 = some 1 := by kernel_rfl
theorem ty_z26 : zeroB Try.prog 26 = some (.slice none 0 0) := by kernel_rfl
theorem ty_agg28 : aggB Try.prog 28 = some true := by kernel_rfl
theorem ty_sz28 : sizeB Try.prog 28 = some 4 := by kernel_rfl
theorem ty_z28 : zeroB Try.prog 28 = some (.agg #[.int .i64 0, .int .i64 0, .int .i64 0, .int .i64 0]) := by kernel_rfl
def Ne.cells (n : Ne) : List Value := [.int .i64 n.lo, .int .i64 n.hi, .int .i64 n.id]
theorem Ne.len3 (n : Ne) : n.cells.length = 3 := rfl
/-- A slice of entries that nobody writes. -/
def RowN (J : PH) (v : Value) (xs : List Ne) : Prop := ∃ A c, v = .slice A xs.length c ∧ xs.length ≤ c ∧ c ≤ maxLen ∧ (0 < xs.length → ∃ X off, A = some ⟨X, off, none⟩ ∧ Cells J X off (xs.flatMap Ne.cells))
theorem RowN.le {I J : PH} {v : Value} {xs : List Ne} (h : RowN I v xs) (hJ : I.le J) : RowN J v xs := by
  obtain ⟨A, c, h1, h2, h3, h4⟩ := h
  exact ⟨A, c, h1, h2, h3, fun h => by obtain ⟨X, off, e, hc⟩ := h4 h; exact ⟨X, off, e, hc.le hJ⟩⟩
theorem RowN.nil (J : PH) : RowN J (.slice none 0 0) [] := ⟨none, 0, rfl, Nat.le_refl _, Nat.zero_le _, fun h => by simp at h⟩
theorem flat3 : ∀ (xs : List Ne) (k : Nat) (n : Ne), xs[k]? = some n → ∀ j v, n.cells[j]? = some v → (xs.flatMap Ne.cells)[k * 3 + j]? = some v
  | [], _, _, h, _, _, _ => by simp at h
  | x :: xs, 0, n, h, j, v, hj => by
    simp at h; subst h
    rw [List.flatMap_cons, Nat.zero_mul, Nat.zero_add, List.getElem?_append_left (List.getElem?_eq_some_iff.1 hj).1]
    exact hj
  | x :: xs, k + 1, n, h, j, v, hj => by
    rw [List.flatMap_cons, List.getElem?_append_right (by rw [Ne.len3]; omega), Ne.len3, show (k + 1) * 3 + j - 3 = k * 3 + j by omega]
    exact flat3 xs k n (by simpa using h) j v hj
theorem RowN.at_ {J : PH} {A : Option Addr} {xs : List Ne} {c : Nat} (h : RowN J (.slice A xs.length c) xs) {k : Nat} {n : Ne} (hk : xs[k]? = some n) : ∃ X off, A = some ⟨X, off, none⟩ ∧ Cells J X (off + k * 3) n.cells := by
  obtain ⟨A', c', e, _, _, h4⟩ := h
  injection e with e1
  subst e1
  have hlt := (List.getElem?_eq_some_iff.1 hk).1
  obtain ⟨X, off, rfl, hc⟩ := h4 (by omega)
  refine ⟨X, off, rfl, fun j v hj => ?_⟩
  rw [Nat.add_assoc]
  exact hc _ _ (flat3 xs k n hk j v hj)
def fI (xs : List Ne) (lo hi : Int) : Int := match fIdx xs lo hi with | some k => k | none => -1
theorem fI_hit {xs : List Ne} {lo hi : Int} {k : Nat} (hk : k < xs.length) (hpre : ∀ j, (hj : j < k) → ¬ ((xs[j]'(by omega)).lo = lo ∧ (xs[j]'(by omega)).hi = hi)) (h : xs[k].lo = lo ∧ xs[k].hi = hi) : fI xs lo hi = k := by
  have : fIdx xs lo hi = some k := by
    unfold fIdx
    rw [List.findIdx?_eq_some_iff_getElem]
    refine ⟨hk, by simp [h.1, h.2], fun j hj => ?_⟩
    have := hpre j hj
    simp only [Bool.and_eq_true, beq_iff_eq]
    exact fun h2 => this h2
  unfold fI
  rw [this]
theorem fI_miss {xs : List Ne} {lo hi : Int} (hpre : ∀ j, (hj : j < xs.length) → ¬ (xs[j].lo = lo ∧ xs[j].hi = hi)) : fI xs lo hi = -1 := by
  have : fIdx xs lo hi = none := by
    unfold fIdx
    rw [List.findIdx?_eq_none_iff]
    intro n hn
    obtain ⟨j, hj, rfl⟩ := List.mem_iff_getElem.1 hn
    have := hpre j hj
    simp only [Bool.and_eq_false_iff, beq_eq_false_iff_ne]
    by_cases h1 : xs[j].lo = lo
    · exact .inr fun h2 => this ⟨h1, h2⟩
    · exact .inl h1
  unfold fI
  rw [this]
set_option maxHeartbeats 1000000 in
theorem rfind_any (w : World) (v : Value) (xs : List Ne) (lo hi : Int) (hR : RowN (heapOf w) v xs) (hl : xs.length ≤ 100000) :
    Calls Try.prog 10 #[v, .int .i64 lo, .int .i64 hi] w fun e w' => e = .returned (.int .i64 (fI xs lo hi)) ∧ w = w' := by
  obtain ⟨A, c, rfl, hc1, hc2, _⟩ := id hR
  have hS := Sat.start w
  have HR := Lib.hid hR
  clear hR hc1 hc2
  go_enter Try.func10, Try.ntmps10
  go_wp2
  go_loop [7] (fun v7 => ∃ k : Nat, k ≤ xs.length ∧ v7 = .int .i64 (k : Int) ∧ Hid (∀ j, (hj : j < k) → (hj2 : j < xs.length) → ¬ (xs[j].lo = lo ∧ xs[j].hi = hi))) (fun v7 => xs.length - (intOf v7).toNat)
  case atStart => exact ⟨0, Nat.zero_le _, rfl, Lib.hid fun j hj => by omega⟩
  case round =>
    obtain ⟨k, hk, rfl, Hpre⟩ := hrel
    have k0 : (0 : Int) ≤ (k : Int) := by omega
    have k1 : (xs.length : Int) ≤ 100000 := by omega
    by_cases hlt : k < xs.length
    · obtain ⟨X, off, hA, hcs⟩ := HR.out.at_ (List.getElem?_eq_getElem hlt)
      have f0 := hcs 0 _ rfl
      have f1 := hcs 1 _ rfl
      rw [Nat.add_zero] at f0
      have Hhit := Lib.hid (fun h => fI_hit (lo := lo) (hi := hi) hlt (fun j hj => Hpre.out j hj (by omega)) h)
      have Hmiss := Lib.hid (fun (h : ¬ (xs[k].lo = lo ∧ xs[k].hi = hi)) (j : Nat) (hj : j < k + 1) (hj2 : j < xs.length) => show ¬ (xs[j].lo = lo ∧ xs[j].hi = hi) from by
        by_cases e : j = k
        · subst e; exact h
        · exact Hpre.out j (by omega) hj2)
      generalize xs[k].lo = nlo at *
      generalize xs[k].hi = nhi at *
      subst hA
      clear hcs
      have ki : (k : Int) < (xs.length : Int) := by omega
      go_wp2_with ((with_reducible refine atList ?_); first | ((with_reducible refine isGuard ?_); first | go_skip | (refine guarded_yes ?hw ?_; case hw => (simp only [Region.wanted, yielded, List.getElem?_toArray, List.getElem?_cons_succ, List.getElem?_cons_zero, Option.bind_some, beq_self_eq_true]; done)) | ((refine' guarded_cases (b := _) ?hy ?_ ?_); (case hy => (simp only [yielded, List.getElem?_toArray, List.getElem?_cons_succ, List.getElem?_cons_zero, Option.bind_some]; exact rfl)); all_goals (intro hb; (try simp only [Bool.not_true, Bool.not_false] at hb); (try simp only [hb]); (try simp only [Act.put, List.setIfInBounds_toArray, List.set_cons_succ, List.set_cons_zero]); first | ((have hf : False := by (simp at hb; done)); cases hf) | ((have hf : False := by (simp at hb; omega)); cases hf) | skip))) | ((with_reducible refine isLoad ?_); first | (refine ld1 0 hS rfl rfl ?ha rfl rfl rfl ?_; (case ha => first | exact ty_agg3); (try simp only [Act.put, List.setIfInBounds_toArray, List.set_cons_succ, List.set_cons_zero])) | ((refine' ldI1 (v := _) hS rfl rfl ?ha rfl ?hb ?_); (case ha => first | exact ty_agg3); (case hb => assumption); (try simp only [Act.put, List.setIfInBounds_toArray, List.set_cons_succ, List.set_cons_zero]))) | ((with_reducible refine isStore ?_); first | (refine st1 0 hS rfl rfl rfl rfl rfl ?ha rfl rfl ?hb ?_; (case ha => first | exact ty_sz3); (case hb => (simp; done)); clear hS; intro w hS; (try simp only [List.set_cons_succ, List.set_cons_zero, List.setIfInBounds_toArray, Act.eval, Array.getD_eq_getD_getElem?, List.getElem?_toArray, List.getElem?_cons_succ, List.getElem?_cons_zero, Option.getD_some, Value.cells] at hS); (try simp only [Act.put, List.setIfInBounds_toArray, List.set_cons_succ, List.set_cons_zero]))) | ((with_reducible refine isBox ?_); refine bx hS rfl rfl rfl ?_; clear hS; intro X w hS; (try simp only [Act.eval, Array.getD_eq_getD_getElem?, List.getElem?_toArray, List.getElem?_cons_succ, List.getElem?_cons_zero, Option.getD_some, Value.cells] at hS); (try simp only [Act.put, List.setIfInBounds_toArray, List.set_cons_succ, List.set_cons_zero])) | ((with_reducible refine isAlloc ?_); (refine' al (z := _) hS rfl rfl ?ha ?_); (case ha => first | exact ty_z3); clear hS; intro X w hS; (try simp only [Act.eval, Array.getD_eq_getD_getElem?, List.getElem?_toArray, List.getElem?_cons_succ, List.getElem?_cons_zero, Option.getD_some, Value.cells] at hS); (try simp only [Act.put, List.setIfInBounds_toArray, List.set_cons_succ, List.set_cons_zero])))
      all_goals first
        | (go_ret
           refine ⟨?_, rfl⟩
           rw [Hhit.out ⟨by first | assumption | simpa using ‹(nlo == lo) = true›, by first | assumption | simpa using ‹(nhi == hi) = true›⟩]
           rfl)
        | (refine ⟨⟨k + 1, by omega, by go_num, Lib.hid (Hmiss.out (fun h => by simp_all))⟩, by simp [intOf]; omega⟩)
    · have Hm := Lib.hid (fI_miss (xs := xs) (lo := lo) (hi := hi) fun j hj => Hpre.out j (by omega) hj)
      go_wp2
      go_ret
      exact ⟨by rw [Hm.out]; rfl, rfl⟩
theorem ahead_any (E : World) (I : PH) (ms : List PH) (a b : Ne) (w : World) (hS : Sat E I ms w) :
    Calls Try.prog 21 #[.agg #[.int .i64 a.lo, .int .i64 a.hi, .int .i64 a.id], .agg #[.int .i64 b.lo, .int .i64 b.hi, .int .i64 b.id]] w fun e w' => e = .returned (.bool (aheadB a b)) ∧ Sat E I ms w' := by
  obtain ⟨a0, a1, a2⟩ := a
  obtain ⟨b0, b1, b2⟩ := b
  unfold aheadB Ne.lt
  simp only
  go_enter Try.func21, Try.ntmps21
  go_wp2_with ((with_reducible refine atList ?_); first | ((with_reducible refine isGuard ?_); first | go_skip | (refine guarded_yes ?hw ?_; case hw => (simp only [Region.wanted, yielded, List.getElem?_toArray, List.getElem?_cons_succ, List.getElem?_cons_zero, Option.bind_some, beq_self_eq_true]; done)) | ((refine' guarded_cases (b := _) ?hy ?_ ?_); (case hy => (simp only [yielded, List.getElem?_toArray, List.getElem?_cons_succ, List.getElem?_cons_zero, Option.bind_some]; exact rfl)); all_goals (intro hb; (try simp only [Bool.not_true, Bool.not_false] at hb); (try simp only [hb]); (try simp only [Act.put, List.setIfInBounds_toArray, List.set_cons_succ, List.set_cons_zero]); first | ((have hf : False := by (simp at hb; done)); cases hf) | ((have hf : False := by (simp at hb; omega)); cases hf) | skip))) | ((with_reducible refine isLoad ?_); first | (refine ld1 0 hS rfl rfl ?ha rfl rfl rfl ?_; (case ha => first | exact ty_agg3); (try simp only [Act.put, List.setIfInBounds_toArray, List.set_cons_succ, List.set_cons_zero])) | (refine ld1 1 hS rfl rfl ?ha rfl rfl rfl ?_; (case ha => first | exact ty_agg3); (try simp only [Act.put, List.setIfInBounds_toArray, List.set_cons_succ, List.set_cons_zero])) | (refine ldN 0 hS rfl rfl ?ha rfl rfl ?hb ?_; (case ha => first | exact ty_agg38); (case hb => first | exact ty_sz38); (try simp only [Act.put, List.setIfInBounds_toArray, List.set_cons_succ, List.set_cons_zero])) | (refine ldN 1 hS rfl rfl ?ha rfl rfl ?hb ?_; (case ha => first | exact ty_agg38); (case hb => first | exact ty_sz38); (try simp only [Act.put, List.setIfInBounds_toArray, List.set_cons_succ, List.set_cons_zero])) | ((refine' ldI1 (v := _) hS rfl rfl ?ha rfl ?hb ?_); (case ha => first | exact ty_agg3); (case hb => assumption); (try simp only [Act.put, List.setIfInBounds_toArray, List.set_cons_succ, List.set_cons_zero])) | ((refine' ldIN (vs := _) hS rfl rfl ?ha rfl ?hc ?hb ?_); (case ha => first | exact ty_agg38); (case hc => assumption); (case hb => first | exact ty_sz38); (try simp only [Act.put, List.setIfInBounds_toArray, List.set_cons_succ, List.set_cons_zero]))) | ((with_reducible refine isStore ?_); first | (refine st1 0 hS rfl rfl rfl rfl rfl ?ha rfl rfl ?hb ?_; (case ha => first | exact ty_sz3); (case hb => (simp; done)); clear hS; intro w hS; (try simp only [List.set_cons_succ, List.set_cons_zero, List.setIfInBounds_toArray, Act.eval, Array.getD_eq_getD_getElem?, List.getElem?_toArray, List.getElem?_cons_succ, List.getElem?_cons_zero, Option.getD_some, Value.cells] at hS); (try simp only [Act.put, List.setIfInBounds_toArray, List.set_cons_succ, List.set_cons_zero])) | (refine st1 1 hS rfl rfl rfl rfl rfl ?ha rfl rfl ?hb ?_; (case ha => first | exact ty_sz3); (case hb => (simp; done)); clear hS; intro w hS; (try simp only [List.set_cons_succ, List.set_cons_zero, List.setIfInBounds_toArray, Act.eval, Array.getD_eq_getD_getElem?, List.getElem?_toArray, List.getElem?_cons_succ, List.getElem?_cons_zero, Option.getD_some, Value.cells] at hS); (try simp only [Act.put, List.setIfInBounds_toArray, List.set_cons_succ, List.set_cons_zero])) | (refine stN 0 hS rfl rfl rfl rfl rfl ?ha rfl rfl ?_; (case ha => first | exact ty_sz38); clear hS; intro w hS; (try simp only [List.set_cons_succ, List.set_cons_zero, List.setIfInBounds_toArray, Act.eval, Array.getD_eq_getD_getElem?, List.getElem?_toArray, List.getElem?_cons_succ, List.getElem?_cons_zero, Option.getD_some, Value.cells] at hS); (try simp only [Act.put, List.setIfInBounds_toArray, List.set_cons_succ, List.set_cons_zero])) | (refine stN 1 hS rfl rfl rfl rfl rfl ?ha rfl rfl ?_; (case ha => first | exact ty_sz38); clear hS; intro w hS; (try simp only [List.set_cons_succ, List.set_cons_zero, List.setIfInBounds_toArray, Act.eval, Array.getD_eq_getD_getElem?, List.getElem?_toArray, List.getElem?_cons_succ, List.getElem?_cons_zero, Option.getD_some, Value.cells] at hS); (try simp only [Act.put, List.setIfInBounds_toArray, List.set_cons_succ, List.set_cons_zero]))) | ((with_reducible refine isBox ?_); refine bx hS rfl rfl rfl ?_; clear hS; intro X w hS; (try simp only [Act.eval, Array.getD_eq_getD_getElem?, List.getElem?_toArray, List.getElem?_cons_succ, List.getElem?_cons_zero, Option.getD_some, Value.cells] at hS); (try simp only [Act.put, List.setIfInBounds_toArray, List.set_cons_succ, List.set_cons_zero])) | ((with_reducible refine isAlloc ?_); (refine' al (z := _) hS rfl rfl ?ha ?_); (case ha => first | exact ty_z38 | exact ty_z3); clear hS; intro X w hS; (try simp only [Act.eval, Array.getD_eq_getD_getElem?, List.getElem?_toArray, List.getElem?_cons_succ, List.getElem?_cons_zero, Option.getD_some, Value.cells] at hS); (try simp only [Act.put, List.setIfInBounds_toArray, List.set_cons_succ, List.set_cons_zero])))
  all_goals go_ret
  all_goals refine ⟨?_, hS.drop.drop⟩
  all_goals refine congrArg (fun b => Ending.returned (.bool b)) ?_
  all_goals simp only [bne_iff_ne, ne_eq, bne_eq_false_iff_eq] at *
  all_goals refine decide_eq_decide.2 ?_
  all_goals omega
end Go.Proofs.Ytmgjoggffnogfaa
