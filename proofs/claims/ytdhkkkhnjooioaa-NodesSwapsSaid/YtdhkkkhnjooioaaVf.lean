import Derived.Test.YtdhkkkhnjooioaaVe
namespace Go.Proofs.Ytdhkkkhnjooioaa
set_option linter.unusedSimpArgs false
set_option linter.unusedVariables false
open Go.RowKit
set_option linter.unusedVariables false
theorem MapOk.pute {es : List En} {c : Nat} (h : MapOk (rows es) c) {lo hi : Int} (hf : findE es lo hi = none) (id : Int) : MapOk (rows (putE es lo hi id c)) (c + 1) := by
  rw [← rows_put]
  exact h.push (by rw [getR_rows, hf]; rfl) _
theorem MapOk.cute {es : List En} {c : Nat} (h : MapOk (rows es) c) (lo hi : Int) : MapOk (rows (cutE es lo hi)) c := by
  rw [← rows_cut]
  exact h.del
theorem put_yes (E w : World) (I : PH) (ms : List PH) (g M : Nat) (es : List En) (c : Nat) (lo hi id : Int) (hS : Sat E I (tbv g M :: tbm M es c :: ms) w) (hok : MapOk (rows es) c) (hf : findE es lo hi = none) :
    Calls Try.prog 58 #[.pointer (some ⟨g, 0, none⟩), .int .i64 lo, .int .i64 hi, .int .i64 id] w fun e w' => e = .returned (.int .i64 0) ∧ Sat E I (tbv g M :: tbm M (putE es lo hi id c) (c + 1) :: ms) w' := by
  have hq := getR_rows es lo hi
  rw [hf] at hq
  have hr := rows_put es lo hi id c
  unfold tbm at hS ⊢
  rw [← hr]
  clear hr hf
  generalize rows es = l at *
  have Hq := Lib.hid hq
  have Hk := Lib.hid hok
  clear hq hok
  unfold tbv at hS ⊢
  go_enter Try.func58, Try.ntmps58
  go_wp2_with (first | ((with_reducible refine isLookup ?_); refine lk2 (x := (lo, hi)) hS (.inr (.tail _ (.head _))) (PH.one_self _ _) kE Try.underlying113 ty_z3 rfl rfl rfl rfl Hq.out ?_; simp only [Option.map_none, Option.getD_none, Option.isSome_none]; (try simp only [Act.put, zE, zF, zG])) | ((with_reducible refine isUpdate ?_); refine muNew (x := (lo, hi)) hS 1 rfl kE Try.underlying113 rfl rfl rfl rfl rfl Hk.out Hq.out ?_; clear hS; intro w hS; simp only [zF, zG] at hS; (try simp only [Act.put, zE, zF, zG])) | ((with_reducible refine atList ?_); first | ((with_reducible refine isGuard ?_); first | go_skip | ((with_reducible refine guarded_no ?hw ?_); (case hw => (simp only [Region.wanted, yielded, zC, zA, zB, zK]; first | exact (rfl : (some true == some false) = false) | exact (rfl : (some false == some true) = false))); (try simp only [Act.put, zE, zF, zG])) | ((with_reducible refine guarded_yes ?hw ?_); case hw => (simp only [Region.wanted, yielded, zC, zA, zB, zK, beq_self_eq_true]; done)) | ((refine' guarded_cases (b := _) ?hy ?_ ?_); (case hy => (simp only [yielded, zC, zA, zB, zK]; exact rfl)); all_goals (intro hb; (try simp only [Bool.not_true, Bool.not_false] at hb); (try simp only [hb]); (try simp only [Act.put, zE, zF, zG]); first | ((have hf : False := by (simp at hb; done)); cases hf) | ((have hf : False := by (simp at hb; omega)); cases hf) | skip))) | ((with_reducible refine isLoad ?_); (first | (refine ld1 0 hS rfl rfl ?ha rfl rfl rfl ?_; (case ha => exact ty_agg113)) | ((refine' ldI1 (v := _) hS rfl rfl ?ha rfl ?hb ?_); (case ha => exact ty_agg113); (case hb => assumption))); (try simp only [Act.put, zE, zF, zG])) | ((with_reducible refine isStore ?_); (first | (refine st1 0 hS rfl rfl rfl rfl rfl ?ha rfl rfl ?hb ?_; (case ha => exact ty_sz113); (case hb => (simp; done)))); clear hS; intro w hS; (try simp only [zF, zG, zE, Act.eval, zD, zC, zA, zB, zJ, Value.cells] at hS); (try simp only [Act.put, zE, zF, zG])) | ((with_reducible refine isBox ?_); refine bx hS rfl rfl rfl ?_; clear hS; intro X w hS; (try simp only [Act.eval, zD, zC, zA, zB, zJ, Value.cells] at hS); (try simp only [Act.put, zE, zF, zG])) | ((with_reducible refine isAlloc ?_); (refine' al (z := _) hS rfl rfl ?ha ?_); (case ha => exact ty_z113); clear hS; intro X w hS; (try simp only [Act.eval, zD, zC, zA, zB, zJ, Value.cells] at hS); (try simp only [Act.put, zE, zF, zG]))))
  go_ret
  exact ⟨rfl, hS⟩
theorem put_no (E w : World) (I : PH) (ms : List PH) (g M : Nat) (es : List En) (c : Nat) (lo hi id i : Int) (hS : Sat E I (tbv g M :: tbm M es c :: ms) w) (hf : findE es lo hi = some i) :
    Calls Try.prog 58 #[.pointer (some ⟨g, 0, none⟩), .int .i64 lo, .int .i64 hi, .int .i64 id] w fun e w' => e = .returned (.int .i64 6) ∧ w = w' := by
  have hq := getR_rows es lo hi
  rw [hf] at hq
  unfold tbm at hS
  clear hf
  generalize rows es = l at *
  have Hq := Lib.hid hq
  clear hq
  unfold tbv at hS
  go_enter Try.func58, Try.ntmps58
  go_wp2_with (first | ((with_reducible refine isLookup ?_); refine lk2 (x := (lo, hi)) hS (.inr (.tail _ (.head _))) (PH.one_self _ _) kE Try.underlying113 ty_z3 rfl rfl rfl rfl Hq.out ?_; simp only [Option.map_some, zJ, Option.isSome_some]; (try simp only [Act.put, zE, zF, zG])) | ((with_reducible refine atList ?_); first | ((with_reducible refine isGuard ?_); first | go_skip | ((with_reducible refine guarded_no ?hw ?_); (case hw => (simp only [Region.wanted, yielded, zC, zA, zB, zK]; first | exact (rfl : (some true == some false) = false) | exact (rfl : (some false == some true) = false))); (try simp only [Act.put, zE, zF, zG])) | ((with_reducible refine guarded_yes ?hw ?_); case hw => (simp only [Region.wanted, yielded, zC, zA, zB, zK, beq_self_eq_true]; done)) | ((refine' guarded_cases (b := _) ?hy ?_ ?_); (case hy => (simp only [yielded, zC, zA, zB, zK]; exact rfl)); all_goals (intro hb; (try simp only [Bool.not_true, Bool.not_false] at hb); (try simp only [hb]); (try simp only [Act.put, zE, zF, zG]); first | ((have hf : False := by (simp at hb; done)); cases hf) | ((have hf : False := by (simp at hb; omega)); cases hf) | skip))) | ((with_reducible refine isLoad ?_); (first | (refine ld1 0 hS rfl rfl ?ha rfl rfl rfl ?_; (case ha => exact ty_agg113)) | ((refine' ldI1 (v := _) hS rfl rfl ?ha rfl ?hb ?_); (case ha => exact ty_agg113); (case hb => assumption))); (try simp only [Act.put, zE, zF, zG])) | ((with_reducible refine isStore ?_); (first | (refine st1 0 hS rfl rfl rfl rfl rfl ?ha rfl rfl ?hb ?_; (case ha => exact ty_sz113); (case hb => (simp; done)))); clear hS; intro w hS; (try simp only [zF, zG, zE, Act.eval, zD, zC, zA, zB, zJ, Value.cells] at hS); (try simp only [Act.put, zE, zF, zG])) | ((with_reducible refine isBox ?_); refine bx hS rfl rfl rfl ?_; clear hS; intro X w hS; (try simp only [Act.eval, zD, zC, zA, zB, zJ, Value.cells] at hS); (try simp only [Act.put, zE, zF, zG])) | ((with_reducible refine isAlloc ?_); (refine' al (z := _) hS rfl rfl ?ha ?_); (case ha => exact ty_z113); clear hS; intro X w hS; (try simp only [Act.eval, zD, zC, zA, zB, zJ, Value.cells] at hS); (try simp only [Act.put, zE, zF, zG]))))
  go_ret
  exact ⟨rfl, rfl⟩
theorem cut_no (E w : World) (I : PH) (ms : List PH) (g M : Nat) (es : List En) (c : Nat) (lo hi : Int) (hS : Sat E I (tbv g M :: tbm M es c :: ms) w) (hf : findE es lo hi = none) :
    Calls Try.prog 56 #[.pointer (some ⟨g, 0, none⟩), .int .i64 lo, .int .i64 hi] w fun e w' => e = .returned (.int .i64 5) ∧ w = w' := by
  have hq := getR_rows es lo hi
  rw [hf] at hq
  unfold tbm at hS
  clear hf
  generalize rows es = l at *
  have Hq := Lib.hid hq
  clear hq
  unfold tbv at hS
  go_enter Try.func56, Try.ntmps56
  go_wp2_with (first | ((with_reducible refine isLookup ?_); refine lk2 (x := (lo, hi)) hS (.inr (.tail _ (.head _))) (PH.one_self _ _) kE Try.underlying113 ty_z3 rfl rfl rfl rfl Hq.out ?_; simp only [Option.map_none, Option.getD_none, Option.isSome_none]; (try simp only [Act.put, zE, zF, zG])) | ((with_reducible refine atList ?_); first | ((with_reducible refine isGuard ?_); first | go_skip | ((with_reducible refine guarded_no ?hw ?_); (case hw => (simp only [Region.wanted, yielded, zC, zA, zB, zK]; first | exact (rfl : (some true == some false) = false) | exact (rfl : (some false == some true) = false))); (try simp only [Act.put, zE, zF, zG])) | ((with_reducible refine guarded_yes ?hw ?_); case hw => (simp only [Region.wanted, yielded, zC, zA, zB, zK, beq_self_eq_true]; done)) | ((refine' guarded_cases (b := _) ?hy ?_ ?_); (case hy => (simp only [yielded, zC, zA, zB, zK]; exact rfl)); all_goals (intro hb; (try simp only [Bool.not_true, Bool.not_false] at hb); (try simp only [hb]); (try simp only [Act.put, zE, zF, zG]); first | ((have hf : False := by (simp at hb; done)); cases hf) | ((have hf : False := by (simp at hb; omega)); cases hf) | skip))) | ((with_reducible refine isLoad ?_); (first | (refine ld1 0 hS rfl rfl ?ha rfl rfl rfl ?_; (case ha => exact ty_agg113)) | ((refine' ldI1 (v := _) hS rfl rfl ?ha rfl ?hb ?_); (case ha => exact ty_agg113); (case hb => assumption))); (try simp only [Act.put, zE, zF, zG])) | ((with_reducible refine isStore ?_); (first | (refine st1 0 hS rfl rfl rfl rfl rfl ?ha rfl rfl ?hb ?_; (case ha => exact ty_sz113); (case hb => (simp; done)))); clear hS; intro w hS; (try simp only [zF, zG, zE, Act.eval, zD, zC, zA, zB, zJ, Value.cells] at hS); (try simp only [Act.put, zE, zF, zG])) | ((with_reducible refine isBox ?_); refine bx hS rfl rfl rfl ?_; clear hS; intro X w hS; (try simp only [Act.eval, zD, zC, zA, zB, zJ, Value.cells] at hS); (try simp only [Act.put, zE, zF, zG])) | ((with_reducible refine isAlloc ?_); (refine' al (z := _) hS rfl rfl ?ha ?_); (case ha => exact ty_z113); clear hS; intro X w hS; (try simp only [Act.eval, zD, zC, zA, zB, zJ, Value.cells] at hS); (try simp only [Act.put, zE, zF, zG]))))
  go_ret
  exact ⟨rfl, rfl⟩
theorem cut_yes (E w : World) (I : PH) (ms : List PH) (g M : Nat) (es : List En) (c : Nat) (lo hi i : Int) (hS : Sat E I (tbv g M :: tbm M es c :: ms) w) (hok : MapOk (rows es) c) (hf : findE es lo hi = some i) :
    Calls Try.prog 56 #[.pointer (some ⟨g, 0, none⟩), .int .i64 lo, .int .i64 hi] w fun e w' => e = .returned (.int .i64 0) ∧ Sat E I (tbv g M :: tbm M (cutE es lo hi) c :: ms) w' := by
  have hq := getR_rows es lo hi
  rw [hf] at hq
  have hr := rows_cut es lo hi
  unfold tbm at hS ⊢
  rw [← hr]
  clear hr hf
  generalize rows es = l at *
  have Hq := Lib.hid hq
  have Hk := Lib.hid hok
  clear hq hok
  unfold tbv at hS ⊢
  go_enter Try.func56, Try.ntmps56
  go_wp2_with (first | ((with_reducible refine isLookup ?_); refine lk2 (x := (lo, hi)) hS (.inr (.tail _ (.head _))) (PH.one_self _ _) kE Try.underlying113 ty_z3 rfl rfl rfl rfl Hq.out ?_; simp only [Option.map_some, zJ, Option.isSome_some]; (try simp only [Act.put, zE, zF, zG])) | ((with_reducible refine isDelete ?_); refine dl (x := (lo, hi)) hS 1 rfl kE Try.underlying113 rfl rfl rfl rfl Hk.out ?_; clear hS; intro w hS; simp only [zF, zG] at hS; (try simp only [Act.put, zE, zF, zG])) | ((with_reducible refine atList ?_); first | ((with_reducible refine isGuard ?_); first | go_skip | ((with_reducible refine guarded_no ?hw ?_); (case hw => (simp only [Region.wanted, yielded, zC, zA, zB, zK]; first | exact (rfl : (some true == some false) = false) | exact (rfl : (some false == some true) = false))); (try simp only [Act.put, zE, zF, zG])) | ((with_reducible refine guarded_yes ?hw ?_); case hw => (simp only [Region.wanted, yielded, zC, zA, zB, zK, beq_self_eq_true]; done)) | ((refine' guarded_cases (b := _) ?hy ?_ ?_); (case hy => (simp only [yielded, zC, zA, zB, zK]; exact rfl)); all_goals (intro hb; (try simp only [Bool.not_true, Bool.not_false] at hb); (try simp only [hb]); (try simp only [Act.put, zE, zF, zG]); first | ((have hf : False := by (simp at hb; done)); cases hf) | ((have hf : False := by (simp at hb; omega)); cases hf) | skip))) | ((with_reducible refine isLoad ?_); (first | (refine ld1 0 hS rfl rfl ?ha rfl rfl rfl ?_; (case ha => exact ty_agg113)) | ((refine' ldI1 (v := _) hS rfl rfl ?ha rfl ?hb ?_); (case ha => exact ty_agg113); (case hb => assumption))); (try simp only [Act.put, zE, zF, zG])) | ((with_reducible refine isStore ?_); (first | (refine st1 0 hS rfl rfl rfl rfl rfl ?ha rfl rfl ?hb ?_; (case ha => exact ty_sz113); (case hb => (simp; done)))); clear hS; intro w hS; (try simp only [zF, zG, zE, Act.eval, zD, zC, zA, zB, zJ, Value.cells] at hS); (try simp only [Act.put, zE, zF, zG])) | ((with_reducible refine isBox ?_); refine bx hS rfl rfl rfl ?_; clear hS; intro X w hS; (try simp only [Act.eval, zD, zC, zA, zB, zJ, Value.cells] at hS); (try simp only [Act.put, zE, zF, zG])) | ((with_reducible refine isAlloc ?_); (refine' al (z := _) hS rfl rfl ?ha ?_); (case ha => exact ty_z113); clear hS; intro X w hS; (try simp only [Act.eval, zD, zC, zA, zB, zJ, Value.cells] at hS); (try simp only [Act.put, zE, zF, zG]))))
  go_ret
  exact ⟨rfl, hS⟩
theorem nil_find (w : World) (lo hi : Int) : Calls Try.prog 62 #[.pointer none, .int .i64 lo, .int .i64 hi] w fun e w' => e = .returned (.tuple #[.int .i64 0, .bool false]) ∧ w = w' := by
  go_enter Try.func62, Try.ntmps62
  go_wp2
  go_ret2
  exact ⟨rfl, rfl⟩
theorem nil_put (w : World) (lo hi id : Int) : Calls Try.prog 58 #[.pointer none, .int .i64 lo, .int .i64 hi, .int .i64 id] w fun e w' => e = .returned (.int .i64 5) ∧ w = w' := by
  go_enter Try.func58, Try.ntmps58
  go_wp2
  go_ret
  exact ⟨rfl, rfl⟩
theorem nil_cut (w : World) (lo hi : Int) : Calls Try.prog 56 #[.pointer none, .int .i64 lo, .int .i64 hi] w fun e w' => e = .returned (.int .i64 5) ∧ w = w' := by
  go_enter Try.func56, Try.ntmps56
  go_wp2
  go_ret
  exact ⟨rfl, rfl⟩
end Go.Proofs.Ytdhkkkhnjooioaa
