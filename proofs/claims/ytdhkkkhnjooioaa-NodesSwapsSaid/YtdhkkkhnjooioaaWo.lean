import Derived.Test.YtdhkkkhnjooioaaWn
namespace Go.Proofs.Ytdhkkkhnjooioaa
set_option linter.unusedSimpArgs false
set_option linter.unusedVariables false
open Go.RowKit
set_option linter.unusedVariables false
theorem ty_agg150 : aggB Try.prog 150 = some false := by kernel_rfl
theorem ty_sz150 : sizeB Try.prog 150 = some 1 := by kernel_rfl
theorem ty_z150 : zeroB Try.prog 150 = some (.int .u64 0) := by kernel_rfl
def iv (j : Nat) : Value := .int .i64 (j : Int)
def idC (i n : Nat) : Array Value := ((List.range i).map iv ++ List.replicate (n - i) (Value.int .i64 0)).toArray
theorem idC_size {i n : Nat} (h : i ≤ n) : (idC i n).size = n := by simp [idC]; omega
theorem idC_set {i n : Nat} (h : i < n) : (idC i n).setIfInBounds i (.int .i64 (i : Int)) = idC (i + 1) n := by
  apply Array.ext'
  rw [Array.toList_setIfInBounds]
  unfold idC
  simp only
  rw [List.set_append_right _ _ (by simp), List.length_map, List.length_range, Nat.sub_self, show n - i = (n - (i + 1)) + 1 by omega, List.replicate_succ, zG, List.range_succ, List.map_append]
  simp [iv]
theorem made_int (n : Nat) : madeCells (Value.cells (.int .i64 0)) (n * 1) = idC 0 n := by
  unfold madeCells idC Value.cells
  apply Array.ext
  · simp
  · intro i h1 h2
    simp [Nat.mod_one]
set_option maxHeartbeats 1000000 in
set_option maxRecDepth 100000 in
theorem ident_any (E : World) (I : PH) (ms : List PH) (n : Nat) (w : World) (hn : n ≤ 64) (hS : Sat E I ms w) :
    Calls Try.prog 37 #[.int .i64 (n : Int)] w fun e w' => ∃ X, e = .returned (.slice (some ⟨X, 0, none⟩) n n) ∧ Sat E I (PH.one X (.cells (idC n n) 3) :: ms) w' := by
  have hmin : min (max (n : Int) 0) 64 = (n : Int) := by omega
  have hmax : max (n : Int) 0 = (n : Int) := by omega
  have hmin2 : min (n : Int) 64 = (n : Int) := by omega
  go_enter Try.func37, Try.ntmps37
  go_wp2_with (first | ((with_reducible refine isMake ?_); refine mks hS rfl rfl Try.underlying27 int_info rfl rfl rfl rfl (Nat.le_refl _) (by omega) (by omega) ?_; clear hS; intro X w hS; (try simp only [Act.put, zE, zF, zG])) | ((with_reducible refine atList ?_); first | ((with_reducible refine isGuard ?_); first | go_skip | ((with_reducible refine guarded_no ?hw ?_); (case hw => (simp only [Region.wanted, yielded, zC, zA, zB, zK]; first | exact (rfl : (some true == some false) = false) | exact (rfl : (some false == some true) = false))); (try simp only [Act.put, zE, zF, zG])) | ((with_reducible refine guarded_yes ?hw ?_); case hw => (simp only [Region.wanted, yielded, zC, zA, zB, zK, beq_self_eq_true]; done)) | ((refine' guarded_cases (b := _) ?hy ?_ ?_); (case hy => (simp only [yielded, zC, zA, zB, zK]; exact rfl)); all_goals (intro hb; (try simp only [Bool.not_true, Bool.not_false] at hb); (try simp only [hb]); (try simp only [Act.put, zE, zF, zG]); first | ((have hf : False := by (simp at hb; done)); cases hf) | ((have hf : False := by (simp at hb; omega)); cases hf) | skip))) | ((with_reducible refine isLoad ?_); (first | (refine ld1 0 hS rfl rfl ?ha rfl rfl rfl ?_; (case ha => exact ty_agg3)) | ((refine' ldI1 (v := _) hS rfl rfl ?ha rfl ?hb ?_); (case ha => exact ty_agg3); (case hb => assumption))); (try simp only [Act.put, zE, zF, zG])) | ((with_reducible refine isStore ?_); (first | (refine st1 0 hS rfl rfl rfl rfl rfl ?ha rfl rfl ?hb ?_; (case ha => exact ty_sz3); (case hb => (simp; done)))); clear hS; intro w hS; (try simp only [zF, zG, zE, Act.eval, zD, zC, zA, zB, zJ, Value.cells] at hS); (try simp only [Act.put, zE, zF, zG])) | ((with_reducible refine isBox ?_); refine bx hS rfl rfl rfl ?_; clear hS; intro X w hS; (try simp only [Act.eval, zD, zC, zA, zB, zJ, Value.cells] at hS); (try simp only [Act.put, zE, zF, zG])) | ((with_reducible refine isAlloc ?_); (refine' al (z := _) hS rfl rfl ?ha ?_); (case ha => exact ty_z3); clear hS; intro X w hS; (try simp only [Act.eval, zD, zC, zA, zB, zJ, Value.cells] at hS); (try simp only [Act.put, zE, zF, zG]))))
  rw [made_int] at hS
  clear hmin hmin2 hmax
  go_loopw [11] (fun v11 wr => ∃ i : Nat, i ≤ n ∧ v11 = .int .i64 (i : Int) ∧ Sat E I (PH.one X (.cells (idC i n) 3) :: ms) wr) (fun v11 _ => (n - intOf v11).toNat)
  case atStart => exact ⟨0, by omega, rfl, hS⟩
  case round =>
    clear hS
    obtain ⟨i, hi, rfl, hS⟩ := hrel
    by_cases hlt : i < n
    · have hsz := idC_size hi
      have hst := idC_set hlt
      have i1 : (i : Int) < n := by omega
      have HST := Lib.hid hst
      have HSZ := Lib.hid hsz
      clear hst hsz
      go_wp2_with (first | ((with_reducible refine isStore ?_); refine st1 0 hS rfl rfl rfl rfl rfl ty_sz3 rfl rfl (by rw [HSZ.out]; exact hlt) ?_; clear hS; intro w hS; (try simp only [zF, zG, zE, Act.eval, zD, zC, zA, zB, zJ, Value.cells] at hS); (try simp only [Act.put, zE, zF, zG])) | ((with_reducible refine atList ?_); first | ((with_reducible refine isGuard ?_); first | go_skip | ((with_reducible refine guarded_no ?hw ?_); (case hw => (simp only [Region.wanted, yielded, zC, zA, zB, zK]; first | exact (rfl : (some true == some false) = false) | exact (rfl : (some false == some true) = false))); (try simp only [Act.put, zE, zF, zG])) | ((with_reducible refine guarded_yes ?hw ?_); case hw => (simp only [Region.wanted, yielded, zC, zA, zB, zK, beq_self_eq_true]; done)) | ((refine' guarded_cases (b := _) ?hy ?_ ?_); (case hy => (simp only [yielded, zC, zA, zB, zK]; exact rfl)); all_goals (intro hb; (try simp only [Bool.not_true, Bool.not_false] at hb); (try simp only [hb]); (try simp only [Act.put, zE, zF, zG]); first | ((have hf : False := by (simp at hb; done)); cases hf) | ((have hf : False := by (simp at hb; omega)); cases hf) | skip))) | ((with_reducible refine isLoad ?_); (first | (refine ld1 0 hS rfl rfl ?ha rfl rfl rfl ?_; (case ha => exact ty_agg3)) | ((refine' ldI1 (v := _) hS rfl rfl ?ha rfl ?hb ?_); (case ha => exact ty_agg3); (case hb => assumption))); (try simp only [Act.put, zE, zF, zG])) | ((with_reducible refine isStore ?_); (first | (refine st1 0 hS rfl rfl rfl rfl rfl ?ha rfl rfl ?hb ?_; (case ha => exact ty_sz3); (case hb => (simp; done)))); clear hS; intro w hS; (try simp only [zF, zG, zE, Act.eval, zD, zC, zA, zB, zJ, Value.cells] at hS); (try simp only [Act.put, zE, zF, zG])) | ((with_reducible refine isBox ?_); refine bx hS rfl rfl rfl ?_; clear hS; intro X w hS; (try simp only [Act.eval, zD, zC, zA, zB, zJ, Value.cells] at hS); (try simp only [Act.put, zE, zF, zG])) | ((with_reducible refine isAlloc ?_); (refine' al (z := _) hS rfl rfl ?ha ?_); (case ha => exact ty_z3); clear hS; intro X w hS; (try simp only [Act.eval, zD, zC, zA, zB, zJ, Value.cells] at hS); (try simp only [Act.put, zE, zF, zG]))))
      rw [HST.out] at hS
      go_roundw
      case rel => exact ⟨i + 1, by omega, by go_num, hS⟩
      case measure => simp [intOf]; omega
    · have hin : i = n := by omega
      subst hin
      go_wp2
      go_ret
      exact ⟨X, rfl, hS⟩
end Go.Proofs.Ytdhkkkhnjooioaa
