import Derived.Test.YtdhkkkhnjooioaaEd
import Derived.Lib.Walk
namespace Go.Proofs.Ytdhkkkhnjooioaa
set_option linter.unusedSimpArgs false
set_option linter.unusedVariables false
open Go.RowKit
set_option linter.unusedVariables false
theorem ty_agg113 : aggB Try.prog 113 = some false := by kernel_rfl
theorem ty_sz113 : sizeB Try.prog 113 = some 1 := by kernel_rfl
theorem ty_z113 : zeroB Try.prog 113 = some (.map none) := by kernel_rfl
theorem ty_agg3 : aggB Try.prog 3 = some false := by kernel_rfl
theorem ty_sz3 : sizeB Try.prog 3 = some 1 := by kernel_rfl
theorem ty_z3 : zeroB Try.prog 3 = some (.int .i64 0) := by kernel_rfl
theorem kE : Key Try.prog 123 ekey := key_ekey Try.underlying123 Try.underlying29 (by kernel_rfl) (by kernel_rfl)
structure En where
  lo : Int
  hi : Int
  id : Int
  b : Nat
def En.row (e : En) : Rw (Int × Int) := ⟨(e.lo, e.hi), .int .i64 e.id, e.b⟩
def rows (es : List En) : List (Rw (Int × Int)) := es.map En.row
def findE (es : List En) (lo hi : Int) : Option Int := (es.find? fun e => decide ((e.lo, e.hi) = (lo, hi))).map (·.id)
theorem getR_rows (es : List En) (lo hi : Int) : getR (rows es) (lo, hi) = (findE es lo hi).map (Value.int .i64) := by
  unfold getR rows findE
  rw [List.find?_map, Option.map_map, Option.map_map]
  rfl
def putE (es : List En) (lo hi id : Int) (c : Nat) : List En := es ++ [⟨lo, hi, id, c⟩]
def cutE (es : List En) (lo hi : Int) : List En := es.filter fun e => decide ((e.lo, e.hi) ≠ (lo, hi))
theorem rows_put (es : List En) (lo hi id : Int) (c : Nat) : rows es ++ [⟨(lo, hi), .int .i64 id, c⟩] = rows (putE es lo hi id c) := by
  unfold rows putE; simp [En.row]
theorem rows_cut (es : List En) (lo hi : Int) : delR (rows es) (lo, hi) = rows (cutE es lo hi) := by
  unfold delR rows cutE
  rw [List.filter_map]
  rfl
def tbv (g M : Nat) : PH := PH.one g (.cells #[.map (some M)] 115)
def tbm (M : Nat) (es : List En) (c : Nat) : PH := PH.one M (mapObj ekey (rows es) c)
structure TbIn (I : PH) (g M : Nat) (es : List En) (c : Nat) : Prop where
  v : I.at g 0 = some (.map (some M))
  m : I M = some (mapObj ekey (rows es) c)
theorem TbIn.le {I J : PH} {g M : Nat} {es : List En} {c : Nat} (h : TbIn I g M es c) (hJ : I.le J) : TbIn J g M es c := ⟨PH.at_le hJ h.v, hJ _ _ h.m⟩
theorem Sat.tb {E w : World} {I : PH} {ms : List PH} {g M : Nat} {es : List En} {c : Nat} (hS : Sat E I ms w) (h1 : tbv g M ∈ ms) (h2 : tbm M es c ∈ ms) : TbIn (heapOf w) g M es c :=
  ⟨PH.at_le (hS.own _ h1) (by simp [PH.at, PH.one_self, tbv]), hS.own _ h2 _ _ (PH.one_self _ _)⟩
theorem new_any (E w : World) (I : PH) (ms : List PH) (hS : Sat E I ms w) :
    Calls Try.prog 38 #[] w fun e w' => ∃ g M, e = .returned (.pointer (some ⟨g, 0, none⟩)) ∧ Sat E I (tbv g M :: tbm M [] 0 :: ms) w' := by
  go_enter Try.func38, Try.ntmps38
  go_wp2_with (first | ((with_reducible refine isMakeMap ?_); refine mkM ekey hS rfl rfl ?_; clear hS; intro M w hS; (try simp only [Act.put, zE, zF, zG])) | ((with_reducible refine atList ?_); first | ((with_reducible refine isGuard ?_); first | go_skip | ((with_reducible refine guarded_no ?hw ?_); (case hw => (simp only [Region.wanted, yielded, zC, zA, zB, zK]; first | exact (rfl : (some true == some false) = false) | exact (rfl : (some false == some true) = false))); (try simp only [Act.put, zE, zF, zG])) | ((with_reducible refine guarded_yes ?hw ?_); case hw => (simp only [Region.wanted, yielded, zC, zA, zB, zK, beq_self_eq_true]; done)) | ((refine' guarded_cases (b := _) ?hy ?_ ?_); (case hy => (simp only [yielded, zC, zA, zB, zK]; exact rfl)); all_goals (intro hb; (try simp only [Bool.not_true, Bool.not_false] at hb); (try simp only [hb]); (try simp only [Act.put, zE, zF, zG]); first | ((have hf : False := by (simp at hb; done)); cases hf) | ((have hf : False := by (simp at hb; omega)); cases hf) | skip))) | ((with_reducible refine isLoad ?_); (first | (refine ld1 0 hS rfl rfl ?ha rfl rfl rfl ?_; (case ha => exact ty_agg3)) | ((refine' ldI1 (v := _) hS rfl rfl ?ha rfl ?hb ?_); (case ha => exact ty_agg3); (case hb => assumption))); (try simp only [Act.put, zE, zF, zG])) | ((with_reducible refine isStore ?_); (first | (refine st1 0 hS rfl rfl rfl rfl rfl ?ha rfl rfl ?hb ?_; (case ha => exact ty_sz3); (case hb => (simp; done)))); clear hS; intro w hS; (try simp only [zF, zG, zE, Act.eval, zD, zC, zA, zB, zJ, Value.cells] at hS); (try simp only [Act.put, zE, zF, zG])) | ((with_reducible refine isBox ?_); refine bx hS rfl rfl rfl ?_; clear hS; intro X w hS; (try simp only [Act.eval, zD, zC, zA, zB, zJ, Value.cells] at hS); (try simp only [Act.put, zE, zF, zG])) | ((with_reducible refine isAlloc ?_); (refine' al (z := _) hS rfl rfl ?ha ?_); (case ha => exact ty_z3); clear hS; intro X w hS; (try simp only [Act.eval, zD, zC, zA, zB, zJ, Value.cells] at hS); (try simp only [Act.put, zE, zF, zG]))))
  go_ret
  exact ⟨_, _, rfl, hS⟩
theorem find_any (w : World) (g M : Nat) (es : List En) (c : Nat) (lo hi : Int) (h : TbIn (heapOf w) g M es c) :
    Calls Try.prog 62 #[.pointer (some ⟨g, 0, none⟩), .int .i64 lo, .int .i64 hi] w fun e w' => e = .returned (.tuple #[.int .i64 ((findE es lo hi).getD 0), .bool (findE es lo hi).isSome]) ∧ w = w' := by
  have hS := Sat.start w
  have H1 := h.v
  have H2 := Lib.hid h.m
  have hq := getR_rows es lo hi
  generalize rows es = l at *
  cases hf : findE es lo hi with
  | none =>
    rw [hf] at hq
    have Hq := Lib.hid hq
    clear hq hf h
    go_enter Try.func62, Try.ntmps62
    go_wp2_with (first | ((with_reducible refine isLookup ?_); refine lk2 (x := (lo, hi)) hS (.inl (PH.le.refl _)) H2.out kE Try.underlying113 ty_z3 rfl rfl rfl rfl Hq.out ?_; simp only [Option.map_none, Option.map_some, Option.getD_none, zJ, Option.isSome_none, Option.isSome_some]; (try simp only [Act.put, zE, zF, zG])) | ((with_reducible refine atList ?_); first | ((with_reducible refine isGuard ?_); first | go_skip | ((with_reducible refine guarded_no ?hw ?_); (case hw => (simp only [Region.wanted, yielded, zC, zA, zB, zK]; first | exact (rfl : (some true == some false) = false) | exact (rfl : (some false == some true) = false))); (try simp only [Act.put, zE, zF, zG])) | ((with_reducible refine guarded_yes ?hw ?_); case hw => (simp only [Region.wanted, yielded, zC, zA, zB, zK, beq_self_eq_true]; done)) | ((refine' guarded_cases (b := _) ?hy ?_ ?_); (case hy => (simp only [yielded, zC, zA, zB, zK]; exact rfl)); all_goals (intro hb; (try simp only [Bool.not_true, Bool.not_false] at hb); (try simp only [hb]); (try simp only [Act.put, zE, zF, zG]); first | ((have hf : False := by (simp at hb; done)); cases hf) | ((have hf : False := by (simp at hb; omega)); cases hf) | skip))) | ((with_reducible refine isLoad ?_); (first | (refine ld1 0 hS rfl rfl ?ha rfl rfl rfl ?_; (case ha => exact ty_agg113)) | ((refine' ldI1 (v := _) hS rfl rfl ?ha rfl ?hb ?_); (case ha => exact ty_agg113); (case hb => assumption))); (try simp only [Act.put, zE, zF, zG])) | ((with_reducible refine isStore ?_); (first | (refine st1 0 hS rfl rfl rfl rfl rfl ?ha rfl rfl ?hb ?_; (case ha => exact ty_sz113); (case hb => (simp; done)))); clear hS; intro w hS; (try simp only [zF, zG, zE, Act.eval, zD, zC, zA, zB, zJ, Value.cells] at hS); (try simp only [Act.put, zE, zF, zG])) | ((with_reducible refine isBox ?_); refine bx hS rfl rfl rfl ?_; clear hS; intro X w hS; (try simp only [Act.eval, zD, zC, zA, zB, zJ, Value.cells] at hS); (try simp only [Act.put, zE, zF, zG])) | ((with_reducible refine isAlloc ?_); (refine' al (z := _) hS rfl rfl ?ha ?_); (case ha => exact ty_z113); clear hS; intro X w hS; (try simp only [Act.eval, zD, zC, zA, zB, zJ, Value.cells] at hS); (try simp only [Act.put, zE, zF, zG]))))
    go_ret2
    exact ⟨rfl, rfl⟩
  | some i =>
    rw [hf] at hq
    have Hq := Lib.hid hq
    clear hq hf h
    go_enter Try.func62, Try.ntmps62
    go_wp2_with (first | ((with_reducible refine isLookup ?_); refine lk2 (x := (lo, hi)) hS (.inl (PH.le.refl _)) H2.out kE Try.underlying113 ty_z3 rfl rfl rfl rfl Hq.out ?_; simp only [Option.map_none, Option.map_some, Option.getD_none, zJ, Option.isSome_none, Option.isSome_some]; (try simp only [Act.put, zE, zF, zG])) | ((with_reducible refine atList ?_); first | ((with_reducible refine isGuard ?_); first | go_skip | ((with_reducible refine guarded_no ?hw ?_); (case hw => (simp only [Region.wanted, yielded, zC, zA, zB, zK]; first | exact (rfl : (some true == some false) = false) | exact (rfl : (some false == some true) = false))); (try simp only [Act.put, zE, zF, zG])) | ((with_reducible refine guarded_yes ?hw ?_); case hw => (simp only [Region.wanted, yielded, zC, zA, zB, zK, beq_self_eq_true]; done)) | ((refine' guarded_cases (b := _) ?hy ?_ ?_); (case hy => (simp only [yielded, zC, zA, zB, zK]; exact rfl)); all_goals (intro hb; (try simp only [Bool.not_true, Bool.not_false] at hb); (try simp only [hb]); (try simp only [Act.put, zE, zF, zG]); first | ((have hf : False := by (simp at hb; done)); cases hf) | ((have hf : False := by (simp at hb; omega)); cases hf) | skip))) | ((with_reducible refine isLoad ?_); (first | (refine ld1 0 hS rfl rfl ?ha rfl rfl rfl ?_; (case ha => exact ty_agg113)) | ((refine' ldI1 (v := _) hS rfl rfl ?ha rfl ?hb ?_); (case ha => exact ty_agg113); (case hb => assumption))); (try simp only [Act.put, zE, zF, zG])) | ((with_reducible refine isStore ?_); (first | (refine st1 0 hS rfl rfl rfl rfl rfl ?ha rfl rfl ?hb ?_; (case ha => exact ty_sz113); (case hb => (simp; done)))); clear hS; intro w hS; (try simp only [zF, zG, zE, Act.eval, zD, zC, zA, zB, zJ, Value.cells] at hS); (try simp only [Act.put, zE, zF, zG])) | ((with_reducible refine isBox ?_); refine bx hS rfl rfl rfl ?_; clear hS; intro X w hS; (try simp only [Act.eval, zD, zC, zA, zB, zJ, Value.cells] at hS); (try simp only [Act.put, zE, zF, zG])) | ((with_reducible refine isAlloc ?_); (refine' al (z := _) hS rfl rfl ?ha ?_); (case ha => exact ty_z113); clear hS; intro X w hS; (try simp only [Act.eval, zD, zC, zA, zB, zJ, Value.cells] at hS); (try simp only [Act.put, zE, zF, zG]))))
    go_ret2
    exact ⟨rfl, rfl⟩
end Go.Proofs.Ytdhkkkhnjooioaa
