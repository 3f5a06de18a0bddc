/- The comparison of Table.Each. -/
import Derived.Test.YtmgjoggffnogfaaVg
namespace Go.Proofs.Ytmgjoggffnogfaa
set_option linter.unusedSimpArgs false
set_option linter.unusedVariables false
open Go.RowKit Go.Lib Go.Sort
set_option linter.unusedVariables false
theorem ty_agg23 : aggB Try.prog 23 = some false := by kernel_rfl
theorem ty_sz23 : sizeB Try.prog 23 = some 1 := by kernel_rfl
theorem ty_z23 : zeroB Try.prog 23 = some (.pointer none) := by kernel_rfl
theorem ty_agg36 : aggB Try.prog 36 = some false := by kernel_rfl
theorem ty_sz36 : sizeB Try.prog 36 = some 1 := by kernel_rfl
theorem ty_z36 : zeroB Try.prog 36 = some (.int .i64 0) := by kernel_rfl
theorem kA_agg : aggB Try.prog 53 = some true := by kernel_rfl
theorem kA_sz : sizeB Try.prog 53 = some 2 := by kernel_rfl
def encE (x : Int × Int) : List Value := [.int .i64 x.1, .int .i64 x.2]
def idE (es : List En) (x : Int × Int) : Int := (findE es x.1 x.2).getD 0
def cfE (es : List En) (x y : Int × Int) : Int := orV (compareInt (idE es x) (idE es y)) (compareInt x.1 y.1) (compareInt x.2 y.2)
theorem idE_get (es : List En) (x : Int × Int) : (getR (rows es) x).getD (.int .i64 0) = .int .i64 (idE es x) := by
  obtain ⟨a, b⟩ := x
  rw [getR_rows]
  unfold idE
  cases findE es a b <;> rfl
set_option maxHeartbeats 2000000 in
theorem less_any (W : World) (Y g M : Nat) (es : List En) (c : Nat) (x y : Int × Int) (hY : (heapOf W).at Y 0 = some (.pointer (some ⟨g, 0, none⟩))) (hT : TbIn (heapOf W) g M es c) :
    Calls Try.prog 24 #[.agg #[.int .i64 x.1, .int .i64 x.2], .agg #[.int .i64 y.1, .int .i64 y.2], .pointer (some ⟨Y, 0, none⟩)] W fun e w' => e = .returned (.int .i64 (cfE es x y)) ∧ ∃ q os', w' = grow (W.drewN q) os' := by
  have h1 := idE_get es x
  have h2 := idE_get es y
  unfold cfE
  obtain ⟨x1, x2⟩ := x
  obtain ⟨y1, y2⟩ := y
  simp only at *
  generalize idE es (x1, x2) = i at *
  generalize idE es (y1, y2) = j at *
  have hv := hT.v
  have hm := hT.m
  generalize rows es = l at *
  clear hT
  generalize hr : orV (compareInt i j) (compareInt x1 y1) (compareInt x2 y2) = r
  have Hr := Lib.hid hr
  have H1 := Lib.hid h1
  have H2 := Lib.hid h2
  have HY := Lib.hid hY
  have HV := Lib.hid hv
  have HM := Lib.hid hm
  clear hr h1 h2 hY hv hm
  go_enter Try.func24, Try.ntmps24
  go_wp2
  have hS := ((Sat.start W).alloc (.cells #[.int .i64 x1, .int .i64 x2] 53)).alloc (.cells #[.int .i64 y1, .int .i64 y2] 53)
  have gY : (heapOf ((W.alloc (.cells #[.int .i64 x1, .int .i64 x2] 53)).alloc (.cells #[.int .i64 y1, .int .i64 y2] 53))).at Y 0 = _ := PH.at_le hS.ile HY.out
  have gV : (heapOf ((W.alloc (.cells #[.int .i64 x1, .int .i64 x2] 53)).alloc (.cells #[.int .i64 y1, .int .i64 y2] 53))).at g 0 = _ := PH.at_le hS.ile HV.out
  have gM : (heapOf ((W.alloc (.cells #[.int .i64 x1, .int .i64 x2] 53)).alloc (.cells #[.int .i64 y1, .int .i64 y2] 53))) M = _ := hS.ile _ _ HM.out
  have gx : Cells (heapOf ((W.alloc (.cells #[.int .i64 x1, .int .i64 x2] 53)).alloc (.cells #[.int .i64 y1, .int .i64 y2] 53))) W.heap.size 0 [.int .i64 x1, .int .i64 x2] := (Cells.one W.heap.size #[.int .i64 x1, .int .i64 x2] 53 (0, 0)).le (hS.own _ (.tail _ (.head _)))
  have gy : Cells (heapOf ((W.alloc (.cells #[.int .i64 x1, .int .i64 x2] 53)).alloc (.cells #[.int .i64 y1, .int .i64 y2] 53))) (W.heap.size + 1) 0 [.int .i64 y1, .int .i64 y2] := by
    have := (Cells.one (W.alloc (.cells #[.int .i64 x1, .int .i64 x2] 53)).heap.size #[.int .i64 y1, .int .i64 y2] 53 (0, 0)).le (hS.own _ (.head _))
    have e : (W.alloc (.cells #[.int .i64 x1, .int .i64 x2] 53)).heap.size = W.heap.size + 1 := by simp
    rw [e] at this
    exact this
  have hw : ((W.alloc (.cells #[.int .i64 x1, .int .i64 x2] 53)).alloc (.cells #[.int .i64 y1, .int .i64 y2] 53)) = grow W #[.cells #[.int .i64 x1, .int .i64 x2] 53, .cells #[.int .i64 y1, .int .i64 y2] 53] := by
    rw [alloc_eq_grow, alloc_eq_grow, grow_grow]; rfl
  clear hS
  generalize ((W.alloc (.cells #[.int .i64 x1, .int .i64 x2] 53)).alloc (.cells #[.int .i64 y1, .int .i64 y2] 53)) = w at *
  have x0 : (heapOf w).at W.heap.size 0 = some (.int .i64 x1) := gx 0 _ rfl
  have x1' : (heapOf w).at W.heap.size 1 = some (.int .i64 x2) := gx 1 _ rfl
  have y0 : (heapOf w).at (W.heap.size + 1) 0 = some (.int .i64 y1) := gy 0 _ rfl
  have y1' : (heapOf w).at (W.heap.size + 1) 1 = some (.int .i64 y2) := gy 1 _ rfl
  have GY := Lib.hid gY
  have GV := Lib.hid gV
  have GM := Lib.hid gM
  have Gx := Lib.hid gx
  have Gy := Lib.hid gy
  have X0 := Lib.hid x0
  have X1 := Lib.hid x1'
  have Y0 := Lib.hid y0
  have Y1 := Lib.hid y1'
  have Hw := Lib.hid hw
  clear gY gV gM gx gy x0 x1' y0 y1' hw
  refine wp_region_still_tail 23 (by kernel_rfl) (by kernel_rfl) ?_
  simp only [List.take_succ_cons, List.take_zero, List.drop_succ_cons, List.drop_zero]
  repeat (first
    | ((with_reducible refine stLoad ?_); first
        | (refine stl1 (v := _) (p := heapOf w) (PH.le.refl _) rfl rfl ty_agg23 rfl GY.out ?_; (try simp only [Act.put, List.setIfInBounds_toArray, List.set_cons_succ, List.set_cons_zero]))
        | (refine stl1 (v := _) (p := heapOf w) (PH.le.refl _) rfl rfl ty_agg48 rfl GV.out ?_; (try simp only [Act.put, List.setIfInBounds_toArray, List.set_cons_succ, List.set_cons_zero]))
        | (refine stlN (vs := _) (p := heapOf w) (PH.le.refl _) rfl rfl kA_agg rfl Gx.out kA_sz ?_; (try simp only [Act.put, List.setIfInBounds_toArray, List.set_cons_succ, List.set_cons_zero]))
        | (refine stlN (vs := _) (p := heapOf w) (PH.le.refl _) rfl rfl kA_agg rfl Gy.out kA_sz ?_; (try simp only [Act.put, List.setIfInBounds_toArray, List.set_cons_succ, List.set_cons_zero]))
        | (refine stl1 (v := _) (p := heapOf w) (PH.le.refl _) rfl rfl ty_agg36 rfl X0.out ?_; (try simp only [Act.put, List.setIfInBounds_toArray, List.set_cons_succ, List.set_cons_zero]))
        | (refine stl1 (v := _) (p := heapOf w) (PH.le.refl _) rfl rfl ty_agg36 rfl X1.out ?_; (try simp only [Act.put, List.setIfInBounds_toArray, List.set_cons_succ, List.set_cons_zero]))
        | (refine stl1 (v := _) (p := heapOf w) (PH.le.refl _) rfl rfl ty_agg36 rfl Y0.out ?_; (try simp only [Act.put, List.setIfInBounds_toArray, List.set_cons_succ, List.set_cons_zero]))
        | (refine stl1 (v := _) (p := heapOf w) (PH.le.refl _) rfl rfl ty_agg36 rfl Y1.out ?_; (try simp only [Act.put, List.setIfInBounds_toArray, List.set_cons_succ, List.set_cons_zero])))
    | ((with_reducible refine stLookup ?_); first
        | (refine stk1 (x := (x1, x2)) (p := heapOf w) (PH.le.refl _) GM.out kE Try.underlying48 ty_z3 rfl rfl rfl rfl H1.out ?_; (try simp only [Act.put, List.setIfInBounds_toArray, List.set_cons_succ, List.set_cons_zero]))
        | (refine stk1 (x := (y1, y2)) (p := heapOf w) (PH.le.refl _) GM.out kE Try.underlying48 ty_z3 rfl rfl rfl rfl H2.out ?_; (try simp only [Act.put, List.setIfInBounds_toArray, List.set_cons_succ, List.set_cons_zero])))
    | still_call ((cmp_int _ _ _).mono fun _ _ h => ⟨h.1, h.2.symm⟩)
    | still_call ((cmp_edge _ _ _).mono fun _ _ h => ⟨h.1, h.2.symm⟩)
    | still_step)
  refine wpStill_nil ?_
  go_wp2_with (go_at_call 25; refine Held_.in_ ?_)
  refine Held_.out ?_

  refine (or_any _ _ (compareInt i j) (compareInt x1 y1) (compareInt x2 y2) ?ha ?hb ?hc).mono ?_
  case ha => go_simp
  case hb => go_simp
  case hc => go_simp
  rintro e w' ⟨rfl, rfl⟩
  go_wp2
  go_ret
  have hr := Hr.out
  have hw := Hw.out
  clear Hr Hw
  subst hr hw
  refine ⟨rfl, 1, #[.cells #[.int .i64 x1, .int .i64 x2] 53, .cells #[.int .i64 y1, .int .i64 y2] 53] ++ #[.cells #[.int .i64 (compareInt i j), .int .i64 (compareInt x1 y1), .int .i64 (compareInt x2 y2)] 3], ?_⟩
  rw [alloc_eq_grow, grow_grow]
  rfl
end Go.Proofs.Ytmgjoggffnogfaa
