/- cmp.Compare, cmp.Or, the comparison of Table.Each. -/
import Derived.Test.YtmgjoggffnogfaaVf
import Derived.Test.YtmgjoggffnogfaaVc
import Derived.Test.YtmgjoggffnogfaaShelf
import Derived.StillTailTactics
namespace Go.Proofs.Ytmgjoggffnogfaa
set_option linter.unusedSimpArgs false
set_option linter.unusedVariables false
open Go.RowKit Go.Lib Go.Sort
set_option linter.unusedVariables false
section
variable {P : Program} {o : Oper} {a : Act} {w : World} {Q : Act → Prop} {ops : Array Oper} {rest : List Oper}
theorem stLoad {dst : Option Tmp} {type : TypeId} {pos : String} {after : Array Edge} {T : TypeId} {x : Operand} (h : wpStill P ops w Q (⟨dst, .load T x, type, pos, after, none⟩ :: rest) a) : wpStill P ops w Q (⟨dst, .load T x, type, pos, after, none⟩ :: rest) a := h
theorem stLookup {dst : Option Tmp} {type : TypeId} {pos : String} {after : Array Edge} {T : TypeId} {m y : Operand} {c : Bool} (h : wpStill P ops w Q (⟨dst, .lookup T m y c, type, pos, after, none⟩ :: rest) a) : wpStill P ops w Q (⟨dst, .lookup T m y c, type, pos, after, none⟩ :: rest) a := h
theorem still_val {v : Value} (hg : o.guard = none) (hr : (execOp a.eval o).run P w = .ok (.value v) w) (h : wpStill P ops w Q rest (a.put o.dst v)) : wpStill P ops w Q (o :: rest) a := by
  unfold wpStill
  have : Region.wanted o (yielded ops a.tmps) = true := by simp [Region.wanted, hg]
  rw [if_pos this]
  unfold Oper.still
  rw [hr]
  exact ⟨rfl, h⟩
theorem stl1 {p : PH} (hp : p.le (heapOf w)) (hg : o.guard = none) {T : TypeId} {x : Operand} (ho : o.op = .load T x) (hT : aggB P T = some false) {X off : Nat} {v : Value} (hx : a.eval x = .pointer (some ⟨X, off, none⟩)) (hc : p.at X off = some v)
    (h : wpStill P ops w Q rest (a.put o.dst v)) : wpStill P ops w Q (o :: rest) a :=
  still_val hg (by
    unfold execOp
    simp only [ho, hx, Sem.run_bind, run_load1 hp hT hc, Result.andThen_ok, Sem.run_pure]) h
theorem stlN {p : PH} (hp : p.le (heapOf w)) (hg : o.guard = none) {T : TypeId} {x : Operand} (ho : o.op = .load T x) (hT : aggB P T = some true) {X off : Nat} {vs : List Value} (hx : a.eval x = .pointer (some ⟨X, off, none⟩)) (hc : Cells p X off vs) (hs : sizeB P T = some vs.length)
    (h : wpStill P ops w Q rest (a.put o.dst (.agg vs.toArray))) : wpStill P ops w Q (o :: rest) a :=
  still_val hg (by
    unfold execOp
    simp only [ho, hx, Sem.run_bind, run_loadN hp hT hc hs, Result.andThen_ok, Sem.run_pure]) h
theorem stk1 {α : Type} [DecidableEq α] {key : α → Value} {kt et T : TypeId} {l : List (Rw α)} {clock M : Nat} {x : α} {p : PH} (hp : p.le (heapOf w)) (hpM : p M = some (mapObj key l clock)) (hk : Key P kt key) (ht : P.underlying T = some (.map kt et)) {z : Value} (hz : zeroB P et = some z) (hg : o.guard = none) {m y : Operand} (ho : o.op = .lookup T m y false)
    (hm : a.eval m = .map (some M)) (hy : a.eval y = key x) {v : Value} (hq : (getR l x).getD z = v) (h : wpStill P ops w Q rest (a.put o.dst v)) : wpStill P ops w Q (o :: rest) a :=
  still_val hg (by
    have hM : w.heap[M]? = some (mapObj key l clock) := hp M _ hpM
    unfold execOp
    simp only [ho, hm, hy, Sem.run_bind, run_lookup_S hk ht hz hM false, Result.andThen_ok, Sem.run_pure, Bool.false_eq_true, if_false, hq]) h
end
theorem nan_int (x : Int) (w : World) : Calls Try.prog 30 #[.int .i64 x] w fun e w' => e = .returned (.bool false) ∧ w = w' := by
  go_enter Try.func30, Try.ntmps30
  go_wp2
  go_ret
  exact ⟨rfl, rfl⟩
theorem nan_edge (x : Int) (w : World) : Calls Try.prog 31 #[.int .i64 x] w fun e w' => e = .returned (.bool false) ∧ w = w' := by
  go_enter Try.func31, Try.ntmps31
  go_wp2
  go_ret
  exact ⟨rfl, rfl⟩
theorem cmpI_lt {x y : Int} (h : x < y) : compareInt x y = -1 := by unfold compareInt; simp [h]
theorem cmpI_gt {x y : Int} (h : y < x) : compareInt x y = 1 := by unfold compareInt; rw [if_neg (by omega)]; simp [h]
theorem cmpI_eq {x y : Int} (h : x = y) : compareInt x y = 0 := by unfold compareInt; simp [h]
theorem cmp_int (x y : Int) (w : World) : Calls Try.prog 26 #[.int .i64 x, .int .i64 y] w fun e w' => e = .returned (.int .i64 (compareInt x y)) ∧ w = w' := by
  rcases Int.lt_trichotomy x y with h | h | h
  · rw [cmpI_lt h]
    go_enter Try.func26, Try.ntmps26
    go_wp2_with (go_at_call 30; refine (nan_int _ _).mono ?_; rintro e w' ⟨rfl, rfl⟩)
    go_ret
    exact ⟨rfl, rfl⟩
  · rw [cmpI_eq h]
    subst h
    go_enter Try.func26, Try.ntmps26
    go_wp2_with (go_at_call 30; refine (nan_int _ _).mono ?_; rintro e w' ⟨rfl, rfl⟩)
    go_ret
    exact ⟨rfl, rfl⟩
  · rw [cmpI_gt h]
    have h' : ¬ x < y := by omega
    go_enter Try.func26, Try.ntmps26
    go_wp2_with (go_at_call 30; refine (nan_int _ _).mono ?_; rintro e w' ⟨rfl, rfl⟩)
    go_ret
    exact ⟨rfl, rfl⟩
theorem cmp_edge (x y : Int) (w : World) : Calls Try.prog 27 #[.int .i64 x, .int .i64 y] w fun e w' => e = .returned (.int .i64 (compareInt x y)) ∧ w = w' := by
  rcases Int.lt_trichotomy x y with h | h | h
  · rw [cmpI_lt h]
    go_enter Try.func27, Try.ntmps27
    go_wp2_with (go_at_call 31; refine (nan_edge _ _).mono ?_; rintro e w' ⟨rfl, rfl⟩)
    go_ret
    exact ⟨rfl, rfl⟩
  · rw [cmpI_eq h]
    subst h
    go_enter Try.func27, Try.ntmps27
    go_wp2_with (go_at_call 31; refine (nan_edge _ _).mono ?_; rintro e w' ⟨rfl, rfl⟩)
    go_ret
    exact ⟨rfl, rfl⟩
  · rw [cmpI_gt h]
    have h' : ¬ x < y := by omega
    go_enter Try.func27, Try.ntmps27
    go_wp2_with (go_at_call 31; refine (nan_edge _ _).mono ?_; rintro e w' ⟨rfl, rfl⟩)
    go_ret
    exact ⟨rfl, rfl⟩
def orV (a b c : Int) : Int := if a ≠ 0 then a else if b ≠ 0 then b else c
set_option maxHeartbeats 1000000 in
theorem or_any (w : World) (X : Nat) (a b c : Int) (ha : w.cell? ⟨X, 0, none⟩ = some (.int .i64 a)) (hb : w.cell? ⟨X, 1, none⟩ = some (.int .i64 b)) (hc : w.cell? ⟨X, 2, none⟩ = some (.int .i64 c)) :
    Calls Try.prog 25 #[.slice (some ⟨X, 0, none⟩) 3 3] w fun e w' => e = .returned (.int .i64 (orV a b c)) ∧ w = w' := by
  unfold orV
  by_cases h1 : a = 0
  · subst h1
    rw [if_neg (by simp)]
    by_cases h2 : b = 0
    · subst h2
      rw [if_neg (by simp)]
      by_cases h3 : c = 0
      · subst h3
        go_enter Try.func25, Try.ntmps25
        go_wp2
        refine wp_loop_rounds 4 ?_
        rw [rounds_succ]
        go_wp2
        rw [rounds_succ]
        go_wp2
        rw [rounds_succ]
        go_wp2
        rw [rounds_succ]
        go_wp2
        go_ret
        exact ⟨rfl, rfl⟩
      · go_enter Try.func25, Try.ntmps25
        go_wp2
        refine wp_loop_rounds 3 ?_
        rw [rounds_succ]
        go_wp2
        rw [rounds_succ]
        go_wp2
        rw [rounds_succ]
        go_wp2
        go_ret
        exact ⟨rfl, rfl⟩
    · rw [if_pos h2]
      go_enter Try.func25, Try.ntmps25
      go_wp2
      refine wp_loop_rounds 2 ?_
      rw [rounds_succ]
      go_wp2
      rw [rounds_succ]
      go_wp2
      go_ret
      exact ⟨rfl, rfl⟩
  · rw [if_pos h1]
    go_enter Try.func25, Try.ntmps25
    go_wp2
    refine wp_loop_rounds 1 ?_
    rw [rounds_succ]
    go_wp2
    go_ret
    exact ⟨rfl, rfl⟩
end Go.Proofs.Ytmgjoggffnogfaa
