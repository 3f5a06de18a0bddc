/- uniq: the operations that come in. -/
import Derived.Test.YtmgjoggffnogfaaVr
import Derived.Test.YtmgjoggffnogfaaRL
namespace Go.Proofs.Ytmgjoggffnogfaa
set_option linter.unusedSimpArgs false
set_option linter.unusedVariables false
open Go.ChangeShapes Go.WideShapes Go.ChangeAt Go.RowKit
set_option linter.unusedVariables false
section
variable {H : Type} {enc : TypeId × Value → H} {W : World} {base b0 : Nat} {sp : Nat → Bool} {held : Bool} {r : Reach}
theorem ac_ci : Try.prog.cellsOf 3 = 1 := by kernel_rfl
theorem ac_ca : Try.prog.cellsOf 28 = 4 := by kernel_rfl
theorem trod_ac {n : Nat} {cs : List Value} {y : DataW H × List MemPlace} (h : DataW.trod enc Try.prog W base sp held n 28 cs = some y) : ∃ a : Ac, cs = a.cells := by
  obtain ⟨xs, m, rfl, rfl, hl, hxl, hfs⟩ := DataW.trod_struct Try.underlying28 h
  rw [ac_ca] at hl
  match cs, hl with
  | [a0, a1, a2, a3], _ =>
  have hx3 : xs.length = 4 := by rw [hxl]; rfl
  match xs, hx3 with
  | [x0, x1, x2, x3], _ =>
  have f0 := hfs 0 _ rfl
  have f1 := hfs 1 _ rfl
  have f2 := hfs 2 _ rfl
  have f3 := hfs 3 _ rfl
  simp only [ac_ci, List.drop_zero, List.drop_succ_cons, List.take_succ_cons, List.take_zero, List.getElem?_cons_zero, List.getElem?_cons_succ] at f0 f1 f2 f3
  obtain ⟨i0, h0, _⟩ := DataW.trod_int Try.underlying3 f0
  obtain ⟨i1, h1, _⟩ := DataW.trod_int Try.underlying3 f1
  obtain ⟨i2, h2, _⟩ := DataW.trod_int Try.underlying3 f2
  obtain ⟨i3, h3, _⟩ := DataW.trod_int Try.underlying3 f3
  injection h0 with h0
  injection h1 with h1
  injection h2 with h2
  injection h3 with h3
  subst h0 h1 h2 h3
  exact ⟨⟨i0, i1, i2, i3⟩, rfl⟩
theorem open_acs {v : Value} {d : DataW H} {p : List MemPlace} (hv : Value.okWide Try.prog W r b0 22 v) (h : DataW.Trod enc Try.prog W base sp held 22 v d p) :
    ∃ (A : Option Addr) (c : Nat) (l : List Ac), v = .slice A l.length c ∧ RowA (heapOf W) A l ∧ l.length ≤ maxLen := by
  obtain ⟨A, c, rows, rfl, h1, h2, h3, h4⟩ := rl_open Try.underlying22 ac_ca (by omega) hv h
  obtain ⟨l, rfl, hl⟩ := rows_map (f := Ac.cells) (Q := fun _ => True) (rows := rows) (fun row hr => by
    obtain ⟨_, n, y, hy⟩ := h4 row hr
    obtain ⟨a, ha⟩ := trod_ac hy
    exact ⟨a, ha, trivial⟩)
  have hf : (l.map Ac.cells).flatten = l.flatMap Ac.cells := by rw [List.flatMap_def]
  rw [hf] at h3
  simp only [List.length_map] at h1 h3 h2
  refine ⟨A, c, l, by simp, fun hn => ?_, Nat.le_trans h1 h2⟩
  obtain ⟨b, o, e, hb, hc⟩ := h3.2 hn
  have hfl : (l.flatMap Ac.cells).length = l.length * 4 := h3.1
  refine ⟨b, o, e, fun j u hj => ?_⟩
  have hjl : j < l.length * 4 := by
    have := (List.getElem?_eq_some_iff.1 hj).1
    omega
  have := hc j hjl
  rw [hj] at this
  unfold World.cell? at this
  unfold PH.at heapOf
  cases hw : W.heap[b]? with
  | none => rw [hw] at this; cases this
  | some ob =>
    rw [hw] at this
    cases ob <;> first | (cases this) | (simpa using this)
end
end Go.Proofs.Ytmgjoggffnogfaa
