/- Nodes that come in. -/
import Derived.Test.YtcnejokbldohlaaRL
import Derived.Test.YtcnejokbldohlaaPa
namespace Go.Proofs.Ytcnejokbldohlaa
open Go.ChangeShapes Go.WideShapes Go.ChangeAt Go.RowKit
set_option linter.unusedVariables false
section
variable {H : Type} {enc : TypeId × Value → H} {W : World} {base b0 : Nat} {sp : Nat → Bool} {held : Bool} {r : Reach}
theorem node_cells {n : Nat} {cs : List Value} {y : DataW H × List MemPlace} (h : DataW.trod enc Try.prog W base sp held n 29 cs = some y) : ∃ m : Nd, cs = m.cells := by
  obtain ⟨xs, q, _, _, hl, hxl, hf⟩ := DataW.trod_struct Try.underlying29 h
  have hl5 : cs.length = 5 := by rw [hl]; kernel_rfl
  have hxl5 : xs.length = 5 := by rw [hxl]; rfl
  match cs, hl5, xs, hxl5 with
  | [c0, c1, c2, c3, c4], _, [x0, x1, x2, x3, x4], _ =>
    have ci : Try.prog.cellsOf 3 = 1 := by kernel_rfl
    have f0 : DataW.trod enc Try.prog W base sp held q 3 (([c0, c1, c2, c3, c4].drop 0).take (Try.prog.cellsOf 3)) = some x0 := hf 0 _ rfl
    have f1 : DataW.trod enc Try.prog W base sp held q 3 (([c0, c1, c2, c3, c4].drop 1).take (Try.prog.cellsOf 3)) = some x1 := hf 1 _ rfl
    have f2 : DataW.trod enc Try.prog W base sp held q 3 (([c0, c1, c2, c3, c4].drop 2).take (Try.prog.cellsOf 3)) = some x2 := hf 2 _ rfl
    have f3 : DataW.trod enc Try.prog W base sp held q 3 (([c0, c1, c2, c3, c4].drop 3).take (Try.prog.cellsOf 3)) = some x3 := hf 3 _ rfl
    have f4 : DataW.trod enc Try.prog W base sp held q 3 (([c0, c1, c2, c3, c4].drop 4).take (Try.prog.cellsOf 3)) = some x4 := hf 4 _ rfl
    rw [ci] at f0 f1 f2 f3 f4
    obtain ⟨a0, e0, _⟩ := DataW.trod_int Try.underlying3 f0
    obtain ⟨a1, e1, _⟩ := DataW.trod_int Try.underlying3 f1
    obtain ⟨a2, e2, _⟩ := DataW.trod_int Try.underlying3 f2
    obtain ⟨a3, e3, _⟩ := DataW.trod_int Try.underlying3 f3
    obtain ⟨a4, e4, _⟩ := DataW.trod_int Try.underlying3 f4
    simp at e0 e1 e2 e3 e4
    subst e0 e1 e2 e3 e4
    exact ⟨⟨a0, a1, a2, a3, a4⟩, rfl⟩
theorem open_node {v : Value} {d : DataW H} {p : List MemPlace} (hv : Value.okWide Try.prog W r b0 29 v) (h : DataW.Trod enc Try.prog W base sp held 29 v d p) : ∃ m : Nd, v = m.val := by
  obtain ⟨cs, rfl, hsz⟩ := okWide_struct Try.underlying29 hv
  obtain ⟨fuel, hf⟩ := h
  obtain ⟨m, hm⟩ := node_cells hf
  refine ⟨m, ?_⟩
  have : cs = m.cells.toArray := by
    simp only [Value.cells] at hm
    rw [← hm]
  rw [this]
  rfl
end
end Go.Proofs.Ytcnejokbldohlaa
