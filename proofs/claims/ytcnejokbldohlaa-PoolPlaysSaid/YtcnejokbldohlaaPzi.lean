/- PoolPlays: the script that comes in. -/
import Derived.Test.YtcnejokbldohlaaPzh
namespace Go.Proofs.Ytcnejokbldohlaa
set_option linter.unusedSimpArgs false
set_option linter.unusedVariables false
open Go.ChangeShapes Go.WideShapes Go.ChangeAt Go.RowKit
set_option linter.unusedVariables false
section
variable {H : Type} {enc : TypeId × Value → H} {W : World} {base b0 : Nat} {sp : Nat → Bool} {held : Bool} {r : Reach}
theorem ac_c8 : Try.prog.cellsOf 5 = 1 := by kernel_rfl
theorem ac_ci : Try.prog.cellsOf 3 = 1 := by kernel_rfl
theorem ac_cn : Try.prog.cellsOf 29 = 5 := by kernel_rfl
theorem ac_ca : Try.prog.cellsOf 59 = 7 := by kernel_rfl
theorem trod_node {n : Nat} {cs : List Value} {y : DataW H × List MemPlace} (h : DataW.trod enc Try.prog W base sp held n 29 cs = some y) : ∃ nd : Nd, cs = nd.cells := by
  obtain ⟨xs, m, rfl, rfl, hl, hxl, hfs⟩ := DataW.trod_struct Try.underlying29 h
  rw [ac_cn] at hl
  match cs, hl with
  | [a0, a1, a2, a3, a4], _ =>
  have hx3 : xs.length = 5 := by rw [hxl]; rfl
  match xs, hx3 with
  | [x0, x1, x2, x3, x4], _ =>
  have f0 := hfs 0 _ rfl
  have f1 := hfs 1 _ rfl
  have f2 := hfs 2 _ rfl
  have f3 := hfs 3 _ rfl
  have f4 := hfs 4 _ rfl
  simp only [ac_ci, List.drop_zero, List.drop_succ_cons, List.take_succ_cons, List.take_zero, List.getElem?_cons_zero, List.getElem?_cons_succ] at f0 f1 f2 f3 f4
  obtain ⟨i0, h0, _⟩ := DataW.trod_int Try.underlying3 f0
  obtain ⟨i1, h1, _⟩ := DataW.trod_int Try.underlying3 f1
  obtain ⟨i2, h2, _⟩ := DataW.trod_int Try.underlying3 f2
  obtain ⟨i3, h3, _⟩ := DataW.trod_int Try.underlying3 f3
  obtain ⟨i4, h4, _⟩ := DataW.trod_int Try.underlying3 f4
  injection h0 with h0
  injection h1 with h1
  injection h2 with h2
  injection h3 with h3
  injection h4 with h4
  subst h0 h1 h2 h3 h4
  exact ⟨⟨i0, i1, i2, i3, i4⟩, rfl⟩
theorem trod_ac {n : Nat} {cs : List Value} {y : DataW H × List MemPlace} (h : DataW.trod enc Try.prog W base sp held n 59 cs = some y) : ∃ a : Ac, cs = a.cells ∧ 0 ≤ a.kind ∧ a.kind ≤ 255 := by
  obtain ⟨xs, m, rfl, rfl, hl, hxl, hfs⟩ := DataW.trod_struct Try.underlying59 h
  rw [ac_ca] at hl
  match cs, hl with
  | [a0, a1, a2, a3, a4, a5, a6], _ =>
  have hx3 : xs.length = 3 := by rw [hxl]; rfl
  match xs, hx3 with
  | [x0, x1, x2], _ =>
  have f0 := hfs 0 _ rfl
  have f1 := hfs 1 _ rfl
  have f2 := hfs 2 _ rfl
  simp only [ac_ci, ac_c8, ac_cn, List.drop_zero, List.drop_succ_cons, List.take_succ_cons, List.take_zero, List.getElem?_cons_zero, List.getElem?_cons_succ] at f0 f1 f2
  obtain ⟨i0, h0, _, hw⟩ := DataW.trod_int Try.underlying5 f0
  obtain ⟨i1, h1, _⟩ := DataW.trod_int Try.underlying3 f1
  obtain ⟨nd, h2⟩ := trod_node f2
  injection h0 with h0
  injection h1 with h1
  subst h0 h1
  have h3 : [a2, a3, a4, a5, a6] = nd.cells := Eq.trans (by kernel_rfl) h2
  refine ⟨⟨i0, i1, nd⟩, ?_, wf_u8 hw⟩
  show _ = _ :: _ :: nd.cells
  rw [← h3]
theorem open_acs {v : Value} {d : DataW H} {p : List MemPlace} (hv : Value.okWide Try.prog W r b0 49 v) (h : DataW.Trod enc Try.prog W base sp held 49 v d p) :
    ∃ (A : Option Addr) (c : Nat) (l : List Ac), v = .slice A l.length c ∧ RL W W.heap.size 7 A l.length (acs l) ∧ (∀ a ∈ l, 0 ≤ a.kind ∧ a.kind ≤ 255) ∧ l.length ≤ 9223372036854775807 := by
  obtain ⟨A, c, rows, rfl, h1, h2, h3, h4⟩ := rl_open Try.underlying49 ac_ca (by omega) hv h
  obtain ⟨l, rfl, hl⟩ := rows_map (f := Ac.cells) (Q := fun a => 0 ≤ a.kind ∧ a.kind ≤ 255) (rows := rows) (fun row hr => by
    obtain ⟨_, n, y, hy⟩ := h4 row hr
    exact trod_ac hy)
  have hf : (l.map Ac.cells).flatten = acs l := by unfold acs; rw [List.flatMap_def]
  rw [hf] at h3
  simp only [List.length_map] at h1 h3
  exact ⟨A, c, l, by simp, h3, hl, by unfold maxLen at h2; omega⟩
end
end Go.Proofs.Ytcnejokbldohlaa
