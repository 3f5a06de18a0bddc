/- An expression that comes in as an argument. -/
import Derived.Test.YtmhdcjjcddpciaaQa
import Derived.Test.YtmhdcjjcddpciaaRL
namespace Go.Proofs.Ytmhdcjjcddpciaa
set_option linter.unusedSimpArgs false
set_option linter.unusedVariables false
open Go.ChangeShapes Go.WideShapes Go.ChangeAt Go.RowKit
set_option linter.unusedVariables false
theorem at_of_cell0 {W : World} {p : PH} {X off : Nat} {v : Value} (hp : ∀ o, W.heap[X]? = some o → p X = some o) (hc : W.cell? ⟨X, off, none⟩ = some v) : p.at X off = some v := by
  unfold World.cell? at hc
  unfold PH.at
  cases hw : W.heap[X]? with
  | none => rw [hw] at hc; cases hc
  | some o =>
    rw [hp o hw]
    rw [hw] at hc
    cases o <;> first | (cases hc) | (simpa using hc)
section
variable {H : Type} {enc : TypeId × Value → H} {W : World} {base b0 : Nat} {sp : Nat → Bool} {held : Bool} {r : Reach}
theorem ec1 : Try.prog.cellsOf 3 = 1 := by kernel_rfl
theorem ec3 : Try.prog.cellsOf 25 = 3 := by kernel_rfl
theorem ecs : Try.prog.cellsOf 23 = 1 := by kernel_rfl
theorem trod_expr : ∀ (m fuel : Nat) (cs : List Value) (x : DataW H × List MemPlace), fuel ≤ m → DataW.trod enc Try.prog W base sp held fuel 25 cs = some x → ∃ t : Tr, cs = t.cells ∧ In (heapOf W) t := by
  intro m
  induction m with
  | zero =>
    intro fuel cs x hf h
    obtain rfl : fuel = 0 := by omega
    simp [DataW.trod] at h
  | succ m ih =>
    intro fuel cs x hf h
    obtain ⟨xs, n, rfl, rfl, hl, hxl, hfs⟩ := DataW.trod_struct Try.underlying25 h
    rw [ec3] at hl
    match cs, hl with
    | [c0, c1, c2], _ =>
    have hx3 : xs.length = 3 := by rw [hxl]; rfl
    match xs, hx3 with
    | [x0, x1, x2], _ =>
    have f0 := hfs 0 _ rfl
    have f1 := hfs 1 _ rfl
    have f2 := hfs 2 _ rfl
    simp only [ec1, ecs, List.drop_zero, List.drop_succ_cons, List.take_succ_cons, List.take_zero, List.getElem?_cons_zero, List.getElem?_cons_succ] at f0 f1 f2
    obtain ⟨op, h0, _, _⟩ := DataW.trod_int Try.underlying3 f0
    obtain ⟨var, h1, _, _⟩ := DataW.trod_int Try.underlying3 f1
    injection h0 with h0
    injection h1 with h1
    subst h0; subst h1
    rcases DataW.trod_slice Try.underlying23 f2 with ⟨h2, _⟩ | ⟨a, len, cap, elems, rest, n', rfl, h2, _, _, hlc, hcm, hel, hin, _, _⟩
    · injection h2 with h2
      subst h2
      exact ⟨.mk op var none 0 [], rfl, .mk ⟨by simp, fun h => by simp at h⟩ (fun t h => by cases h)⟩
    · injection h2 with h2
      subst h2
      rw [ec3] at hin
      have hex : ∀ i, ∃ t : Tr, i < len → W.cells? base (a.add (i * 3)) 3 = some t.cells ∧ In (heapOf W) t := fun i => by
        by_cases hi : i < len
        · have h3 := hin i hi
          rw [List.getElem?_eq_getElem (by omega)] at h3
          obtain ⟨cs', h4, h5⟩ := Option.bind_eq_some_iff.1 h3
          obtain ⟨t, rfl, ht⟩ := ih n' cs' _ (by omega) h5
          exact ⟨t, fun _ => ⟨h4, ht⟩⟩
        · exact ⟨.mk 0 0 none 0 [], fun h => absurd h hi⟩
      obtain ⟨f, hf'⟩ := Classical.axiomOfChoice hex
      refine ⟨.mk op var (some a) cap ((List.range len).map f), by simp [Tr.cells, Tr.op, Tr.var, Tr.A, Tr.kids, Tr.cap], .mk ⟨by simp; unfold maxLen at hcm; omega, fun hl => ?_⟩ (fun t ht => ?_)⟩
      · have hlen : 0 < len := by simpa using hl
        obtain ⟨b, o, spot⟩ := a
        have hspot : spot = none := by
          obtain ⟨_, _, h3⟩ := World.cells?_some (hf' 0 hlen).1
          have h4 := h3 0 (by omega)
          have h5 : (f 0).cells[0]? = some (.int .i64 (f 0).op) := rfl
          rw [h5] at h4
          simpa [Addr.add] using World.cell?_spot h4
        subst hspot
        refine ⟨b, o, rfl, fun k t hk j v hj => ?_⟩
        have hkl : k < len := by
          have := (List.getElem?_eq_some_iff.1 hk).1
          simpa using this
        have ht : f k = t := by
          rw [List.getElem?_map, List.getElem?_range hkl] at hk
          simpa using hk
        subst ht
        obtain ⟨_, _, h3⟩ := World.cells?_some (hf' k hkl).1
        have hj3 : j < 3 := (List.getElem?_eq_some_iff.1 hj).1
        have h4 := h3 j hj3
        rw [hj, add_of_add] at h4
        have hadd : (⟨b, o, none⟩ : Addr).add (k * 3 + j) = ⟨b, o + k * 3 + j, none⟩ := by
          unfold Addr.add
          split
          · rename_i h0; rw [show o + k * 3 + j = o by omega]
          · simp; omega
        rw [hadd] at h4
        exact at_of_cell0 (fun o ho => ho) h4
      · obtain ⟨i, hi, rfl⟩ := List.mem_map.1 ht
        exact (hf' i (List.mem_range.1 hi)).2
theorem open_expr {v : Value} {d : DataW H} {p : List MemPlace} (hv : Value.okWide Try.prog W r b0 25 v) (h : DataW.Trod enc Try.prog W base sp held 25 v d p) : ∃ t : Tr, v = t.val ∧ In (heapOf W) t := by
  obtain ⟨cs, rfl, _⟩ := okWide_struct Try.underlying25 hv
  obtain ⟨fuel, hf⟩ := h
  obtain ⟨t, hc, ht⟩ := trod_expr fuel fuel _ _ (Nat.le_refl _) hf
  have : cs.toList = t.cells := hc
  refine ⟨t, ?_, ht⟩
  rw [Tr.val_cells, ← this]
end
end Go.Proofs.Ytmhdcjjcddpciaa
