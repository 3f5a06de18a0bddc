/- What a tied law needs: the wrap that keeps the world's shape beside a condition; events that come in. -/
import Derived.Test.YtmgjoggffnogfaaDoorWw
import Derived.Test.YtmgjoggffnogfaaDoorEb
import Derived.HandedShaped
import Derived.Shelf.Vars
namespace Go.Proofs.YtmgjoggffnogfaaDoor
set_option linter.unusedSimpArgs false
set_option linter.unusedVariables false
open Go.ChangeShapes Go.WideShapes Go.ChangeAt Go.RowKit
set_option linter.unusedVariables false
theorem handed_and_shaped {H : Type} {enc : TypeId × Value → H} {a : Assume} {C : Checked} {os : Os} {f : FuncId} {fn : Func} {s : ChangeSpec} {conds : List PathCond} {apart fresh handsOn again : Bool} {X : World → Array Value → Prop}
    (hX : ∀ (w w' : World) (args : Array Value), w.heap = w'.heap → X w args → X w' args)
    (own : ownKnob C.prog.godebug = none) (started : os.Started) (noInit : C.prog.inits.idxOf? f = none) (hfn : C.prog.funcs[f]? = some fn)
    (witness : ∃ (w : World) (tape : Tape) (i : Input), w.os = os ∧ (w.forCall tape i).Shaped C.prog ∧ i.vars = [] ∧ Input.okWide C.prog (w.forCall tape i) .any w.heap.size f i ∧
      ((s.pre enc C.prog fn conds apart (w.forCall tape i).memory i.args ∧ X (w.forCall tape i).memory i.args) ∧ sizedMet enc C.prog fn (OpenSpec.ofChange s) apart (w.forCall tape i).memory i.args) ∧ a.holds C.prog (lone (Frame.enter C.prog f i.args .normal) [] (w.forCall tape i)))
    (contract : ∀ (W : World) (base : Nat) (args : Array Value) (ds gs : List (DataW H)) (before : List MemPlace),
      (∀ (j : Nat) t v, fn.params[j]? = some t → args[j]? = some v → Value.okWide C.prog W .any base t v) →
      DataW.Whole enc C.prog fn.params.toList s.vars apart W args.toList ds gs before →
      conds.all (PathCond.test C.prog ⟨fn.params.toList, ds, s.plain.varTypes C.prog, gs⟩) = true →
      (DataW.weightsEach C.prog (fn.params.toList ++ s.plain.varTypes C.prog) (ds ++ gs)).all (· ≤ reachBytes) = true → X W args → W.ShapedOpen C.prog →
      a.holds C.prog (lone (Frame.enter C.prog f args .normal) [] W) →
      Calls C.prog f args W fun e W' => ∃ v, e = .returned v ∧ s.post enc C.prog fn apart fresh handsOn again W args v W') :
    ReturnsInHanded a C os f .any (fun w args => (s.pre enc C.prog fn conds apart w args ∧ X w args) ∧ sizedMet enc C.prog fn (OpenSpec.ofChange s) apart w args) (s.post enc C.prog fn apart fresh handsOn again) := by
  refine returnsInHanded_of_calls own started noInit witness ?_
  intro w tape i _ hsh _ hok hpre hholds
  obtain ⟨_, _, _, fn', hfn', _, _, _, _, hval⟩ := hok
  have e : fn' = fn := Option.some.inj (hfn'.symm.trans hfn)
  subst e
  obtain ⟨⟨⟨ds, gs, before, hw, hc⟩, hx⟩, hz⟩ := hpre
  have hw' := DataW.Whole.of_heap (w' := w.forCall tape i) (by rfl) hw
  refine (contract (w.forCall tape i) w.heap.size i.args ds gs before hval hw' hc (hz.weights hw) (hX _ _ _ (by rfl) hx) hsh hholds).mono fun e W' ⟨v, he, hp⟩ => ?_
  subst he
  exact ChangeSpec.post_blind hp
theorem heap_cell {W : World} {b o : Nat} {v : Value} (h : W.cell? ⟨b, o, none⟩ = some v) : (heapOf W).at b o = some v := by
  unfold World.cell? at h
  unfold PH.at heapOf
  cases hw : W.heap[b]? with
  | none => rw [hw] at h; cases h
  | some ob =>
    rw [hw] at h
    cases ob <;> first | (cases h) | (simpa using h)
theorem maxIn_of {W : World} (h : W.ShapedOpen Tryd.prog) : MaxIn (heapOf W) := by
  obtain ⟨m, hm⟩ := Go.Proofs.cell_of_shapedOpen_int (P := Tryd.prog) (g := 0) (zero := #[.int .i64 0]) (t := 3) h (of_decide_eq_true (by kernel_rfl)) (by kernel_rfl) rfl (by kernel_rfl) (by kernel_rfl) Tryd.underlying3
  exact ⟨m, heap_cell hm⟩
section
variable {H : Type} {enc : TypeId × Value → H} {W : World} {base b0 : Nat} {sp : Nat → Bool} {held : Bool} {r : Reach}
theorem ev_ci : Tryd.prog.cellsOf 3 = 1 := by kernel_rfl
theorem ev_ca : Tryd.prog.cellsOf 47 = 3 := by kernel_rfl
set_option maxRecDepth 100000 in
theorem trod_ev {n : Nat} {cs : List Value} {y : DataW H × List MemPlace} (h : DataW.trod enc Tryd.prog W base sp held n 47 cs = some y) : ∃ a : Ev, cs = evC a ∧ EvOk a := by
  obtain ⟨xs, m, rfl, rfl, hl, hxl, hfs⟩ := DataW.trod_struct Tryd.underlying47 h
  rw [ev_ca] at hl
  match cs, hl with
  | [a0, a1, a2], _ =>
  have hx3 : xs.length = 3 := by rw [hxl]; rfl
  match xs, hx3 with
  | [x0, x1, x2], _ =>
  have f0 := hfs 0 _ rfl
  have f1 := hfs 1 _ rfl
  have f2 := hfs 2 _ rfl
  simp only [ev_ci, List.drop_zero, List.drop_succ_cons, List.take_succ_cons, List.take_zero, List.getElem?_cons_zero, List.getElem?_cons_succ] at f0 f1 f2
  obtain ⟨i0, h0, _, w0⟩ := DataW.trod_int Tryd.underlying3 f0
  obtain ⟨i1, h1, _, w1⟩ := DataW.trod_int Tryd.underlying3 f1
  obtain ⟨i2, h2, _, w2⟩ := DataW.trod_int Tryd.underlying3 f2
  injection h0 with h0
  injection h1 with h1
  injection h2 with h2
  subst h0 h1 h2
  exact ⟨(i0, i1, i2), rfl, wf_i64 w0, wf_i64 w1, wf_i64 w2⟩
set_option maxRecDepth 100000 in
theorem open_evs {v : Value} {d : DataW H} {p : List MemPlace} (hv : Value.okWide Tryd.prog W r b0 22 v) (h : DataW.Trod enc Tryd.prog W base sp held 22 v d p) :
    ∃ l : List Ev, RowG (heapOf W) evC v l ∧ ∀ u ∈ l, EvOk u := by
  obtain ⟨A, c, rows, rfl, h1, h2, h3, h4⟩ := rl_open Tryd.underlying22 ev_ca (by omega) hv h
  obtain ⟨l, rfl, hl⟩ := rows_map (f := evC) (Q := EvOk) (rows := rows) (fun row hr => by
    obtain ⟨_, n, y, hy⟩ := h4 row hr
    obtain ⟨a, ha, hok⟩ := trod_ev hy
    exact ⟨a, ha, hok⟩)
  have hf : (l.map evC).flatten = l.flatMap evC := by rw [List.flatMap_def]
  rw [hf] at h3
  simp only [List.length_map] at h1 h3 h2
  refine ⟨l, ⟨A, c, by simp, h1, h2, fun hn => ?_⟩, hl⟩
  obtain ⟨b, o, e, hb, hc⟩ := h3.2 hn
  have hfl : (l.flatMap evC).length = l.length * 3 := h3.1
  refine ⟨b, o, e, fun j u hj => ?_⟩
  have hjl : j < l.length * 3 := by
    have := (List.getElem?_eq_some_iff.1 hj).1
    omega
  have := hc j hjl
  rw [hj] at this
  exact heap_cell this
end
end Go.Proofs.YtmgjoggffnogfaaDoor
