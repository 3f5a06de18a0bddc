/- The iterators of a nil pool. -/
import Derived.Test.YtcnejokbldohlaaPh
namespace Go.Proofs.Ytcnejokbldohlaa
set_option linter.unusedSimpArgs false
set_option linter.unusedVariables false
open Go.ChangeShapes Go.WideShapes Go.ChangeAt Go.RowKit Go.Shelf
set_option linter.unusedVariables false
attribute [local go_sem] Oper.semAt_some
attribute [local go_sem ↓] wpIn_at_zero wpIn_at_succ
theorem ids1_nil (w : World) (Bp : Nat) (hbox : Blk w Bp 22 #[.pointer none]) :
    Iter Try.prog 58 #[.pointer (some ⟨Bp, 0, none⟩)] (fun k : Nat => #[Value.int .i64 (k : Int)]) (fun b => b = Bp) [] w := by
  intro l J Jx W hk hJ hJx hY h0
  have hst : Stays (fun b => b = Bp) (fun b => b = Bp) W W := ⟨fun _ h => h, fun _ h => .inl h⟩
  have h00 := Lib.hid (h0 _ W (Below.refl _ _) hst)
  have c0 := box_cell ((hk.2 _ rfl).trans hbox)
  have Hst := Lib.hid hst
  clear h0 hst hY hk hbox
  refine callsIn_of_wp Try.func58 rfl trivial ?_ rfl
  simp only [Try.ntmps58, List.size_toArray, List.length_cons, List.length_nil, Nat.reduceAdd, Nat.reduceSub, Array.replicate_succ, Array.replicate_zero, List.push_toArray, List.append_toArray, List.nil_append, List.cons_append]
  gi_wp2
  refine bodyPost_ret (results_none rfl _ _ _) rfl ?_
  exact ⟨⟨_, rfl⟩, _, Hst.out, .inl h00.out⟩
theorem each1_nil (w : World) (Bp : Nat) (hbox : Blk w Bp 22 #[.pointer none]) :
    Iter Try.prog 54 #[.pointer (some ⟨Bp, 0, none⟩)] Nd.enc (fun b => b = Bp) [] w := by
  intro l J Jx W hk hJ hJx hY h0
  have hbx := (hk.2 _ rfl).trans hbox
  have c0 := box_cell hbx
  have hBl : Bp < W.heap.size := Blk.lt hbx
  refine callsIn_of_wp_marks Try.func54 rfl trivial ?_ rfl
  simp only [Try.ntmps54, List.size_toArray, List.length_cons, List.length_nil, Nat.reduceAdd, Nat.reduceSub, Array.replicate_succ, Array.replicate_zero, List.push_toArray, List.append_toArray, List.nil_append, List.cons_append]
  gi_wp2_with (refine wide_call (ids_any _ _) ?_; rintro e w' ⟨rfl, rfl⟩)
  have hb1 : Below W.heap.size W (W.alloc (Obj.cells #[Value.func (Fn.yield l) #[] #[]] 86)) := (Below.refl _ _).alloc (Nat.le_refl _) _
  have hz1 : (W.alloc (Obj.cells #[Value.func (Fn.yield l) #[] #[]] 86)).heap.size = W.heap.size + 1 := by simp
  generalize W.alloc (Obj.cells #[Value.func (Fn.yield l) #[] #[]] 86) = W1 at *
  have hbW : Below W.heap.size W (W1.alloc (Obj.cells #[Value.pointer none] 22)) := hb1.alloc hb1.size _
  have hbq := Blk.new W1 22 #[Value.pointer none]
  have z2 : (W1.alloc (Obj.cells #[Value.pointer none] 22)).heap.size = W.heap.size + 2 := by simp [hz1]
  rw [hz1] at hbq
  generalize W1.alloc (Obj.cells #[Value.pointer none] 22) = W2 at *
  refine rangeFunc_law (K := fun b => b = W.heap.size + 1 ∨ b = Bp) (gf := 58) (lb := #[.pointer (some ⟨W.heap.size + 1, 0, none⟩)]) (w0 := W2) rfl (enters_of Try.func58 (by kernel_rfl) rfl)
    ((ids1_nil W2 (W.heap.size + 1) hbq).mono (fun b hb => .inl hb) (Keeps.refl _ _)) (Keeps.refl _ _) (by rintro b (rfl | rfl) <;> omega) (fun _ => rfl)
    (fun S pre W' => J S [] W') (fun S c pre W' => False) ?hI ?hIx ?start (fun k a' _ => True) ?hAx ?assign ?body ?done ?stop
  case hI =>
    intro S pre A B row hs hg hr
    exact hJ S _ A B row hs hg (fun r e => ⟨by have := (hr r e).1; omega, (hr r e).2⟩)
  case hIx => exact fun S c pre A B row hs hg hr => hs
  case start =>
    intro S W' hb hst
    exact h0 S W' (hbW.trans (hb.mono (by omega))) ⟨fun b hb' => hst.1 b (.inr hb'), fun b hb' => by
      have := hb.size
      rcases hst.2 b hb' with (rfl | rfl) | h
      · exact .inr ⟨by omega, by omega⟩
      · exact .inl rfl
      · exact .inr ⟨by omega, h.2⟩⟩
  case hAx => exact fun x a' s X Y row hs _ _ => trivial
  case assign =>
    intro l' S pre x suf W' K' hxs
    simp at hxs
  case body =>
    intro l' S pre x suf a' W' hxs
    simp at hxs
  case done =>
    rintro D S W3 hD hSS hj hd
    gi_wp2
    refine ⟨by simp, .inl ⟨_, _, rfl, run_takeDeferred hd, ?_⟩⟩
    refine ⟨_, results_none rfl _ _ _, ⟨_, rfl⟩, S, ?_, .inl ?_⟩
    · exact stays_in (hSS.putObj _ _) (by omega) (fun b hb => .inr hb) (fun b hb => by
        rcases hb with rfl | rfl
        · exact .inr (by omega)
        · exact .inl rfl) (by rintro b (rfl | rfl) <;> omega) (by rw [World.putObj_size]; have := (Array.getElem?_eq_some_iff.1 hd).1; omega)
    · exact (hJ S).putObj _ hj (by omega) hd rfl
  case stop => exact fun D S c pre W3 hD hSS hpre hf hd => hf.elim
theorem all_nil (w : World) (most : Int) : Calls Try.prog 13 #[.pointer none, .int .i64 most] w (NewNL w []) := by
  have h := all_gen w none [] [] most (fun b hb => by simp at hb) (by simp) (fun W Bp hb hbx => (each1_nil W Bp hbx).mono (fun b hb => .inl hb) (Keeps.refl _ _))
  simpa using h
end Go.Proofs.Ytcnejokbldohlaa
