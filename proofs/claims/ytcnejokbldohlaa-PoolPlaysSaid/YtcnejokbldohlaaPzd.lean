/- The law's do, whatever the call; New of a pool that cannot be. -/
import Derived.Test.YtcnejokbldohlaaPzc
namespace Go.Proofs.Ytcnejokbldohlaa
set_option linter.unusedSimpArgs false
set_option linter.unusedVariables false
open Go.ChangeShapes Go.WideShapes Go.ChangeAt Go.RowKit
set_option linter.unusedVariables false
theorem do_any (w0 w : World) (g : Nat) (F : List Nat) (s : Pl) (A1 : Option Addr) (c1 : Nat) (A2 : Option Addr) (c2 : Nat) (A3 : Option Addr) (c3 : Nat) (r : Rf) (kind id : Int) (n : Nd) (h : St w0 w g F s) (T : Nat → Prop) (hr : RefAt w (fun b => b ∉ F ∧ T b) A1 c1 A2 c2 A3 c3 r) (hrel : Rel s r) (hl : s.at_.length ≤ 1000) (hk0 : 0 ≤ kind) (hk1 : kind ≤ 255) :
    Calls Try.prog 28 #[.pointer (some ⟨g, 0, none⟩), r.val A1 c1 A2 c2 A3 c3, actVal kind id n] w (DoPost w0 w g F T s) := by
  by_cases h2 : kind % 4 = 2
  · exact do_give w0 w g F s A1 c1 A2 c2 A3 c3 r kind id n h T hr hrel hl hk0 hk1 h2
  by_cases h3 : kind % 4 = 3
  · exact do_set w0 w g F s A1 c1 A2 c2 A3 c3 r kind id n h T hr hrel hl hk0 hk1 h3
  have hok := hrel.ok h.inv hl
  by_cases hf : r.room ≤ (r.len : Int)
  · obtain ⟨e1, e2⟩ := hrel.full h.inv hf n
    exact do_take w0 w g F s A1 c1 A2 c2 A3 c3 r kind id n h T hr hrel hl hk0 hk1 ⟨h2, h3⟩ r 0 7 (fun w' hw => rtake_full w' _ A1 c1 A2 c2 A3 c3 r n hw hok hf) e1 (by rw [e2]; exact hrel)
  rcases List.eq_nil_or_concat r.free with he | ⟨fl, x, he⟩
  · obtain ⟨e1, e2⟩ := hrel.new h.inv (by omega) he n
    obtain ⟨room, nodes, taken, free⟩ := r
    simp only at he
    subst he
    exact do_take w0 w g F s A1 c1 A2 c2 A3 c3 _ kind id n h T hr hrel hl hk0 hk1 ⟨h2, h3⟩ _ _ 0 (fun w' hw => rtake_new w' _ A1 c1 A2 c2 A3 c3 room nodes taken n hw hok (by simpa [Rf.len] using hf)) e1 e2
  · rw [List.concat_eq_append] at he
    obtain ⟨k, rfl, hk, e1, e2⟩ := hrel.freed h.inv he n
    obtain ⟨room, nodes, taken, free⟩ := r
    simp only at he
    subst he
    exact do_take w0 w g F s A1 c1 A2 c2 A3 c3 _ kind id n h T hr hrel hl hk0 hk1 ⟨h2, h3⟩ _ _ 0 (fun w' hw => rtake_free w' _ A1 c1 A2 c2 A3 c3 room nodes taken fl k n hw hok (by simpa [Rf.len] using hf) hk) e1 e2
theorem new_bad (room : Int) (w : World) (h : room < 1 ∨ 1048576 < room) :
    Calls Try.prog 11 #[.int .i64 room] w fun e w' => e = .returned (.tuple #[.pointer none, .int .i64 2]) ∧ Below w.heap.size w w' := by
  rcases h with h | h
  · go_enter Try.func11, Try.ntmps11
    go_wp2_with fail
    go_ret2
    exact ⟨rfl, Below.refl _ _⟩
  · by_cases h1 : room < 1
    · omega
    · go_enter Try.func11, Try.ntmps11
      go_wp2_with fail
      go_ret2
      exact ⟨rfl, Below.refl _ _⟩
/-- A call of the script, as its cells say. -/
structure Ac where
  kind : Int
  id : Int
  n : Nd
def Ac.cells (a : Ac) : List Value := [.int .u8 a.kind, .int .i64 a.id, .int .i64 a.n.id, .int .i64 a.n.var, .int .i64 a.n.lo, .int .i64 a.n.hi, .int .i64 a.n.refs]
def acs (l : List Ac) : List Value := l.flatMap Ac.cells
theorem acs_get (l : List Ac) (k j : Nat) (a : Ac) (h : l[k]? = some a) (hj : j < 7) : (acs l)[k * 7 + j]? = a.cells[j]? := by
  induction l generalizing k with
  | nil => simp at h
  | cons m l ih =>
    simp only [acs, List.flatMap_cons]
    cases k with
    | zero =>
      simp only [List.getElem?_cons_zero, Option.some.injEq] at h
      subst h
      rw [List.getElem?_append_left (by simp [Ac.cells]; omega)]
      simp
    | succ k =>
      rw [List.getElem?_cons_succ] at h
      rw [List.getElem?_append_right (by simp [Ac.cells]; omega)]
      have := ih k h
      simp only [acs] at this
      rw [← this]
      congr 1
      simp [Ac.cells]; omega
end Go.Proofs.Ytcnejokbldohlaa
