/- Package pool: is, Len, Room, At. -/
import Derived.Test.YtcnejokbldohlaaPa
namespace Go.Proofs.Ytcnejokbldohlaa
set_option linter.unusedSimpArgs false
set_option linter.unusedVariables false
open Go.ChangeShapes Go.WideShapes Go.ChangeAt Go.RowKit
set_option linter.unusedVariables false
/-- What every pool keeps. -/
def Pl.ok (s : Pl) : Prop := s.at_.length = s.taken.length ∧ 0 < s.taken.length ∧ s.at_.length ≤ 2000000 ∧ s.free.length ≤ 2000000
def Pl.is (s : Pl) (id : Int) : Bool := decide (0 < id) && s.taken.getD id.toNat false
theorem nds_length (l : List Nd) : (nds l).length = l.length * 5 := by
  induction l with
  | nil => rfl
  | cons n l ih => simp only [nds, List.flatMap_cons, List.length_append, List.length_cons] at ih ⊢; rw [ih]; simp [Nd.cells]; omega
theorem nds_get (l : List Nd) (k j : Nat) (n : Nd) (h : l[k]? = some n) (hj : j < 5) : (nds l)[k * 5 + j]? = n.cells[j]? := by
  induction l generalizing k with
  | nil => simp at h
  | cons m l ih =>
    simp only [nds, List.flatMap_cons]
    cases k with
    | zero =>
      simp only [List.getElem?_cons_zero, Option.some.injEq] at h
      subst h
      rw [List.getElem?_append_left (by simp [Nd.cells]; omega)]
      simp
    | succ k =>
      rw [List.getElem?_cons_succ] at h
      rw [List.getElem?_append_right (by simp [Nd.cells]; omega)]
      have := ih k h
      simp only [nds] at this
      rw [← this]
      congr 1
      simp [Nd.cells]; omega
theorem bools_get (l : List Bool) (k : Nat) (b : Bool) (h : l[k]? = some b) : (bools l)[k]? = some (.bool b) := by simp [bools, h]
theorem ints_get (l : List Int) (k : Nat) (b : Int) (h : l[k]? = some b) : (ints l)[k]? = some (.int .i64 b) := by simp [ints, h]
theorem bools_length (l : List Bool) : (bools l).length = l.length := by simp [bools]
theorem ints_length (l : List Int) : (ints l).length = l.length := by simp [ints]
section
variable {w : World} {base g : Nat} {F : List Nat} {s : Pl}
/-- A pool laid open: its struct's cells, and its two main rows where they lie. -/
theorem PoolAt.open (h : PoolAt w base g F s) (hs : s.ok) : ∃ a ac t tc fv, Blk w g 69 #[.int .i64 s.room, .slice (some ⟨a, 0, none⟩) s.at_.length ac, .slice (some ⟨t, 0, none⟩) s.taken.length tc, fv, .int .i64 s.many] ∧
    base ≤ g ∧ Own w base 29 5 (.slice (some ⟨a, 0, none⟩) s.at_.length ac) s.at_.length (nds s.at_) ∧ Own w base 4 1 (.slice (some ⟨t, 0, none⟩) s.taken.length tc) s.taken.length (bools s.taken) ∧
    Own w base 3 1 fv s.free.length (ints s.free) ∧ F = g :: a :: t :: fv.ownBlock.toList ∧ s.at_.length ≤ ac ∧ s.taken.length ≤ tc ∧ ac ≤ maxLen ∧ tc ≤ maxLen ∧
    (∀ j, w.frozen? ⟨a, j, none⟩ = false) ∧ (∀ j, w.frozen? ⟨t, j, none⟩ = false) ∧
    (∀ k n j, s.at_[k]? = some n → j < 5 → w.cell? ⟨a, k * 5 + j, none⟩ = n.cells[j]?) ∧ (∀ k b, s.taken[k]? = some b → w.cell? ⟨t, k, none⟩ = some (.bool b)) := by
  obtain ⟨av, tv, fv, hb, hg, ha, ht, hf, rfl⟩ := h
  obtain ⟨e1, e2, e3, e4⟩ := hs
  obtain ⟨a, ac, rfl, _, _, h1, h2, h3, h4⟩ := ha.form (by omega)
  obtain ⟨t, tc, rfl, _, _, k1, k2, k3, k4⟩ := ht.form (by omega)
  refine ⟨a, ac, t, tc, fv, hb, hg, ha, ht, hf, rfl, h1, k1, h2, k2, h4, k4, ?_, ?_⟩
  · intro k n j hk hj
    have hl : k < s.at_.length := (List.getElem?_eq_some_iff.1 hk).1
    rw [h3 _ (by omega), nds_get _ _ _ _ hk hj]
  · intro k b hk
    have hl : k < s.taken.length := (List.getElem?_eq_some_iff.1 hk).1
    rw [k3 _ (by omega), bools_get _ _ _ hk]
end
theorem retb {a b : Bool} (h : b = a) : Ending.returned (.bool a) = .returned (.bool b) := by rw [h]
set_option maxHeartbeats 400000 in
theorem is_any (w : World) (base g : Nat) (F : List Nat) (s : Pl) (id : Int) (h : PoolAt w base g F s) (hs : s.ok) :
    Calls Try.prog 47 #[.pointer (some ⟨g, 0, none⟩), .int .i64 id] w fun r w' => r = .returned (.bool (s.is id)) ∧ w = w' := by
  obtain ⟨a, ac, t, tc, fv, hb, hg, ha, ht, hf, _, _, _, _, _, _, _, hac, htc⟩ := h.open hs
  have c1 := hb.cell 1
  have c2 := hb.cell 2
  simp only [List.getElem?_toArray, List.getElem?_cons_succ, List.getElem?_cons_zero] at c1 c2
  obtain ⟨e1, e2, e3, e4⟩ := hs
  have hl : (s.at_.length : Int) ≤ 2000000 := by omega
  rw [e1] at c1 hl
  by_cases h0 : 0 < id
  · by_cases h1 : id < s.taken.length
    · obtain ⟨k, rfl⟩ := Int.eq_ofNat_of_zero_le (show 0 ≤ id by omega)
      have hk : k < s.taken.length := by omega
      have c3 := htc k _ (List.getElem?_eq_getElem hk)
      have hv : s.is (k : Int) = s.taken[k] := by unfold Pl.is; rw [decide_eq_true h0]; simp [hk]
      generalize s.taken[k] = bb at *
      have Hv := Lib.hid hv
      generalize s.taken.length = n at *
      clear hb ha ht hf hac htc hv e1 e2 e3 e4 h
      go_enter Try.func47, Try.ntmps47
      go_wp2
      go_ret
      exact ⟨retb Hv.out, rfl⟩
    · have Hv := Lib.hid (show s.is id = false from by
        unfold Pl.is; rw [List.getD_eq_getElem?_getD, List.getElem?_eq_none (by omega)]; simp)
      generalize s.taken.length = n at *
      have h1' : (n : Int) ≤ id := by omega
      clear hb ha ht hf hac htc e1 e2 e3 e4 h
      go_enter Try.func47, Try.ntmps47
      go_wp2
      go_ret
      exact ⟨retb Hv.out, rfl⟩
  · have Hv := Lib.hid (show s.is id = false from by unfold Pl.is; rw [decide_eq_false h0]; rfl)
    clear hb ha ht hf hac htc e1 e2 e3 e4 h
    go_enter Try.func47, Try.ntmps47
    go_wp2
    go_ret
    exact ⟨retb Hv.out, rfl⟩
theorem is_nil (w : World) (id : Int) :
    Calls Try.prog 47 #[.pointer none, .int .i64 id] w fun r w' => r = .returned (.bool false) ∧ w = w' := by
  go_enter Try.func47, Try.ntmps47
  go_wp2
  go_ret
  exact ⟨rfl, rfl⟩
theorem len_any (w : World) (base g : Nat) (F : List Nat) (s : Pl) (h : PoolAt w base g F s) :
    Calls Try.prog 22 #[.pointer (some ⟨g, 0, none⟩)] w fun r w' => r = .returned (.int .i64 s.many) ∧ w = w' := by
  obtain ⟨av, tv, fv, hb, hg, ha, ht, hf, _⟩ := h
  have c1 := hb.cell 4
  simp only [List.getElem?_toArray, List.getElem?_cons_succ, List.getElem?_cons_zero] at c1
  clear hb ha ht hf
  go_enter Try.func22, Try.ntmps22
  go_wp2
  go_ret
  exact ⟨rfl, rfl⟩
theorem len_nil (w : World) : Calls Try.prog 22 #[.pointer none] w fun r w' => r = .returned (.int .i64 0) ∧ w = w' := by
  go_enter Try.func22, Try.ntmps22
  go_wp2
  go_ret
  exact ⟨rfl, rfl⟩
theorem room_any (w : World) (base g : Nat) (F : List Nat) (s : Pl) (h : PoolAt w base g F s) :
    Calls Try.prog 31 #[.pointer (some ⟨g, 0, none⟩)] w fun r w' => r = .returned (.int .i64 s.room) ∧ w = w' := by
  obtain ⟨av, tv, fv, hb, hg, ha, ht, hf, _⟩ := h
  have c1 := hb.cell 0
  simp only [List.getElem?_toArray, List.getElem?_cons_zero] at c1
  clear hb ha ht hf
  go_enter Try.func31, Try.ntmps31
  go_wp2
  go_ret
  exact ⟨rfl, rfl⟩
theorem room_nil (w : World) : Calls Try.prog 31 #[.pointer none] w fun r w' => r = .returned (.int .i64 0) ∧ w = w' := by
  go_enter Try.func31, Try.ntmps31
  go_wp2
  go_ret
  exact ⟨rfl, rfl⟩
def Pl.node (s : Pl) (id : Int) : Nd := if s.is id = true then s.at_.getD id.toNat Nd.zero else Nd.zero

theorem at_nil (w : World) (id : Int) :
    Calls Try.prog 21 #[.pointer none, .int .i64 id] w fun r w' => r = .returned (.tuple #[Nd.zero.val, .bool false]) ∧ Below w.heap.size w w' := by
  go_enter Try.func21, Try.ntmps21
  go_wp2_with (go_at_call 47; refine (is_nil _ _).mono ?_; rintro r w' ⟨rfl, rfl⟩)
  exact bodyPost_ret (v := .tuple #[.agg #[.int .i64 0, .int .i64 0, .int .i64 0, .int .i64 0, .int .i64 0], .bool false]) (by simp [results, Try.results21, go_sem]) rfl ⟨rfl, (Below.refl _ _).alloc (Nat.le_refl _) _⟩
set_option maxHeartbeats 400000 in
theorem at_any (w : World) (base g : Nat) (F : List Nat) (s : Pl) (id : Int) (h : PoolAt w base g F s) (hs : s.ok) :
    Calls Try.prog 21 #[.pointer (some ⟨g, 0, none⟩), .int .i64 id] w fun r w' => r = .returned (.tuple #[(s.node id).val, .bool (s.is id)]) ∧ Below w.heap.size w w' := by
  have hgl : g < w.heap.size := by obtain ⟨_, _, _, hb, _⟩ := h; exact hb.lt
  have C1 : Hid (∀ w', (∃ o, w' = w.alloc o) → Calls Try.prog 47 #[.pointer (some ⟨g, 0, none⟩), .int .i64 id] w' fun r w'' => r = .returned (.bool (s.is id)) ∧ w' = w'') := by
    rintro w' ⟨o, rfl⟩
    refine is_any (w.alloc o) base g F s id ?_ hs
    obtain ⟨av, tv, fv, hb, hg, ha, ht, hf, hF⟩ := h
    exact ⟨av, tv, fv, hb.alloc o, hg, ha.alloc o, ht.alloc o, hf.alloc o, hF⟩
  cases hv : s.is id
  · have hn : s.node id = Nd.zero := by unfold Pl.node; rw [hv]; rfl
    rw [hn]
    rw [hv] at C1
    clear hn hv
    go_enter Try.func21, Try.ntmps21
    go_wp2_with (go_at_call 47; refine (C1.out _ ⟨_, rfl⟩).mono ?_; rintro r w' ⟨rfl, rfl⟩)
    exact bodyPost_ret (v := .tuple #[.agg #[.int .i64 0, .int .i64 0, .int .i64 0, .int .i64 0, .int .i64 0], .bool false]) (by simp [results, Try.results21, go_sem]) rfl ⟨rfl, (Below.refl _ _).alloc (Nat.le_refl _) _⟩
  · obtain ⟨a, ac, t, tc, fv, hb, hg, ha, ht, hf, _, _, _, _, _, _, _, hac, htc⟩ := h.open hs
    have hid : 0 < id := by
      unfold Pl.is at hv
      rcases Int.lt_or_le 0 id with h1 | h1
      · exact h1
      · rw [decide_eq_false (by omega)] at hv; cases hv
    obtain ⟨k, rfl⟩ := Int.eq_ofNat_of_zero_le (show 0 ≤ id by omega)
    have hk : k < s.at_.length := by
      rw [hs.1]
      rcases Nat.lt_or_ge k s.taken.length with h1 | h1
      · exact h1
      · unfold Pl.is at hv; rw [List.getD_eq_getElem?_getD, List.getElem?_eq_none (by simpa using h1)] at hv; simp at hv
    have hn : s.node (k : Int) = s.at_[k] := by unfold Pl.node; rw [hv]; simp [hk]
    have d0 := hac k _ 0 (List.getElem?_eq_getElem hk) (by omega)
    have d1 := hac k _ 1 (List.getElem?_eq_getElem hk) (by omega)
    have d2 := hac k _ 2 (List.getElem?_eq_getElem hk) (by omega)
    have d3 := hac k _ 3 (List.getElem?_eq_getElem hk) (by omega)
    have d4 := hac k _ 4 (List.getElem?_eq_getElem hk) (by omega)
    rw [hn]
    generalize s.at_[k] = nd at *
    simp only [Nd.cells, List.getElem?_cons_succ, List.getElem?_cons_zero, Nat.add_zero] at d0 d1 d2 d3 d4
    have c1 := hb.cell 1
    simp only [List.getElem?_toArray, List.getElem?_cons_succ, List.getElem?_cons_zero] at c1
    rw [hv] at C1
    have hal : a < w.heap.size := by
      have := ha.lt a rfl
      exact this.2
    clear hn hv ha ht hf hb hac htc h hs
    generalize s.at_.length = n at *
    go_enter Try.func21, Try.ntmps21
    go_wp2_with (go_at_call 47; refine (C1.out _ ⟨_, rfl⟩).mono ?_; rintro r w' ⟨rfl, rfl⟩)
    exact bodyPost_ret (v := .tuple #[.agg #[.int .i64 nd.id, .int .i64 nd.var, .int .i64 nd.lo, .int .i64 nd.hi, .int .i64 nd.refs], .bool true]) (by simp [results, Try.results21, go_sem]) rfl ⟨rfl, (Below.refl _ _).alloc (Nat.le_refl _) _⟩
end Go.Proofs.Ytcnejokbldohlaa
