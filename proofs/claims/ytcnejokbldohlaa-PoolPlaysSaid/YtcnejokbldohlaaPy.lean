/- The program's pool and the reference's: what they have in common, and that each call keeps it. -/
import Derived.Test.YtcnejokbldohlaaPx
namespace Go.Proofs.Ytcnejokbldohlaa
set_option linter.unusedSimpArgs false
set_option linter.unusedVariables false
open Go.ChangeShapes Go.WideShapes Go.ChangeAt Go.RowKit
set_option linter.unusedVariables false
structure Rel (s : Pl) (r : Rf) : Prop where
  room : r.room = s.room
  taken : s.taken = false :: r.taken
  free : s.free = r.free
  len : r.nodes.length = r.taken.length
  nodes : ∀ k, r.taken[k]? = some true → s.at_[k + 1]? = r.nodes[k]?
section
variable {s : Pl} {r : Rf}
theorem Rel.alen (h : Rel s r) (hi : s.inv) : s.at_.length = r.taken.length + 1 := by rw [hi.len, h.taken]; rfl
theorem Rel.ok (h : Rel s r) (hi : s.inv) (hl : s.at_.length ≤ 1000) : r.ok := by
  have h1 := h.alen hi
  have h2 := hi.total
  rw [h.taken, h.free] at h2
  simp at h2
  exact ⟨h.len, by omega, by omega⟩
theorem Rel.has (h : Rel s r) (id : Int) : r.has id = s.is id := by
  unfold Rf.has Pl.is
  rw [h.taken]
  by_cases h1 : 1 ≤ id
  · rw [decide_eq_true h1, decide_eq_true (by omega : 0 < id), show id.toNat = (id - 1).toNat + 1 by omega]
    simp
  · rw [decide_eq_false h1, decide_eq_false (by omega : ¬ 0 < id)]; rfl
theorem Rel.node (h : Rel s r) (id : Int) : r.node id = s.node id := by
  unfold Rf.node Pl.node
  rw [h.has id]
  cases hv : s.is id
  · rfl
  · rw [if_pos rfl, if_pos rfl]
    have hv' := hv
    rw [← h.has id] at hv'
    obtain ⟨k, rfl, hk, ht⟩ := Rf.has_at hv'
    have := h.nodes k ht
    rw [show ((k : Int) + 1 - 1).toNat = k by omega, show ((k : Int) + 1).toNat = k + 1 by omega]
    rw [List.getD_eq_getElem?_getD, List.getD_eq_getElem?_getD, this]
theorem Rel.many (h : Rel s r) (hi : s.inv) : (r.len : Int) = s.many := by
  rw [hi.many, h.taken]; simp [Rf.len]
theorem Rel.upto (h : Rel s r) (j : Nat) (hj : j ≤ r.nodes.length) : (s.upto (j + 1)).map (fun k => s.at_.getD k Nd.zero) = r.upto j := by
  induction j with
  | zero => rw [Pl.upto_succ, h.taken]; simp [Pl.upto, Rf.upto]
  | succ j ih =>
    have h2 : j < r.taken.length := by rw [← h.len]; omega
    rw [Pl.upto_succ, List.map_append, ih (by omega), Rf.upto_succ r j (by omega) h2]
    congr 1
    have e : s.taken.getD (j + 1) false = r.taken[j] := by rw [h.taken]; simp [h2]
    rw [e]
    cases hb : r.taken[j]
    · simp
    · have h3 := h.nodes j (by rw [List.getElem?_eq_getElem h2, hb])
      rw [if_pos rfl, if_pos rfl]
      simp only [List.map_cons, List.map_nil]
      rw [List.getD_eq_getElem?_getD, h3, List.getElem?_eq_getElem (by omega)]
      rfl
theorem Rel.all (h : Rel s r) : r.all = s.nodes := by
  unfold Rf.all Pl.nodes Pl.ids
  rw [h.taken, List.length_cons, ← h.len]
  exact (h.upto _ (Nat.le_refl _)).symm
theorem Rel.give (h : Rel s r) (hi : s.inv) (id : Int) : Rel (s.give id) (r.give id) := by
  unfold Pl.give Rf.give
  rw [h.has id]
  cases hv : s.is id
  · exact h
  · rw [if_pos rfl, if_pos rfl]
    have hv' := hv
    rw [← h.has id] at hv'
    obtain ⟨k, rfl, hk, ht⟩ := Rf.has_at hv'
    rw [show ((k : Int) + 1 - 1).toNat = k by omega, show ((k : Int) + 1).toNat = k + 1 by omega]
    refine ⟨h.room, by rw [h.taken]; rfl, by rw [h.free], by simp [h.len], fun j hj => ?_⟩
    simp only [List.getElem?_set] at hj ⊢
    by_cases e : k = j
    · subst e; simp [hk] at hj
    · rw [if_neg e] at hj
      rw [if_neg (by omega)]
      exact h.nodes j hj
theorem Rel.set (h : Rel s r) (hi : s.inv) (n : Nd) : Rel (s.set n) (r.set n) := by
  unfold Pl.set Rf.set
  rw [h.has n.id]
  cases hv : s.is n.id
  · exact h
  · rw [if_pos rfl, if_pos rfl]
    have hv' := hv
    rw [← h.has n.id] at hv'
    obtain ⟨k, hk1, hk, ht⟩ := Rf.has_at hv'
    rw [show (n.id - 1).toNat = k by omega, show n.id.toNat = k + 1 by omega]
    refine ⟨h.room, h.taken, h.free, by simp [h.len], fun j hj => ?_⟩
    simp only [List.getElem?_set]
    have ha := h.alen hi
    have hl := h.len
    by_cases e : k = j
    · subst e; rw [if_pos rfl, if_pos rfl, if_pos (by omega), if_pos (by omega)]
    · rw [if_neg e, if_neg (by omega)]
      exact h.nodes j hj
theorem Rel.full (h : Rel s r) (hi : s.inv) (hf : r.room ≤ (r.len : Int)) (n : Nd) : TakeV s = .tuple #[.int .i64 0, .int .i64 7] ∧ s.take n = s := by
  have h1 := hi.total
  have h2 := hi.lim
  have h3 := h.many hi
  have h4 := hi.many
  have h5 := hi.len
  rw [h.room] at hf
  have hs : s.slot = none := by
    unfold Pl.slot
    rw [if_pos (List.eq_nil_of_length_eq_zero (by omega)), if_pos (by omega)]
  unfold TakeV Pl.take
  rw [hs]
  exact ⟨rfl, rfl⟩
theorem Rel.new (h : Rel s r) (hi : s.inv) (hf : (r.len : Int) < r.room) (he : r.free = []) (n : Nd) : TakeV s = .tuple #[.int .i64 ((r.taken.length : Int) + 1), .int .i64 0] ∧ Rel (s.take n) ⟨r.room, r.nodes ++ [{ n with id := (r.taken.length : Int) + 1 }], r.taken ++ [true], []⟩ := by
  have h1 := hi.total
  have h2 := hi.lim
  have h3 := h.many hi
  have h4 := hi.many
  have h5 := hi.len
  have h6 := h.alen hi
  have h7 := h.free
  rw [he] at h7
  rw [h7] at h1
  rw [h.room] at hf
  simp at h1
  have hs : s.slot = some (s.at_.length, { s with at_ := s.at_ ++ [Nd.zero], taken := s.taken ++ [false] }) := by
    unfold Pl.slot
    rw [if_pos h7, if_neg (by omega)]
  unfold TakeV Pl.take
  rw [hs]
  refine ⟨by rw [h6]; simp, h.room, ?_, h7, by simp [h.len], fun j hj => ?_⟩
  · show (s.taken ++ [false]).set s.at_.length true = false :: (r.taken ++ [true])
    rw [h.taken, h6]
    simp
  · show ((s.at_ ++ [Nd.zero]).set s.at_.length { n with id := (s.at_.length : Int) })[j + 1]? = (r.nodes ++ [{ n with id := (r.taken.length : Int) + 1 }])[j]?
    by_cases e : j = r.taken.length
    · subst e
      rw [← h6, List.getElem?_set]
      simp [h.len, h6]
    · rw [List.getElem?_set, if_neg (by omega)]
      have hj' : j < r.taken.length := by
        have := (List.getElem?_eq_some_iff.1 hj).1
        simp at this
        omega
      rw [List.getElem?_append_left hj'] at hj
      rw [List.getElem?_append_left (by omega), List.getElem?_append_left (by rw [h.len]; exact hj')]
      exact h.nodes j hj
theorem Rel.freed (h : Rel s r) (hi : s.inv) {fl : List Int} {x : Int} (he : r.free = fl ++ [x]) (n : Nd) : ∃ k : Nat, x = (k : Int) + 1 ∧ k < r.taken.length ∧ TakeV s = .tuple #[.int .i64 ((k : Int) + 1), .int .i64 0] ∧ Rel (s.take n) ⟨r.room, r.nodes.set k { n with id := (k : Int) + 1 }, r.taken.set k true, fl⟩ := by
  have h7 := h.free
  rw [he] at h7
  have h6 := h.alen hi
  obtain ⟨f1, f2, f3⟩ := hi.free x (by rw [h7]; simp)
  obtain ⟨k, rfl⟩ : ∃ k : Nat, x = (k : Int) + 1 := ⟨(x - 1).toNat, by omega⟩
  have hk : k < r.taken.length := by omega
  have hs : s.slot = some (k + 1, { s with free := fl }) := by
    unfold Pl.slot
    rw [if_neg (by rw [h7]; simp)]
    rw [h7]
    simp
  refine ⟨k, rfl, hk, by unfold TakeV; rw [hs]; simp, ?_⟩
  unfold Pl.take
  rw [hs]
  refine ⟨h.room, ?_, rfl, by simp [h.len], fun j hj => ?_⟩
  · show s.taken.set (k + 1) true = false :: r.taken.set k true
    rw [h.taken]; rfl
  · show (s.at_.set (k + 1) { n with id := ((k + 1 : Nat) : Int) })[j + 1]? = (r.nodes.set k { n with id := (k : Int) + 1 })[j]?
    simp only [List.getElem?_set] at hj ⊢
    have hl := h.len
    by_cases e : k = j
    · subst e
      rw [if_pos rfl, if_pos rfl, if_pos (by omega), if_pos (by omega)]
      simp
    · rw [if_neg e] at hj
      rw [if_neg (by omega), if_neg e]
      exact h.nodes j hj
theorem Rel.start {room : Int} : Rel (Pl.new room) (Rf.new room) := ⟨rfl, rfl, rfl, rfl, fun k hk => by simp [Rf.new] at hk⟩
end
theorem Pl.take_len (s : Pl) (n : Nd) : (s.take n).at_.length ≤ s.at_.length + 1 := by
  unfold Pl.take Pl.slot
  split
  · omega
  · rename_i k s1 h
    split at h
    · split at h
      · cases h
      · cases h; simp [Pl.lay]
    · cases h; simp [Pl.lay]
theorem Pl.give_len (s : Pl) (id : Int) : (s.give id).at_.length = s.at_.length := by unfold Pl.give; split <;> simp
theorem Pl.set_len (s : Pl) (n : Nd) : (s.set n).at_.length = s.at_.length := by unfold Pl.set; split <;> simp
end Go.Proofs.Ytcnejokbldohlaa
