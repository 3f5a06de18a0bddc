/- Memory in pieces: what is never written any more, and what is owned, piece by piece. -/
import Derived.Test.YtmgjoggffnogfaaPost
import Derived.Lib.Hide
import Derived.Deep.Light
import Derived.Deep.Draws
import Derived.Laws.Rows
import Derived.Laws.Tables
namespace Go.Proofs.Ytmgjoggffnogfaa
set_option linter.unusedSimpArgs false
set_option linter.unusedVariables false
open Go.RowKit
/-- A part of the heap. -/
abbrev PH := Nat → Option Obj
def PH.le (I J : PH) : Prop := ∀ b o, I b = some o → J b = some o
def PH.one (X : Nat) (o : Obj) : PH := fun b => if b = X then some o else none
def PH.join (I J : PH) : PH := fun b => match I b with | some o => some o | none => J b
def PH.off (I J : PH) : Prop := ∀ b, I b = none ∨ J b = none
def heapOf (w : World) : PH := fun b => w.heap[b]?
theorem PH.le.refl (I : PH) : I.le I := fun _ _ h => h
theorem PH.le.trans {I J K : PH} (h : I.le J) (k : J.le K) : I.le K := fun b o hb => k b o (h b o hb)
theorem PH.le_join (I J : PH) : I.le (I.join J) := fun b o h => by simp [PH.join, h]
theorem PH.le_join_right {I J : PH} (h : I.off J) : J.le (I.join J) := fun b o hb => by
  rcases h b with hn | hn
  · simp [PH.join, hn, hb]
  · rw [hn] at hb; cases hb
theorem PH.one_self (X : Nat) (o : Obj) : PH.one X o X = some o := by simp [PH.one]
theorem PH.one_some {X b : Nat} {o u : Obj} (h : PH.one X o b = some u) : b = X ∧ u = o := by
  unfold PH.one at h
  split at h
  · rename_i e; exact ⟨e, by injection h with h; exact h.symm⟩
  · cases h
/-- The world holds I, which nobody writes any more, and the pieces ms, which lie apart; the streams are E's. -/
structure Sat (E : World) (I : PH) (ms : List PH) (w : World) : Prop where
  os : w.os = E.os
  tape : w.tape = E.tape
  output : w.output = E.output
  imm : ∀ b o, I b = some o → w.heap[b]? = some o
  own : ∀ m ∈ ms, ∀ b o, m b = some o → w.heap[b]? = some o
  sep : ∀ m ∈ ms, ∀ b, m b = none ∨ I b = none
  dis : ms.Pairwise fun m n => ∀ b, m b = none ∨ n b = none
  size : E.heap.size ≤ w.heap.size
section
variable {E w w' : World} {I J : PH} {m m' : PH} {ms ns : List PH}
theorem Sat.start (W : World) : Sat W (heapOf W) [] W :=
  ⟨rfl, rfl, rfl, fun _ _ h => h, by simp, by simp, .nil, Nat.le_refl _⟩
theorem Sat.perm (h : Sat E I ms w) (p : ms.Perm ns) : Sat E I ns w :=
  ⟨h.os, h.tape, h.output, h.imm, fun m hm => h.own m (p.mem_iff.2 hm), fun m hm => h.sep m (p.mem_iff.2 hm),
   (p.pairwise_iff (fun h b => (h b).symm)).1 h.dis, h.size⟩
theorem Sat.drew (h : Sat E I ms w) : Sat E I ms w.drew := ⟨h.os, h.tape, h.output, h.imm, h.own, h.sep, h.dis, h.size⟩
theorem Sat.drewN (h : Sat E I ms w) (n : Nat) : Sat E I ms (w.drewN n) := ⟨h.os, h.tape, h.output, h.imm, h.own, h.sep, h.dis, h.size⟩
theorem Sat.drawn (h : Sat E I ms w) (n : Nat) : Sat E I ms { w with drawn := n } := ⟨h.os, h.tape, h.output, h.imm, h.own, h.sep, h.dis, h.size⟩
theorem Sat.drop (h : Sat E I (m :: ms) w) : Sat E I ms w :=
  ⟨h.os, h.tape, h.output, h.imm, fun n hn => h.own n (.tail _ hn), fun n hn => h.sep n (.tail _ hn), (List.pairwise_cons.1 h.dis).2, h.size⟩
theorem Sat.less (h : Sat E J ms w) (k : I.le J) : Sat E I ms w :=
  ⟨h.os, h.tape, h.output, fun b o hb => h.imm b o (k b o hb), h.own, fun m hm b => (h.sep m hm b).imp id (fun hn => by
    cases hI : I b with
    | none => rfl
    | some o => rw [k b o hI] at hn; cases hn), h.dis, h.size⟩
theorem Sat.lt (h : Sat E I ms w) (hm : m ∈ ms) {b : Nat} {o : Obj} (hb : m b = some o) : b < w.heap.size := by
  have := h.own m hm b o hb
  exact (Array.getElem?_eq_some_iff.1 this).1
theorem Sat.ilt (h : Sat E I ms w) {b : Nat} {o : Obj} (hb : I b = some o) : b < w.heap.size := (Array.getElem?_eq_some_iff.1 (h.imm b o hb)).1
/-- The first piece goes over to what nobody writes. -/
theorem Sat.freeze (h : Sat E I (m :: ms) w) : Sat E (I.join m) ms w := by
  have hp := List.pairwise_cons.1 h.dis
  refine ⟨h.os, h.tape, h.output, fun b o hb => ?_, fun n hn => h.own n (.tail _ hn), fun n hn b => ?_, hp.2, h.size⟩
  · unfold PH.join at hb
    split at hb
    · rename_i o' e; cases hb; exact h.imm b _ e
    · exact h.own m (.head _) b o hb
  · rcases h.sep n (.tail _ hn) b with h1 | h1
    · exact .inl h1
    · rcases hp.1 n hn b with h2 | h2
      · exact .inr (by simp [PH.join, h1, h2])
      · exact .inl h2
theorem Sat.off (h : Sat E I ms w) (hm : m ∈ ms) : I.off m := fun b => (h.sep m hm b).symm
/-- A step that leaves alone all but the first piece, and new blocks. -/
theorem Sat.change (h : Sat E I (m :: ms) w) (hz : w.heap.size ≤ w'.heap.size) (h1 : w'.os = w.os) (h2 : w'.tape = w.tape) (h3 : w'.output = w.output)
    (hk : ∀ b, b < w.heap.size → m b = none → w'.heap[b]? = w.heap[b]?)
    (hm : ∀ b o, m' b = some o → w'.heap[b]? = some o) (hn : ∀ b, m b = none → b < w.heap.size → m' b = none) : Sat E I (m' :: ms) w' := by
  have hp := List.pairwise_cons.1 h.dis
  have keep : ∀ n ∈ ms, ∀ b o, n b = some o → w'.heap[b]? = some o := fun n hn' b o hb => by
    have hlt := h.lt (.tail _ hn') hb
    rcases hp.1 n hn' b with h4 | h4
    · rw [hk b hlt h4]; exact h.own n (.tail _ hn') b o hb
    · rw [h4] at hb; cases hb
  have apart : ∀ b, (∃ o, w.heap[b]? = some o) → m b = none → m' b = none := fun b ⟨o, ho⟩ h4 => hn b h4 (Array.getElem?_eq_some_iff.1 ho).1
  refine ⟨h1.trans h.os, h2.trans h.tape, h3.trans h.output, fun b o hb => ?_, fun n hn' => ?_, fun n hn' b => ?_, List.pairwise_cons.2 ⟨fun n hn' b => ?_, hp.2⟩, Nat.le_trans h.size hz⟩
  · have hlt := h.ilt hb
    rcases h.sep m (.head _) b with h4 | h4
    · rw [hk b hlt h4]; exact h.imm b o hb
    · rw [h4] at hb; cases hb
  · rcases List.mem_cons.1 hn' with rfl | hn'
    · exact hm
    · exact keep n hn'
  · rcases List.mem_cons.1 hn' with rfl | hn'
    · cases hI : I b with
      | none => exact .inr rfl
      | some o =>
        rcases h.sep m (.head _) b with h4 | h4
        · exact .inl (apart b ⟨o, h.imm b o hI⟩ h4)
        · rw [hI] at h4; cases h4
    · exact h.sep n (.tail _ hn') b
  · cases hN : n b with
    | none => exact .inr rfl
    | some o =>
      rcases hp.1 n hn' b with h4 | h4
      · exact .inl (apart b ⟨o, h.own n (.tail _ hn') b o hN⟩ h4)
      · rw [hN] at h4; cases h4
theorem Sat.empty (h : Sat E I ms w) : Sat E I ((fun _ => none) :: ms) w :=
  ⟨h.os, h.tape, h.output, h.imm, fun n hn => by
    rcases List.mem_cons.1 hn with rfl | hn
    · intro b o hb; cases hb
    · exact h.own n hn, fun n hn b => by
    rcases List.mem_cons.1 hn with rfl | hn
    · exact .inl rfl
    · exact h.sep n hn b, List.pairwise_cons.2 ⟨fun _ _ _ => .inl rfl, h.dis⟩, h.size⟩
theorem Sat.alloc (h : Sat E I ms w) (o : Obj) : Sat E I (PH.one w.heap.size o :: ms) (w.alloc o) := by
  refine h.empty.change (by simp) rfl rfl rfl (fun b hb _ => Below.heap_alloc w o b hb) (fun b u hb => ?_) (fun b _ hb => ?_)
  · obtain ⟨rfl, rfl⟩ := PH.one_some hb
    exact heap_alloc_new w _
  · unfold PH.one; rw [if_neg (by omega)]
theorem Sat.set_ {X : Nat} {c : Array Value} {T : TypeId} {z : Nat × Nat} (h : Sat E I (PH.one X (.cells c T z) :: ms) w) (j : Nat) (v : Value) :
    Sat E I (PH.one X (.cells (c.setIfInBounds j v) T z) :: ms) (w.setCell ⟨X, j, none⟩ v) := by
  have hX := h.own _ (.head _) X _ (PH.one_self _ _)
  refine h.change (by simp [World.setCell]) rfl rfl rfl (fun b _ hb => Below.heap_setCell w _ v b ?_) (fun b u hb => ?_) (fun b hb hlt => ?_)
  · rintro rfl
    rw [PH.one_self] at hb; cases hb
  · obtain ⟨rfl, rfl⟩ := PH.one_some hb
    simp [World.setCell, Array.getElem?_modify, hX]
  · unfold PH.one at hb ⊢
    split at hb
    · cases hb
    · rename_i hne; rw [if_neg hne]
/-- The heap grew, nothing that was there has turned: what is new nobody writes any more. -/
theorem Sat.grow (h : Sat E I ms w) (hb : Below w.heap.size w w') : ∃ J : PH, I.le J ∧ Sat E J ms w' ∧ ∀ b o, w.heap.size ≤ b → w'.heap[b]? = some o → J b = some o := by
  refine ⟨I.join (fun b => if w.heap.size ≤ b then w'.heap[b]? else none), PH.le_join _ _, ⟨hb.os.trans h.os, hb.tape.trans h.tape, hb.output.trans h.output, fun b o hJ => ?_, fun m hm b o hmb => ?_, fun m hm b => ?_, h.dis, Nat.le_trans h.size hb.size⟩, fun b o hle ho => ?_⟩
  · unfold PH.join at hJ
    split at hJ
    · rename_i o' e; cases hJ; rw [hb.block b (h.ilt e)]; exact h.imm b _ e
    · simp only at hJ
      split at hJ
      · exact hJ
      · cases hJ
  · rw [hb.block b (h.lt hm hmb)]; exact h.own m hm b o hmb
  · cases hmb : m b with
    | none => exact .inl rfl
    | some o =>
      refine .inr ?_
      have := h.lt hm hmb
      rcases h.sep m hm b with h1 | h1
      · rw [hmb] at h1; cases h1
      · simp only [PH.join, h1]; rw [if_neg (by omega)]
  · have hI : I b = none := by
      cases hI : I b with
      | none => rfl
      | some u => have := h.ilt hI; omega
    simp only [PH.join, hI]
    rw [if_pos hle, ho]
theorem Sat.below_ (h : Sat E I ms w) (hb : Below w.heap.size w w') : Sat E I ms w' := by
  obtain ⟨J, hJ, hs, _⟩ := h.grow hb
  exact hs.less hJ
/-- At the call's end: of what was there when it began nothing has turned. -/
theorem Sat.end_ {W : World} (h : Sat W I ms w) (hI : (heapOf W).le I) : Below W.heap.size W w := by
  have hk : ∀ k, k < W.heap.size → w.heap[k]? = W.heap[k]? := fun k hk => by
    have := h.imm k W.heap[k] (hI k _ (Array.getElem?_eq_getElem hk))
    rw [this, Array.getElem?_eq_getElem hk]
  refine ⟨h.os, h.tape, h.output, ?_, hk⟩
  rcases Nat.lt_or_ge w.heap.size W.heap.size with hlt | hge
  · have h1 := hk w.heap.size hlt
    rw [Array.getElem?_eq_none (Nat.le_refl _), Array.getElem?_eq_getElem hlt] at h1
    cases h1
  · exact hge
/-- The same with the streams and the size of this very world. -/
theorem Sat.rebase (h : Sat E I ms w) : Sat w I ms w := ⟨rfl, rfl, rfl, h.imm, h.own, h.sep, h.dis, Nat.le_refl _⟩
theorem Sat.unbase {W : World} (h0 : Sat E J ns W) (h : Sat W I ms w) : Sat E I ms w := ⟨h.os.trans h0.os, h.tape.trans h0.tape, h.output.trans h0.output, h.imm, h.own, h.sep, h.dis, Nat.le_trans h0.size h.size⟩
theorem Sat.cell_of (h : Sat E I ms w) {X : Nat} {c : Array Value} {T : TypeId} {z : Nat × Nat} (hm : PH.one X (.cells c T z) ∈ ms) (j : Nat) : w.cell? ⟨X, j, none⟩ = c[j]? :=
  cell_of_row w X j c T z (h.own _ hm X _ (PH.one_self _ _))
theorem Sat.icell {X : Nat} {c : Array Value} {T : TypeId} {z : Nat × Nat} (h : Sat E I ms w) (hm : I X = some (.cells c T z)) (j : Nat) : w.cell? ⟨X, j, none⟩ = c[j]? :=
  cell_of_row w X j c T z (h.imm X _ hm)
end
/-- What a piece tells of the world's cells, in the form of rules. -/
def Rule (w : World) (X : Nat) (o : Obj) : Prop :=
  match o with
  | .cells c _ z => (∀ j, w.cell? ⟨X, j, none⟩ = c[j]?) ∧ (z = (0, 0) → ∀ j, w.frozen? ⟨X, j, none⟩ = false)
  | _ => True
theorem Sat.rule {E w : World} {I : PH} {ms : List PH} (h : Sat E I ms w) (k : Nat) {X : Nat} {c : Array Value} {T : TypeId} (hm : ms[k]? = some (PH.one X (.cells c T (0, 0)))) :
    (∀ j, w.cell? ⟨X, j, none⟩ = c[j]?) ∧ ∀ j, w.frozen? ⟨X, j, none⟩ = false := by
  have hm' := List.mem_of_getElem? hm
  refine ⟨fun j => h.cell_of hm' j, fun j => ?_⟩
  have := h.own _ hm' X _ (PH.one_self _ _)
  simp [World.frozen?, this]
end Go.Proofs.Ytmgjoggffnogfaa
