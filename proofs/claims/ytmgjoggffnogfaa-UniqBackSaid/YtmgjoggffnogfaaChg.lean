/- What a call may have changed: the blocks of its footprint, and new ones. -/
import Derived.Test.YtmgjoggffnogfaaMem
namespace Go.Proofs.Ytmgjoggffnogfaa
set_option linter.unusedSimpArgs false
set_option linter.unusedVariables false
open Go.RowKit
/-- From w to w' only the blocks of F may have turned, and new blocks came; F' is what F has become. -/
structure Chg (F F' : List Nat) (w w' : World) : Prop where
  os : w'.os = w.os
  tape : w'.tape = w.tape
  output : w'.output = w.output
  size : w.heap.size ≤ w'.heap.size
  same : ∀ b, b < w.heap.size → b ∉ F → w'.heap[b]? = w.heap[b]?
  fresh : ∀ b, b ∈ F' → b ∈ F ∨ w.heap.size ≤ b
theorem Chg.refl (F : List Nat) (w : World) : Chg F F w w := ⟨rfl, rfl, rfl, Nat.le_refl _, fun _ _ _ => rfl, fun _ h => .inl h⟩
theorem Chg.trans {F F' F'' : List Nat} {a b c : World} (h : Chg F F' a b) (k : Chg F' F'' b c) : Chg F F'' a c :=
  ⟨k.os.trans h.os, k.tape.trans h.tape, k.output.trans h.output, Nat.le_trans h.size k.size,
    fun x hx hn => (k.same x (Nat.lt_of_lt_of_le hx h.size) (fun hm => by
      rcases h.fresh x hm with h1 | h1
      · exact hn h1
      · omega)).trans (h.same x hx hn),
    fun x hx => by
      rcases k.fresh x hx with h1 | h1
      · exact h.fresh x h1
      · exact .inr (Nat.le_trans h.size h1)⟩
theorem Chg.of_below {F : List Nat} {w w' : World} (h : Below w.heap.size w w') : Chg F F w w' :=
  ⟨h.os, h.tape, h.output, h.size, fun b hb _ => h.block b hb, fun _ h => .inl h⟩
theorem Chg.below {F F' : List Nat} {w w' : World} {B : Nat} (h : Chg F F' w w') (hB : B ≤ w.heap.size) (hF : ∀ b ∈ F, B ≤ b) : Below B w w' :=
  ⟨h.os, h.tape, h.output, h.size, fun k hk => h.same k (by omega) (fun hm => by have := hF k hm; omega)⟩
theorem Chg.nil_below {F' : List Nat} {w w' : World} (h : Chg [] F' w w') : Below w.heap.size w w' := h.below (Nat.le_refl _) (fun _ hb => by simp at hb)
theorem Chg.le {F F' : List Nat} {w w' : World} {B : Nat} (h : Chg F F' w w') (hF : ∀ b ∈ F, B ≤ b) (hB : B ≤ w.heap.size) : ∀ b ∈ F', B ≤ b := by
  intro b hb
  rcases h.fresh b hb with h1 | h1
  · exact hF b h1
  · omega
theorem Chg.alloc {F F' : List Nat} {a w : World} (h : Chg F F' a w) (o : Obj) : Chg F F' a (w.alloc o) :=
  h.trans (Chg.of_below ((Below.refl _ _).alloc (Nat.le_refl _) o))
theorem Chg.drew {F F' : List Nat} {a w : World} (h : Chg F F' a w) : Chg F F' a w.drew := ⟨h.os, h.tape, h.output, h.size, h.same, h.fresh⟩
theorem Chg.drewN {F F' : List Nat} {a w : World} (h : Chg F F' a w) (n : Nat) : Chg F F' a (w.drewN n) := h.trans ⟨rfl, rfl, rfl, Nat.le_refl _, fun _ _ _ => rfl, fun _ h => .inl h⟩
theorem Chg.setCell {F F' : List Nat} {a w : World} (h : Chg F F' a w) {p : Addr} (hp : p.block ∈ F') (u : Value) : Chg F F' a (w.setCell p u) :=
  h.trans ⟨rfl, rfl, rfl, by simp [World.setCell], fun b _ hn => Below.heap_setCell w p u b (fun e => hn (e ▸ hp)), fun _ h => .inl h⟩
theorem Chg.setNew {F F' : List Nat} {a w : World} (h : Chg F F' a w) {p : Addr} (hp : a.heap.size ≤ p.block) (u : Value) : Chg F F' a (w.setCell p u) :=
  ⟨h.os, h.tape, h.output, by have := h.size; simpa [World.setCell] using this, fun b hb hn => (Below.heap_setCell w p u b (by omega)).trans (h.same b hb hn), h.fresh⟩
/-- Behind a law that ends in 'grownBy'. -/
theorem Chg.grown {F F' : List Nat} {a w w' : World} {row : Option Nat} (h : Chg F F' a w) (hg : w.grownBy w' row) (hr : ∀ k, row = some k → k ∈ F' ∨ a.heap.size ≤ k) : Chg F F' a w' :=
  ⟨hg.os.trans h.os, hg.tape.trans h.tape, hg.output.trans h.output, Nat.le_trans h.size hg.size,
    fun b hb hn => (hg.block b (Nat.lt_of_lt_of_le hb h.size) (fun e => by
      rcases hr b e.symm with h1 | h1
      · rcases h.fresh b h1 with h2 | h2
        · exact hn h2
        · omega
      · omega)).trans (h.same b hb hn), h.fresh⟩
/-- Another name for the footprint that comes out. -/
theorem Chg.to {F F' F'' : List Nat} {w w' : World} (h : Chg F F' w w') (hf : ∀ b ∈ F'', b ∈ F' ∨ w.heap.size ≤ b) : Chg F F'' w w' :=
  ⟨h.os, h.tape, h.output, h.size, h.same, fun b hb => by
    rcases hf b hb with h1 | h1
    · exact h.fresh b h1
    · exact .inr h1⟩
theorem Chg.from {F F' F₀ : List Nat} {w w' : World} (h : Chg F F' w w') (hf : ∀ b ∈ F, b ∈ F₀) : Chg F₀ F' w w' :=
  ⟨h.os, h.tape, h.output, h.size, fun b hb hn => h.same b hb (fun hm => hn (hf b hm)), fun b hb => by
    rcases h.fresh b hb with h1 | h1
    · exact .inl (hf b h1)
    · exact .inr h1⟩
/-- A block that is none of the footprint stands as it stood. -/
theorem Chg.blk {F F' : List Nat} {w w' : World} {g : Nat} {t : TypeId} {cs : Array Value} (h : Chg F F' w w') (hb : Blk w g t cs) (hn : g ∉ F) : Blk w' g t cs := (h.same g hb.lt hn).trans hb
theorem Chg.own {F F' : List Nat} {w w' : World} {base e size n : Nat} {v : Value} {xs : List Value} (h : Chg F F' w w') (ho : Own w base e size v n xs) (hn : ∀ g, v.ownBlock = some g → g ∉ F) : Own w' base e size v n xs :=
  ho.keep fun g hg => h.same g (ho.lt g hg).2 (hn g hg)
theorem Chg.apart {F F' : List Nat} {w w' : World} (h : Chg F F' w w') {g : Nat} (hg : g < w.heap.size) (hn : g ∉ F) : g ∉ F' := fun hm => by
  rcases h.fresh g hm with h1 | h1
  · exact hn h1
  · omega
end Go.Proofs.Ytmgjoggffnogfaa
