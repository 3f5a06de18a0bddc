/- Pieces across the rounds of a range over a function. -/
import Derived.Test.YtmgjoggffnogfaaSh
import Derived.Test.YtmgjoggffnogfaaSg
import Derived.Test.YtmgjoggffnogfaaIterG
namespace Go.Proofs.Ytmgjoggffnogfaa
set_option linter.unusedSimpArgs false
set_option linter.unusedVariables false
open Go.ChangeShapes Go.WideShapes Go.ChangeAt Go.RowKit
section
variable {E W W' : World} {I J : PH} {ms ns : List PH}
/-- Nothing of the pieces is written where a walk's record turns. -/
theorem Sat.turn {B : Nat} {row : Option Nat} (hS : Sat E I ms W) (hg : W.grownBy W' row) (hr : ∀ r, row = some r → B ≤ r ∧ ∃ o : Obj, W.heap[r]? = some o ∧ o.isCells = false)
    (hI : ∀ b o, I b = some o → b < B ∨ o.isCells = true) (hm : ∀ m ∈ ms, ∀ b o, m b = some o → b < B ∨ o.isCells = true) : Sat E I ms W' := by
  have key : ∀ b o, W.heap[b]? = some o → (b < B ∨ o.isCells = true) → W'.heap[b]? = some o := fun b o hb h => by
    rw [hg.block b (Array.getElem?_eq_some_iff.1 hb).1, hb]
    rintro e
    obtain ⟨h1, o', h2, h3⟩ := hr b e.symm
    rw [hb] at h2
    cases h2
    rcases h with h | h
    · omega
    · rw [h3] at h; cases h
  exact ⟨hg.os.trans hS.os, hg.tape.trans hS.tape, hg.output.trans hS.output, fun b o hb => key b o (hS.imm b o hb) (hI b o hb), fun m hm' b o hb => key b o (hS.own m hm' b o hb) (hm m hm' b o hb), hS.sep, hS.dis, Nat.le_trans hS.size hg.size⟩
/-- All that lies in no piece is held. -/
theorem Sat.full (hS : Sat E I ms W) : ∃ I' : PH, I.le I' ∧ Sat W I' ms W ∧ ∀ b, (∀ m ∈ ms, m b = none) → I' b = W.heap[b]? := by
  classical
  refine ⟨fun b => if ∃ m ∈ ms, m b ≠ none then none else W.heap[b]?, fun b o hb => ?_, ⟨rfl, rfl, rfl, fun b o hb => ?_, hS.own, fun m hm b => ?_, hS.dis, Nat.le_refl _⟩, fun b hb => ?_⟩
  · show (if _ then none else _) = _
    rw [if_neg, hS.imm b o hb]
    rintro ⟨m, hm, hne⟩
    rcases hS.sep m hm b with h | h
    · exact hne h
    · rw [hb] at h; cases h
  · split at hb
    · cases hb
    · exact hb
  · cases hmb : m b with
    | none => exact .inl rfl
    | some o => exact .inr (if_pos ⟨m, hm, by rw [hmb]; simp⟩)
  · show (if _ then none else _) = _
    rw [if_neg]
    rintro ⟨m, hm, hne⟩
    exact hne (hb m hm)
/-- Whatever lies in memory lies in what is held or in a piece. -/
theorem Sat.find (hS : Sat E I ms W) (hI : ∀ b, (∀ m ∈ ms, m b = none) → I b = W.heap[b]?) (b : Nat) : ∃ p, Src I ms p ∧ ∀ o, W.heap[b]? = some o → p b = some o := by
  classical
  by_cases h : ∀ m ∈ ms, m b = none
  · exact ⟨I, .inl (PH.le.refl I), fun o ho => by rw [hI b h]; exact ho⟩
  · obtain ⟨m, hm⟩ := Classical.not_forall.1 h
    obtain ⟨hm, hne⟩ := Classical.not_imp.1 hm
    refine ⟨m, .inr hm, fun o ho => ?_⟩
    cases hmb : m b with
    | none => exact absurd hmb hne
    | some u => rw [← ho, ← hS.own m hm b u hmb]
/-- The blocks of S have stayed as they lay, for they are held. -/
theorem Sat.keeps {S : Nat → Prop} (hI : ∀ b, (∀ m ∈ ms, m b = none) → I b = W.heap[b]?) (hS : ∀ b, S b → b < W.heap.size) (hm : ∀ m ∈ ms, ∀ b, S b → m b = none) (hJ : I.le J) (h : Sat W J ns W') :
    Keeps S W W' ∧ ∀ m ∈ ns, ∀ b, S b → m b = none := by
  have key : ∀ b, S b → ∃ o, W.heap[b]? = some o ∧ J b = some o := fun b hb => by
    have h1 := Array.getElem?_eq_getElem (hS b hb)
    refine ⟨_, h1, hJ b _ ?_⟩
    rw [hI b fun m hm' => hm m hm' b hb, h1]
  refine ⟨⟨h.size, fun b hb => ?_⟩, fun m hm' b hb => ?_⟩
  · obtain ⟨o, h1, h2⟩ := key b hb
    rw [h1, h.imm b o h2]
  · obtain ⟨o, _, h2⟩ := key b hb
    rcases h.sep m hm' b with h3 | h3
    · exact h3
    · rw [h2] at h3; cases h3
theorem PH.at_of_cell {p : PH} {X off : Nat} {v : Value} (hp : ∀ o, W.heap[X]? = some o → p X = some o) (hc : W.cell? ⟨X, off, none⟩ = some v) : p.at X off = some v := by
  unfold World.cell? at hc
  unfold PH.at
  cases hw : W.heap[X]? with
  | none => rw [hw] at hc; cases hc
  | some o =>
    rw [hp o hw]
    rw [hw] at hc
    cases o <;> first | (cases hc) | (simpa using hc)
theorem OwnP.isCells {m : PH} {e : TypeId} {size n : Nat} {v : Value} {xs : List Value} (h : OwnP m e size v n xs) : ∀ b o, m b = some o → o.isCells = true := fun b o hb => by
  rcases h.2 with ⟨_, _, rfl⟩ | ⟨g, cap, cur, _, rfl, _⟩
  · cases hb
  · obtain ⟨_, rfl⟩ := PH.one_some hb
    rfl
theorem PH.one_isCells {X : Nat} {c : Array Value} {T : TypeId} {z : Nat × Nat} : ∀ b o, PH.one X (.cells c T z) b = some o → o.isCells = true := fun b o hb => by
  obtain ⟨_, rfl⟩ := PH.one_some hb
  rfl
end
/-- A goal laid behind a veil: nothing looks into it. -/
structure Veil (p : Prop) : Prop where
  out : p
/-- A slice literal, one operation. -/
theorem wp_bsl {P : Program} {a : Act} {w E : World} {K : Act → World → Prop} {Q : Exit → Act → World → Prop} {I : PH} {ms : List PH} {dst : Option Tmp} {type : TypeId} {pos : String} {after : Array Edge} {g : Option (Nat × Bool)} {T : TypeId} {n : Nat} {parts : Array (Nat × Operand)}
    (hS : Sat E I ms w) {cs : Array Value} {e : TypeId} (hr : ∀ w : World, (Instr.buildSlice T n (parts.map fun (i, x) => (i, a.eval x))).run P w = .ok (.slice (some ⟨w.heap.size, 0, none⟩) n n) (w.alloc (.cells cs e)))
    (h : ∀ X w', Sat E I (PH.one X (.cells cs e) :: ms) w' → K (a.put dst (.slice (some ⟨X, 0, none⟩) n n)) w') : Oper.wp P ⟨dst, .buildSlice T n parts, type, pos, after, g⟩ a w K Q := by
  unfold Oper.wp execOp
  simp only [Sem.run_bind, hr, Result.andThen_ok, Sem.run_pure]
  exact h _ _ (hS.alloc _)
theorem wp_mv {P : Program} {a : Act} {w : World} {K : Act → World → Prop} {Q : Exit → Act → World → Prop} {dst : Option Tmp} {type : TypeId} {pos : String} {after : Array Edge} {g : Option (Nat × Bool)} {x : Operand}
    (h : K (a.put dst (a.eval x)) w) : Oper.wp P ⟨dst, .move x, type, pos, after, g⟩ a w K Q := by
  unfold Oper.wp execOp
  simp only [Sem.run_pure]
  exact h
theorem rowsIn_round {n l : Nat} {P : Program} {r : String} {args : Array Value} {w : World} {R : Value → World → Prop} (h : Rows P r args w R) : RowsIn (Fence.wide.inRound l) n P r args w R := fun c cs _ =>
  let ⟨v, w', hr, s⟩ := h c cs; ⟨v, w', hr, stepsIn_wide.2 s⟩
theorem callsIn_round {n l : Nat} {P : Program} {f : FuncId} {args : Array Value} {w : World} {R : Ending → World → Prop} (h : Calls P f args w R) : CallsIn (Fence.wide.inRound l) n P f args w R := CallsIn.inRound _ (callsIn_wide.2 h)
end Go.Proofs.Ytmgjoggffnogfaa
