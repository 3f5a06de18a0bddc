/- Steps of a walk over memory in pieces: load, alloc, box, store; each by unification, no fact is searched. -/
import Derived.Test.YtmgjoggffnogfaaSd
import Derived.Tactics2
namespace Go.Proofs.Ytmgjoggffnogfaa
set_option linter.unusedSimpArgs false
set_option linter.unusedVariables false
open Go.RowKit
@[irreducible] def aggB (P : Program) (T : TypeId) : Option Bool := (P.underlying T).map fun d => match d with | .struct _ | .array _ _ => true | _ => false
@[irreducible] def sizeB (P : Program) (T : TypeId) : Option Nat := (P.info? T).map (·.size)
@[irreducible] def zeroB (P : Program) (T : TypeId) : Option Value := (P.info? T).bind (·.zero)
def PH.at (I : PH) (X off : Nat) : Option Value := match I X with | some (.cells c _ _) => c[off]? | _ => none
/-- From off on the block X reads vs. -/
def Cells (I : PH) (X off : Nat) (vs : List Value) : Prop := ∀ j v, vs[j]? = some v → I.at X (off + j) = some v
theorem PH.at_le {I J : PH} (h : I.le J) {X off : Nat} {v : Value} (hc : I.at X off = some v) : J.at X off = some v := by
  unfold PH.at at hc ⊢
  cases hI : I X with
  | none => rw [hI] at hc; cases hc
  | some o => rw [hI] at hc; rw [h X o hI]; exact hc
theorem Cells.le {I J : PH} (h : I.le J) {X off : Nat} {vs : List Value} (hc : Cells I X off vs) : Cells J X off vs := fun j v hj => PH.at_le h (hc j v hj)
theorem Cells.one (X : Nat) (c : Array Value) (T : TypeId) (z : Nat × Nat) : Cells (PH.one X (.cells c T z)) X 0 c.toList := fun j v hj => by
  simp only [PH.at, PH.one_self, Nat.zero_add]
  simpa using hj
theorem Cells.part {I : PH} {X off : Nat} {vs : List Value} (h : Cells I X off vs) (i n : Nat) : Cells I X (off + i) ((vs.drop i).take n) := fun j v hj => by
  rw [Nat.add_assoc]
  refine h (i + j) v ?_
  rw [List.getElem?_take] at hj
  split at hj
  · rwa [List.getElem?_drop] at hj
  · cases hj
theorem heap_at {I : PH} {w : World} (h : I.le (heapOf w)) {X off : Nat} {v : Value} (hc : I.at X off = some v) : w.cell? ⟨X, off, none⟩ = some v := by
  have := PH.at_le h hc
  unfold PH.at heapOf at this
  unfold World.cell?
  cases hw : w.heap[X]? with
  | none => rw [hw] at this; cases this
  | some o => rw [hw] at this; cases o <;> first | (cases this) | (simpa using this)
theorem Sat.ile {E w : World} {I : PH} {ms : List PH} (h : Sat E I ms w) : I.le (heapOf w) := h.imm
theorem Sat.mle {E w : World} {I : PH} {ms : List PH} (h : Sat E I ms w) {k : Nat} {m : PH} (hm : ms[k]? = some m) : m.le (heapOf w) := h.own m (List.mem_of_getElem? hm)
section
variable {P : Program} {w : World}
theorem run_load1 {p : PH} (hp : p.le (heapOf w)) {T : TypeId} (hT : aggB P T = some false) {X off : Nat} {v : Value} (hc : p.at X off = some v) : (Instr.loadAt T (.pointer (some ⟨X, off, none⟩))).run P w = .ok v w := by
  unfold aggB at hT
  cases hd : P.underlying T with
  | none => rw [hd] at hT; cases hT
  | some d =>
    rw [hd] at hT
    have hw := heap_at hp hc
    cases d <;> first
      | (simp at hT; done)
      | (simp [Instr.loadAt, Instr.sureAddr, loadVar, isAgg, run_underlying hd, load, Sem.run, hw])
theorem run_loadN {p : PH} (hp : p.le (heapOf w)) {T : TypeId} (hT : aggB P T = some true) {X off : Nat} {vs : List Value} (hc : Cells p X off vs) (hs : sizeB P T = some vs.length) : (Instr.loadAt T (.pointer (some ⟨X, off, none⟩))).run P w = .ok (.agg vs.toArray) w := by
  unfold aggB at hT
  unfold sizeB at hs
  have hl := run_loadCells_list (P := P) w ⟨X, off, none⟩ vs (fun j v hj => by
    have hadd : (⟨X, off, none⟩ : Addr).add j = ⟨X, off + j, none⟩ := by unfold Addr.add; split <;> simp_all
    rw [hadd]
    exact heap_at hp (hc j v hj))
  cases hd : P.underlying T with
  | none => rw [hd] at hT; cases hT
  | some d =>
    rw [hd] at hT
    cases hi : P.info? T with
    | none => rw [hi] at hs; cases hs
    | some i =>
      rw [hi] at hs
      have hsz : i.size = vs.length := by simpa using hs
      cases d <;> first
        | (simp at hT; done)
        | (simp [Instr.loadAt, Instr.sureAddr, loadVar, isAgg, run_underlying hd, sizeOf, typeInfo, hi, hsz, hl])
theorem run_box_S {T : TypeId} {v : Value} : (Instr.box T v).run P w = .ok (.pointer (some ⟨w.heap.size, 0, none⟩)) (w.alloc (.cells v.cells T)) := by
  simp [Instr.box, newVar, newRow]
theorem run_store1 {X off : Nat} {c : Array Value} {T' T : TypeId} {v : Value} (hg : w.heap[X]? = some (.cells c T' (0, 0))) (hs : sizeB P T = some 1) (hv : v.cells = #[v]) (h1 : v.oneCell' = true) (ho : off < c.size) :
    (Instr.storeAt T (.pointer (some ⟨X, off, none⟩)) v).run P w = .ok () (w.setCell ⟨X, off, none⟩ v) := by
  unfold sizeB at hs
  cases hi : P.info? T with
  | none => rw [hi] at hs; cases hs
  | some i =>
    rw [hi] at hs
    have hsz : i.size = 1 := by simpa using hs
    have hc : w.cell? ⟨X, off, none⟩ = some c[off] := by rw [cell_of_row w X off c T' (0, 0) hg]; simp [ho]
    have hf : w.frozen? ⟨X, off, none⟩ = false := by simp [World.frozen?, hg]
    have ha : (⟨X, off, none⟩ : Addr).add 0 = ⟨X, off, none⟩ := rfl
    simp [Instr.storeAt, Instr.sureAddr, storeVar, sizeOf, typeInfo, hi, hsz, hv, storeCells, run_store P w _ v .plain h1, hc, hf, ha]
end
section
variable {P : Program} {o : Oper} {a : Act} {w E : World} {K : Act → World → Prop} {Q : Exit → Act → World → Prop} {I : PH} {ms : List PH}
theorem wp_ld1 {p : PH} (hp : p.le (heapOf w)) {T : TypeId} {x : Operand} (ho : o.op = .load T x) (hT : aggB P T = some false) {X off : Nat} {v : Value} (hx : a.eval x = .pointer (some ⟨X, off, none⟩)) (hc : p.at X off = some v)
    (h : K (a.put o.dst v) w) : o.wp P a w K Q := by
  unfold Oper.wp execOp
  simp only [ho, hx, Sem.run_bind, run_load1 hp hT hc, Result.andThen_ok, Sem.run_pure]
  exact h
theorem wp_ldN {p : PH} (hp : p.le (heapOf w)) {T : TypeId} {x : Operand} (ho : o.op = .load T x) (hT : aggB P T = some true) {X off : Nat} {vs : List Value} (hx : a.eval x = .pointer (some ⟨X, off, none⟩)) (hc : Cells p X off vs) (hs : sizeB P T = some vs.length)
    (h : K (a.put o.dst (.agg vs.toArray)) w) : o.wp P a w K Q := by
  unfold Oper.wp execOp
  simp only [ho, hx, Sem.run_bind, run_loadN hp hT hc hs, Result.andThen_ok, Sem.run_pure]
  exact h
theorem zeroB_eq {T : TypeId} {z : Value} (h : zeroB P T = some z) : (P.info? T).bind (·.zero) = some z := by unfold zeroB at h; exact h
theorem sizeB_eq {T : TypeId} {n : Nat} (h : sizeB P T = some n) : (P.info? T).map (·.size) = some n := by unfold sizeB at h; exact h
theorem wp_al (hS : Sat E I ms w) {T : TypeId} (ho : o.op = .alloc T) {z : Value} (hz : zeroB P T = some z)
    (h : ∀ X w', Sat E I (PH.one X (.cells z.cells T) :: ms) w' → K (a.put o.dst (.pointer (some ⟨X, 0, none⟩))) w') : o.wp P a w K Q := by
  unfold Oper.wp execOp
  simp only [ho, Sem.run_bind, run_alloc_S (zeroB_eq hz), Result.andThen_ok, Sem.run_pure]
  exact h _ _ (hS.alloc _)
theorem wp_bx (hS : Sat E I ms w) {T : TypeId} {x : Operand} (ho : o.op = .box T x) {v : Value} (hx : a.eval x = v)
    (h : ∀ X w', Sat E I (PH.one X (.cells v.cells T) :: ms) w' → K (a.put o.dst (.pointer (some ⟨X, 0, none⟩))) w') : o.wp P a w K Q := by
  unfold Oper.wp execOp
  simp only [ho, hx, Sem.run_bind, run_box_S, Result.andThen_ok, Sem.run_pure]
  exact h _ _ (hS.alloc _)
theorem perm_front (k : Nat) {m : PH} (hm : ms[k]? = some m) : ms.Perm (m :: ms.eraseIdx k) := by
  induction ms generalizing k with
  | nil => cases hm
  | cons n l ih =>
    cases k with
    | zero => simp at hm; subst hm; exact List.Perm.refl _
    | succ k =>
      simp at hm
      exact ((ih k hm).cons n).trans (List.Perm.swap m n _)
theorem perm_back (k : Nat) {m m' : PH} (hm : ms[k]? = some m) : (m' :: ms.eraseIdx k).Perm (ms.set k m') := by
  induction ms generalizing k with
  | nil => cases hm
  | cons n l ih =>
    cases k with
    | zero => exact List.Perm.refl _
    | succ k =>
      simp at hm
      exact (List.Perm.swap n m' _).trans ((ih k hm).cons n)
/-- A store of a whole variable, or of a field of one cell. -/
theorem wp_stN (hS : Sat E I ms w) (k : Nat) {T : TypeId} {x y : Operand} (ho : o.op = .store T x y) {X : Nat} {c : Array Value} {T' : TypeId} {v : Value} (hx : a.eval x = .pointer (some ⟨X, 0, none⟩)) (hy : a.eval y = v)
    (hm : ms[k]? = some (PH.one X (.cells c T' (0, 0)))) (hs : sizeB P T = some v.cells.size) (hc : c.size = v.cells.size) (h1 : v.cells.all (·.oneCell') = true)
    (h : ∀ w', Sat E I (ms.set k (PH.one X (.cells v.cells T'))) w' → K (a.put o.dst undef) w') : o.wp P a w K Q := by
  unfold Oper.wp execOp
  have h0 := hS.perm (perm_front k hm)
  simp only [ho, hx, hy, Instr.storeAt, Instr.sureAddr, Sem.run_bind, Sem.run_pure, Result.andThen_ok]
  rw [run_storeVar_S (h0.own _ (.head _) X _ (PH.one_self _ _)) (sizeB_eq hs) hc h1]
  exact h _ ((setRow_step h0).perm (perm_back k hm))
theorem wp_st1 (hS : Sat E I ms w) (k : Nat) {T : TypeId} {x y : Operand} (ho : o.op = .store T x y) {X off : Nat} {c : Array Value} {T' : TypeId} {v : Value} (hx : a.eval x = .pointer (some ⟨X, off, none⟩)) (hy : a.eval y = v)
    (hm : ms[k]? = some (PH.one X (.cells c T' (0, 0)))) (hs : sizeB P T = some 1) (hv : v.cells = #[v]) (h1 : v.oneCell' = true) (hlt : off < c.size)
    (h : ∀ w', Sat E I (ms.set k (PH.one X (.cells (c.setIfInBounds off v) T'))) w' → K (a.put o.dst undef) w') : o.wp P a w K Q := by
  unfold Oper.wp execOp
  have h0 := hS.perm (perm_front k hm)
  simp only [ho, hx, hy, Sem.run_bind, Sem.run_pure]
  rw [run_store1 (h0.own _ (.head _) X _ (PH.one_self _ _)) hs hv h1 hlt]
  exact h _ ((h0.set_ off v).perm (perm_back k hm))
end
section
variable {P : Program} {o : Oper} {a : Act} {w E : World} {Q : Exit → Act → World → Prop} {I : PH} {ms : List PH} {ops : Array Oper} {rest : List Oper}
/-- A load out of the k-th piece, one block known whole. -/
theorem ld1 (k : Nat) (hS : Sat E I ms w) (hg : o.guard = none) {T : TypeId} {x : Operand} (ho : o.op = .load T x) (hT : aggB P T = some false) {X off : Nat} {c : Array Value} {T' : TypeId} {z : Nat × Nat} {v : Value}
    (hx : a.eval x = .pointer (some ⟨X, off, none⟩)) (hm : ms[k]? = some (PH.one X (.cells c T' z))) (hv : c.toList[off]? = some v) (h : wpList P ops Q rest (a.put o.dst v) w) : wpList P ops Q (o :: rest) a w :=
  wpList_plain hg fun _ hK => wp_ld1 (hS.mle hm) ho hT hx (by simp only [PH.at, PH.one_self]; rw [← hv]; simp) (hK _ _ h)
theorem ldN (k : Nat) (hS : Sat E I ms w) (hg : o.guard = none) {T : TypeId} {x : Operand} (ho : o.op = .load T x) (hT : aggB P T = some true) {X : Nat} {c : Array Value} {T' : TypeId} {z : Nat × Nat}
    (hx : a.eval x = .pointer (some ⟨X, 0, none⟩)) (hm : ms[k]? = some (PH.one X (.cells c T' z))) (hs : sizeB P T = some c.size) (h : wpList P ops Q rest (a.put o.dst (.agg c)) w) : wpList P ops Q (o :: rest) a w :=
  wpList_plain hg fun _ hK => wp_ldN (hS.mle hm) ho hT hx (Cells.one X c T' z) (by rw [hs]; simp) (hK _ _ h)
/-- A load of what nobody writes. -/
theorem ldI1 (hS : Sat E I ms w) (hg : o.guard = none) {T : TypeId} {x : Operand} (ho : o.op = .load T x) (hT : aggB P T = some false) {X off : Nat} {v : Value}
    (hx : a.eval x = .pointer (some ⟨X, off, none⟩)) (hc : I.at X off = some v) (h : wpList P ops Q rest (a.put o.dst v) w) : wpList P ops Q (o :: rest) a w :=
  wpList_plain hg fun _ hK => wp_ld1 hS.ile ho hT hx hc (hK _ _ h)
theorem ldIN (hS : Sat E I ms w) (hg : o.guard = none) {T : TypeId} {x : Operand} (ho : o.op = .load T x) (hT : aggB P T = some true) {X off : Nat} {vs : List Value}
    (hx : a.eval x = .pointer (some ⟨X, off, none⟩)) (hc : Cells I X off vs) (hs : sizeB P T = some vs.length) (h : wpList P ops Q rest (a.put o.dst (.agg vs.toArray)) w) : wpList P ops Q (o :: rest) a w :=
  wpList_plain hg fun _ hK => wp_ldN hS.ile ho hT hx hc hs (hK _ _ h)
theorem al (hS : Sat E I ms w) (hg : o.guard = none) {T : TypeId} (ho : o.op = .alloc T) {z : Value} (hz : zeroB P T = some z)
    (h : ∀ X w', Sat E I (PH.one X (.cells z.cells T) :: ms) w' → wpList P ops Q rest (a.put o.dst (.pointer (some ⟨X, 0, none⟩))) w') : wpList P ops Q (o :: rest) a w :=
  wpList_plain hg fun _ hK => wp_al hS ho hz fun X w' hS' => hK _ _ (h X w' hS')
theorem bx (hS : Sat E I ms w) (hg : o.guard = none) {T : TypeId} {x : Operand} (ho : o.op = .box T x) {v : Value} (hx : a.eval x = v)
    (h : ∀ X w', Sat E I (PH.one X (.cells v.cells T) :: ms) w' → wpList P ops Q rest (a.put o.dst (.pointer (some ⟨X, 0, none⟩))) w') : wpList P ops Q (o :: rest) a w :=
  wpList_plain hg fun _ hK => wp_bx hS ho hx fun X w' hS' => hK _ _ (h X w' hS')
theorem stN (k : Nat) (hS : Sat E I ms w) (hg : o.guard = none) {T : TypeId} {x y : Operand} (ho : o.op = .store T x y) {X : Nat} {c : Array Value} {T' : TypeId} {v : Value} (hx : a.eval x = .pointer (some ⟨X, 0, none⟩)) (hy : a.eval y = v)
    (hm : ms[k]? = some (PH.one X (.cells c T' (0, 0)))) (hs : sizeB P T = some v.cells.size) (hc : c.size = v.cells.size) (h1 : v.cells.toList.all (·.oneCell') = true)
    (h : ∀ w', Sat E I (ms.set k (PH.one X (.cells v.cells T'))) w' → wpList P ops Q rest (a.put o.dst undef) w') : wpList P ops Q (o :: rest) a w :=
  wpList_plain hg fun _ hK => wp_stN hS k ho hx hy hm hs hc (by rw [← h1]; simp) fun w' hS' => hK _ _ (h w' hS')
theorem st1 (k : Nat) (hS : Sat E I ms w) (hg : o.guard = none) {T : TypeId} {x y : Operand} (ho : o.op = .store T x y) {X off : Nat} {c : Array Value} {T' : TypeId} {v : Value} (hx : a.eval x = .pointer (some ⟨X, off, none⟩)) (hy : a.eval y = v)
    (hm : ms[k]? = some (PH.one X (.cells c T' (0, 0)))) (hs : sizeB P T = some 1) (hv : v.cells = #[v]) (h1 : v.oneCell' = true) (hlt : off < c.size)
    (h : ∀ w', Sat E I (ms.set k (PH.one X (.cells (c.setIfInBounds off v) T'))) w' → wpList P ops Q rest (a.put o.dst undef) w') : wpList P ops Q (o :: rest) a w :=
  wpList_plain hg fun _ hK => wp_st1 hS k ho hx hy hm hs hv h1 hlt fun w' hS' => hK _ _ (h w' hS')
end
theorem atList {P : Program} {o : Oper} {a : Act} {w : World} {Q : Exit → Act → World → Prop} {ops : Array Oper} {rest : List Oper} (h : wpList P ops Q (o :: rest) a w) : wpList P ops Q (o :: rest) a w := h
theorem isLoad {P : Program} {a : Act} {w : World} {Q : Exit → Act → World → Prop} {ops : Array Oper} {rest : List Oper} {dst : Option Tmp} {type : TypeId} {pos : String} {after : Array Edge} {T : TypeId} {x : Operand} (h : wpList P ops Q (⟨dst, .load T x, type, pos, after, none⟩ :: rest) a w) : wpList P ops Q (⟨dst, .load T x, type, pos, after, none⟩ :: rest) a w := h
theorem isStore {P : Program} {a : Act} {w : World} {Q : Exit → Act → World → Prop} {ops : Array Oper} {rest : List Oper} {dst : Option Tmp} {type : TypeId} {pos : String} {after : Array Edge} {T : TypeId} {x y : Operand} (h : wpList P ops Q (⟨dst, .store T x y, type, pos, after, none⟩ :: rest) a w) : wpList P ops Q (⟨dst, .store T x y, type, pos, after, none⟩ :: rest) a w := h
theorem isBox {P : Program} {a : Act} {w : World} {Q : Exit → Act → World → Prop} {ops : Array Oper} {rest : List Oper} {dst : Option Tmp} {type : TypeId} {pos : String} {after : Array Edge} {T : TypeId} {x : Operand} (h : wpList P ops Q (⟨dst, .box T x, type, pos, after, none⟩ :: rest) a w) : wpList P ops Q (⟨dst, .box T x, type, pos, after, none⟩ :: rest) a w := h
theorem isAlloc {P : Program} {a : Act} {w : World} {Q : Exit → Act → World → Prop} {ops : Array Oper} {rest : List Oper} {dst : Option Tmp} {type : TypeId} {pos : String} {after : Array Edge} {T : TypeId} (h : wpList P ops Q (⟨dst, .alloc T, type, pos, after, none⟩ :: rest) a w) : wpList P ops Q (⟨dst, .alloc T, type, pos, after, none⟩ :: rest) a w := h
theorem isGuard {P : Program} {a : Act} {w : World} {Q : Exit → Act → World → Prop} {ops : Array Oper} {rest : List Oper} {dst : Option Tmp} {type : TypeId} {pos : String} {after : Array Edge} {op : Op} {g : Nat × Bool} (h : wpList P ops Q (⟨dst, op, type, pos, after, some g⟩ :: rest) a w) : wpList P ops Q (⟨dst, op, type, pos, after, some g⟩ :: rest) a w := h
theorem isMove {P : Program} {o : Oper} {a : Act} {w : World} {Q : Exit → Act → World → Prop} {ops : Array Oper} {rest : List Oper} {x : Operand} {v : Value} (hg : o.guard = none) (ho : o.op = .move x) (hx : a.eval x = v) (h : wpList P ops Q rest (a.put o.dst v) w) : wpList P ops Q (o :: rest) a w :=
  wpList_plain hg fun _ hK => by
    unfold Oper.wp execOp
    simp only [ho, hx, Sem.run_pure]
    exact hK _ _ h
theorem isAssign {P : Program} {o : Oper} {a : Act} {w : World} {Q : Exit → Act → World → Prop} {ops : Array Oper} {rest : List Oper} {x : Operand} {v : Value} (hg : o.guard = none) (ho : o.op = .assign x) (hx : a.eval x = v) (h : wpList P ops Q rest (a.put o.dst v) w) : wpList P ops Q (o :: rest) a w :=
  wpList_plain hg fun _ hK => by
    unfold Oper.wp execOp
    simp only [ho, hx, Sem.run_pure]
    exact hK _ _ h
section
variable {P : Program} {o : Oper} {a : Act} {w E : World} {Q : Exit → Act → World → Prop} {I : PH} {ms : List PH} {ops : Array Oper} {rest : List Oper}
/-- A load out of what nobody writes, or of some piece. -/
def Src (I : PH) (ms : List PH) (p : PH) : Prop := p.le I ∨ p ∈ ms
theorem Src.le {I J : PH} {ms : List PH} {p : PH} (h : Src I ms p) (hJ : I.le J) : Src J ms p := h.imp (fun h => h.trans hJ) id
theorem Src.of {I : PH} {ms ns : List PH} {p : PH} (h : Src I ms p) (hn : ∀ m ∈ ms, m ∈ ns) : Src I ns p := h.imp id (hn p)
theorem Src.cons {I : PH} {ms : List PH} {p : PH} (h : Src I ms p) (m : PH) : Src I (m :: ms) p := h.imp id (fun h => .tail _ h)
theorem Sat.src (hS : Sat E I ms w) {p : PH} (h : Src I ms p) : p.le (heapOf w) := by
  rcases h with h | h
  · exact h.trans hS.imm
  · exact hS.own p h
theorem ldP1 {p : PH} (hp : Src I ms p) (hS : Sat E I ms w) (hg : o.guard = none) {T : TypeId} {x : Operand} (ho : o.op = .load T x) (hT : aggB P T = some false) {X off : Nat} {v : Value}
    (hx : a.eval x = .pointer (some ⟨X, off, none⟩)) (hc : p.at X off = some v) (h : wpList P ops Q rest (a.put o.dst v) w) : wpList P ops Q (o :: rest) a w :=
  wpList_plain hg fun _ hK => wp_ld1 (hS.src hp) ho hT hx hc (hK _ _ h)
end
theorem guarded_yes {P : Program} {a : Act} {w : World} {Q : Exit → Act → World → Prop} {ops : Array Oper} {rest : List Oper} {dst : Option Tmp} {op : Op} {type : TypeId} {pos : String} {after : Array Edge} {g : Nat × Bool}
    (hw : Region.wanted ⟨dst, op, type, pos, after, some g⟩ (yielded ops a.tmps) = true) (h : wpList P ops Q (⟨dst, op, type, pos, after, none⟩ :: rest) a w) : wpList P ops Q (⟨dst, op, type, pos, after, some g⟩ :: rest) a w := by
  unfold wpList at h ⊢
  rw [if_pos hw]
  rw [if_pos (by rfl)] at h
  exact h
theorem guarded_cases {P : Program} {a : Act} {w : World} {Q : Exit → Act → World → Prop} {ops : Array Oper} {rest : List Oper} {dst : Option Tmp} {op : Op} {type : TypeId} {pos : String} {after : Array Edge} {j : Nat} {want : Bool}
    {b : Bool} (hy : yielded ops a.tmps j = some b) (h1 : b = want → wpList P ops Q (⟨dst, op, type, pos, after, none⟩ :: rest) a w) (h2 : b = !want → wpList P ops Q rest (a.put dst undef) w) : wpList P ops Q (⟨dst, op, type, pos, after, some (j, want)⟩ :: rest) a w := by
  by_cases hb : b = want
  · refine guarded_yes ?_ (h1 hb)
    simp [Region.wanted, hy, hb]
  · have hb' : b = !want := by cases b <;> cases want <;> simp_all
    refine wpList_skip ?_ (h2 hb')
    simp [Region.wanted, hy, hb']
/-- A goal at which a walk stands still. -/
def Held_ (p : Prop) : Prop := p
theorem Held_.in_ {p : Prop} (h : Held_ p) : p := h
theorem Held_.out {p : Prop} (h : p) : Held_ p := h
end Go.Proofs.Ytmgjoggffnogfaa
