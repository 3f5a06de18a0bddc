/- Loads within a region that draws its order. -/
import Derived.Test.YtmgjoggffnogfaaSb
import Derived.Test.YtmgjoggffnogfaaSe
namespace Go.Proofs.Ytmgjoggffnogfaa
set_option linter.unusedSimpArgs false
set_option linter.unusedVariables false
open Go.RowKit
section
variable {P : Program} {dst : Option Tmp} {type : TypeId} {pos : String} {after : Array Edge} {g : Option (Nat × Bool)} {a : Act} {w E : World} {K : Act → World → Prop} {Q : Exit → Act → World → Prop} {I : PH} {ms : List PH} {T : TypeId} {x : Operand}
theorem atLoad (h : Oper.wp P ⟨dst, .load T x, type, pos, after, g⟩ a w K Q) : Oper.wp P ⟨dst, .load T x, type, pos, after, g⟩ a w K Q := h
theorem wp_ldo1 (hS : Sat E I ms w) {X off : Nat} {c : Array Value} {T' : TypeId} {z : Nat × Nat} {v : Value} (hm : PH.one X (.cells c T' z) ∈ ms) (hT : aggB P T = some false) (hx : a.eval x = .pointer (some ⟨X, off, none⟩)) (hv : c.toList[off]? = some v)
    (h : K (a.put dst v) w) : Oper.wp P ⟨dst, .load T x, type, pos, after, g⟩ a w K Q :=
  wp_ld1 (hS.own _ hm) rfl hT hx (by simp only [PH.at, PH.one_self]; rw [← hv]; simp) h
theorem wp_ldoN (hS : Sat E I ms w) {X : Nat} {c : Array Value} {T' : TypeId} {z : Nat × Nat} (hm : PH.one X (.cells c T' z) ∈ ms) (hT : aggB P T = some true) (hx : a.eval x = .pointer (some ⟨X, 0, none⟩)) (hs : sizeB P T = some c.size)
    (h : K (a.put dst (.agg c)) w) : Oper.wp P ⟨dst, .load T x, type, pos, after, g⟩ a w K Q :=
  wp_ldN (hS.own _ hm) rfl hT hx (Cells.one X c T' z) (by rw [hs]; simp) h
theorem wp_ldi1 {I0 : PH} (hS : Sat E I ms w) (hJ : I0.le I) {X off : Nat} {v : Value} (hT : aggB P T = some false) (hx : a.eval x = .pointer (some ⟨X, off, none⟩)) (hc : I0.at X off = some v)
    (h : K (a.put dst v) w) : Oper.wp P ⟨dst, .load T x, type, pos, after, g⟩ a w K Q := wp_ld1 hS.imm rfl hT hx (PH.at_le hJ hc) h
theorem wp_ldiN {I0 : PH} (hS : Sat E I ms w) (hJ : I0.le I) {X off : Nat} {vs : List Value} (hT : aggB P T = some true) (hx : a.eval x = .pointer (some ⟨X, off, none⟩)) (hc : Cells I0 X off vs) (hs : sizeB P T = some vs.length)
    (h : K (a.put dst (.agg vs.toArray)) w) : Oper.wp P ⟨dst, .load T x, type, pos, after, g⟩ a w K Q := wp_ldN hS.imm rfl hT hx (hc.le hJ) hs h
end
theorem isBoxD {P : Program} {a : Act} {w : World} {Q : Exit → Act → World → Prop} {ops : Array Oper} {rest : List Oper} {type : TypeId} {pos : String} {after : Array Edge} (d : Nat) {T : TypeId} {x : Operand} (h : wpList P ops Q (⟨some d, .box T x, type, pos, after, none⟩ :: rest) a w) : wpList P ops Q (⟨some d, .box T x, type, pos, after, none⟩ :: rest) a w := h
theorem isAllocD {P : Program} {a : Act} {w : World} {Q : Exit → Act → World → Prop} {ops : Array Oper} {rest : List Oper} {type : TypeId} {pos : String} {after : Array Edge} (d : Nat) {T : TypeId} (h : wpList P ops Q (⟨some d, .alloc T, type, pos, after, none⟩ :: rest) a w) : wpList P ops Q (⟨some d, .alloc T, type, pos, after, none⟩ :: rest) a w := h
theorem isBuildSlice {P : Program} {a : Act} {w : World} {Q : Exit → Act → World → Prop} {ops : Array Oper} {rest : List Oper} {dst : Option Tmp} {type : TypeId} {pos : String} {after : Array Edge} {T : TypeId} {n : Nat} {parts : Array (Nat × Operand)}
    (h : wpList P ops Q (⟨dst, .buildSlice T n parts, type, pos, after, none⟩ :: rest) a w) : wpList P ops Q (⟨dst, .buildSlice T n parts, type, pos, after, none⟩ :: rest) a w := h
/-- A slice literal: its block is a new piece. -/
theorem bsl {P : Program} {a : Act} {w E : World} {Q : Exit → Act → World → Prop} {I : PH} {ms : List PH} {ops : Array Oper} {rest : List Oper} {dst : Option Tmp} {type : TypeId} {pos : String} {after : Array Edge} {T : TypeId} {n : Nat} {parts : Array (Nat × Operand)}
    (hS : Sat E I ms w) {cs : Array Value} {e : TypeId} (hr : ∀ w : World, (Instr.buildSlice T n (parts.map fun (i, x) => (i, a.eval x))).run P w = .ok (.slice (some ⟨w.heap.size, 0, none⟩) n n) (w.alloc (.cells cs e)))
    (h : ∀ X w', Sat E I (PH.one X (.cells cs e) :: ms) w' → wpList P ops Q rest (a.put dst (.slice (some ⟨X, 0, none⟩) n n)) w') : wpList P ops Q (⟨dst, .buildSlice T n parts, type, pos, after, none⟩ :: rest) a w :=
  wpList_plain rfl fun _ hK => by
    unfold Oper.wp execOp
    simp only [Sem.run_bind, hr, Result.andThen_ok, Sem.run_pure]
    exact hK _ _ (h _ _ (hS.alloc _))
theorem agg_desc {P : Program} {T : TypeId} (h : aggB P T = some true) : ∃ d, P.underlying T = some d ∧ (match d with | .struct _ | .array _ _ => true | _ => false) = true := by
  unfold aggB at h
  cases hd : P.underlying T with
  | none => rw [hd] at h; cases h
  | some d =>
    rw [hd] at h
    simp only [Option.map_some, Option.some.injEq] at h
    exact ⟨d, rfl, h⟩
/-- The result is a variable of the call's own. -/
theorem ret_cellN {P : Program} {fn : Func} {p : Tmp} {T : TypeId} {tmps : Array Value} {w E : World} {I : PH} {ms : List PH} (k : Nat) (hS : Sat E I ms w) (h : fn.results = #[.cell p T]) {X : Nat} {c : Array Value} {T' : TypeId} {z : Nat × Nat}
    (hp : tmps.getD p undef = .pointer (some ⟨X, 0, none⟩)) (hm : ms[k]? = some (PH.one X (.cells c T' z))) (ha : aggB P T = some true) (hs : sizeB P T = some c.size) : (results fn tmps).run P w = .ok (.agg c) w := by
  obtain ⟨d, hd, hd'⟩ := agg_desc ha
  exact results_cell_row h tmps w X T' c z d hp (hS.own _ (List.mem_of_getElem? hm) X _ (PH.one_self _ _)) hd (by cases d <;> first | rfl | (exact absurd hd' (by simp))) (sizeB_eq hs)
theorem Sat.sub {E w : World} {I : PH} {ms ns : List PH} (h : Sat E I ms w) (hs : ns.Sublist ms) : Sat E I ns w :=
  ⟨h.os, h.tape, h.output, h.imm, fun n hn => h.own n (hs.subset hn), fun n hn => h.sep n (hs.subset hn), h.dis.sublist hs, h.size⟩
theorem atStore {P : Program} {dst : Option Tmp} {type : TypeId} {pos : String} {after : Array Edge} {g : Option (Nat × Bool)} {a : Act} {w : World} {K : Act → World → Prop} {Q : Exit → Act → World → Prop} {T : TypeId} {x y : Operand}
    (h : Oper.wp P ⟨dst, .store T x y, type, pos, after, g⟩ a w K Q) : Oper.wp P ⟨dst, .store T x y, type, pos, after, g⟩ a w K Q := h
/-- Two results, each a variable of the call's own, of one cell. -/
theorem ret_cell11 {P : Program} {fn : Func} {p q : Tmp} {T U : TypeId} {tmps : Array Value} {w E : World} {I : PH} {ms : List PH} (k l : Nat) (hS : Sat E I ms w) (h : fn.results = #[.cell p T, .cell q U]) {X Y : Nat} {c d : Array Value} {T' U' : TypeId} {z y : Nat × Nat} {u v : Value}
    (hp : tmps.getD p undef = .pointer (some ⟨X, 0, none⟩)) (hq : tmps.getD q undef = .pointer (some ⟨Y, 0, none⟩)) (hm : ms[k]? = some (PH.one X (.cells c T' z))) (hn : ms[l]? = some (PH.one Y (.cells d U' y)))
    (ha : aggB P T = some false) (hb : aggB P U = some false) (hu : c.toList[0]? = some u) (hv : d.toList[0]? = some v) : (results fn tmps).run P w = .ok (.tuple #[u, v]) w := by
  have h1 := run_load1 (P := P) (hS.mle hm) ha (X := X) (off := 0) (v := u) (by simp only [PH.at, PH.one_self]; rw [← hu]; simp)
  have h2 := run_load1 (P := P) (hS.mle hn) hb (X := Y) (off := 0) (v := v) (by simp only [PH.at, PH.one_self]; rw [← hv]; simp)
  simp only [Instr.loadAt, Instr.sureAddr, Sem.run_bind, Sem.run_pure, Result.andThen_ok] at h1 h2
  rw [Array.getD_eq_getD_getElem?] at hp hq
  simp [results, h, hp, hq, asAddr, h1, h2]
end Go.Proofs.Ytmgjoggffnogfaa
