import Derived.Test.YtdhkkkhnjooioaaEa
import Derived.Test.YtdhkkkhnjooioaaEc
import Derived.Test.YtdhkkkhnjooioaaTail
namespace Go.Proofs.Ytdhkkkhnjooioaa
set_option linter.unusedSimpArgs false
set_option linter.unusedVariables false
open Go.RowKit
set_option linter.unusedSectionVars false
section
variable {l n : Nat} {P : Program} {o : Oper} {a : Act} {w E : World} {K : Act → World → Prop} {Q Q' : Exit → Act → World → Prop} {I : PH} {ms : List PH} {ops : Array Oper} {rest : List Oper}
theorem inr_op (hg : o.guard = none) (hs : isSelect o.op = false) (h : o.wp P a w (fun a' w' => wpListIn (Fence.wide.inRound l) n P ops Q rest a' w') calm) : wpListIn (Fence.wide.inRound l) n P ops Q (o :: rest) a w :=
  wpListIn_plain hg fun K hK => by
    have h2 : o.wp P a w K calm := by
      unfold Oper.wp at h ⊢
      generalize (execOp a.eval o).run P w = r at h ⊢
      cases r with
      | ok m w' =>
        cases m <;> simp only [Oper.upon] at h ⊢ <;> first
          | exact hK _ _ h
          | exact h
          | (refine Calls.mono h fun e w'' he => ?_
             cases e with
             | returned v => exact hK _ _ he
             | panicked c => exact he
             | outgrown => exact he)
          | (exact Rows.mono h fun v w'' he => hK _ _ he)
      | halt x w' => cases x <;> simp only [Oper.upon] at h ⊢ <;> exact h
    exact Oper.wpIn_of_wp (fun _ => trivial) rfl (fun _ _ _ _ h => callsIn_round h) (fun _ _ _ _ h => rowsIn_round h) hs h2
theorem ratList (h : wpListIn (Fence.wide.inRound l) n P ops Q (o :: rest) a w) : wpListIn (Fence.wide.inRound l) n P ops Q (o :: rest) a w := h
theorem risLoad {dst : Option Tmp} {type : TypeId} {pos : String} {after : Array Edge} {T : TypeId} {x : Operand} (h : Oper.wp P ⟨dst, .load T x, type, pos, after, none⟩ a w (fun a' w' => wpListIn (Fence.wide.inRound l) n P ops Q rest a' w') calm) : wpListIn (Fence.wide.inRound l) n P ops Q (⟨dst, .load T x, type, pos, after, none⟩ :: rest) a w := inr_op rfl rfl h
theorem risStore {dst : Option Tmp} {type : TypeId} {pos : String} {after : Array Edge} {T : TypeId} {x y : Operand} (h : Oper.wp P ⟨dst, .store T x y, type, pos, after, none⟩ a w (fun a' w' => wpListIn (Fence.wide.inRound l) n P ops Q rest a' w') calm) : wpListIn (Fence.wide.inRound l) n P ops Q (⟨dst, .store T x y, type, pos, after, none⟩ :: rest) a w := inr_op rfl rfl h
theorem risBox {dst : Option Tmp} {type : TypeId} {pos : String} {after : Array Edge} {T : TypeId} {x : Operand} (h : Oper.wp P ⟨dst, .box T x, type, pos, after, none⟩ a w (fun a' w' => wpListIn (Fence.wide.inRound l) n P ops Q rest a' w') calm) : wpListIn (Fence.wide.inRound l) n P ops Q (⟨dst, .box T x, type, pos, after, none⟩ :: rest) a w := inr_op rfl rfl h
theorem risAlloc {dst : Option Tmp} {type : TypeId} {pos : String} {after : Array Edge} {T : TypeId} (h : Oper.wp P ⟨dst, .alloc T, type, pos, after, none⟩ a w (fun a' w' => wpListIn (Fence.wide.inRound l) n P ops Q rest a' w') calm) : wpListIn (Fence.wide.inRound l) n P ops Q (⟨dst, .alloc T, type, pos, after, none⟩ :: rest) a w := inr_op rfl rfl h
theorem risBoxD {type : TypeId} {pos : String} {after : Array Edge} {T : TypeId} {x : Operand} (d : Nat) (h : Oper.wp P ⟨some d, .box T x, type, pos, after, none⟩ a w (fun a' w' => wpListIn (Fence.wide.inRound l) n P ops Q rest a' w') calm) : wpListIn (Fence.wide.inRound l) n P ops Q (⟨some d, .box T x, type, pos, after, none⟩ :: rest) a w := inr_op rfl rfl h
theorem risAllocD {type : TypeId} {pos : String} {after : Array Edge} {T : TypeId} (d : Nat) (h : Oper.wp P ⟨some d, .alloc T, type, pos, after, none⟩ a w (fun a' w' => wpListIn (Fence.wide.inRound l) n P ops Q rest a' w') calm) : wpListIn (Fence.wide.inRound l) n P ops Q (⟨some d, .alloc T, type, pos, after, none⟩ :: rest) a w := inr_op rfl rfl h
theorem risBuildSlice {dst : Option Tmp} {type : TypeId} {pos : String} {after : Array Edge} {T : TypeId} {k : Nat} {parts : Array (Nat × Operand)} (h : Oper.wp P ⟨dst, .buildSlice T k parts, type, pos, after, none⟩ a w (fun a' w' => wpListIn (Fence.wide.inRound l) n P ops Q rest a' w') calm) : wpListIn (Fence.wide.inRound l) n P ops Q (⟨dst, .buildSlice T k parts, type, pos, after, none⟩ :: rest) a w := inr_op rfl rfl h
theorem risAppend {dst : Option Tmp} {type : TypeId} {pos : String} {after : Array Edge} {s x : Operand} {t : TypeId} (h : Oper.wp P ⟨dst, .call { callee := .builtin .append, args := #[s, x], argTypes := #[t, t] }, type, pos, after, none⟩ a w (fun a' w' => wpListIn (Fence.wide.inRound l) n P ops Q rest a' w') calm) :
    wpListIn (Fence.wide.inRound l) n P ops Q (⟨dst, .call { callee := .builtin .append, args := #[s, x], argTypes := #[t, t] }, type, pos, after, none⟩ :: rest) a w := inr_op rfl rfl h
theorem wp_k1 (k : Nat) (hS : Sat E I ms w) {T : TypeId} {x : Operand} (ho : o.op = .load T x) (hT : aggB P T = some false) {X off : Nat} {c : Array Value} {T' : TypeId} {z : Nat × Nat} {v : Value}
    (hx : a.eval x = .pointer (some ⟨X, off, none⟩)) (hm : ms[k]? = some (PH.one X (.cells c T' z))) (hv : c.toList[off]? = some v) (h : K (a.put o.dst v) w) : o.wp P a w K Q :=
  wp_ld1 (hS.mle hm) ho hT hx (by simp only [PH.at, PH.one_self]; rw [← hv]; simp) h
theorem wp_kN (k : Nat) (hS : Sat E I ms w) {T : TypeId} {x : Operand} (ho : o.op = .load T x) (hT : aggB P T = some true) {X : Nat} {c : Array Value} {T' : TypeId} {z : Nat × Nat}
    (hx : a.eval x = .pointer (some ⟨X, 0, none⟩)) (hm : ms[k]? = some (PH.one X (.cells c T' z))) (hs : sizeB P T = some c.size) (h : K (a.put o.dst (.agg c)) w) : o.wp P a w K Q :=
  wp_ldN (hS.mle hm) ho hT hx (Cells.one X c T' z) (by rw [hs]; simp) h
theorem wp_i1 (hS : Sat E I ms w) {T : TypeId} {x : Operand} (ho : o.op = .load T x) (hT : aggB P T = some false) {X off : Nat} {v : Value}
    (hx : a.eval x = .pointer (some ⟨X, off, none⟩)) (hc : I.at X off = some v) (h : K (a.put o.dst v) w) : o.wp P a w K Q :=
  wp_ld1 hS.ile ho hT hx hc h
theorem wp_iN (hS : Sat E I ms w) {T : TypeId} {x : Operand} (ho : o.op = .load T x) (hT : aggB P T = some true) {X off : Nat} {vs : List Value}
    (hx : a.eval x = .pointer (some ⟨X, off, none⟩)) (hc : Cells I X off vs) (hs : sizeB P T = some vs.length) (h : K (a.put o.dst (.agg vs.toArray)) w) : o.wp P a w K Q :=
  wp_ldN hS.ile ho hT hx hc hs h
end
end Go.Proofs.Ytdhkkkhnjooioaa
