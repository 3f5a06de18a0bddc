/- A region by its function and number, so that it can be shown by a lemma of its own. -/
import Derived.Test.YtmgjoggffnogfaaSj
namespace Go.Proofs.Ytmgjoggffnogfaa
set_option linter.unusedSimpArgs false
set_option linter.unusedVariables false
def regionIn (id : Nat) : Code → List Oper
  | .region i ops _ => if i == id then ops.toList else []
  | .seq a b => regionIn id a ++ regionIn id b
  | .cond _ a b => regionIn id a ++ regionIn id b
  | .block _ b => regionIn id b
  | .loop b => regionIn id b
  | .scope b => regionIn id b
  | .rangeFunc _ _ a b => regionIn id a ++ regionIn id b
  | _ => []
def opsOf (f : Func) (id : Nat) : List Oper := match f.body with | some c => regionIn id c | none => []
theorem region_as {P : Program} {id : Nat} {ops : Array Oper} {o : Bool} {Q : Exit → Act → World → Prop} {a : Act} {w : World} (l : List Oper) (hl : ops = l.toArray) (h : (Code.region id l.toArray o).wp P Q a w) : (Code.region id ops o).wp P Q a w := by
  subst hl; exact h
theorem loop_as {P : Program} {b c : Code} {Q : Exit → Act → World → Prop} {a : Act} {w : World} (hl : b = c) (h : c.wp P Q a w) : b.wp P Q a w := by
  subst hl; exact h
/-- A goal that is not looked into. -/
structure Veil0 (p : Prop) : Prop where
  mk_ : p
theorem Veil0.out {p : Prop} (h : Veil0 p) : p := h.mk_
end Go.Proofs.Ytmgjoggffnogfaa
