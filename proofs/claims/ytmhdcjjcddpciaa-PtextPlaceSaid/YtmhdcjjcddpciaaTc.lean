/- ptext: the grammar as a plain function on bytes. -/
import Derived.Test.YtmhdcjjcddpciaaTb
namespace Go.Proofs.Ytmhdcjjcddpciaa
set_option linter.unusedSimpArgs false
set_option linter.unusedVariables false
open Go.RowKit
/-- A tree without addresses. -/
inductive PT where
  | mk (op var : Int) (kids : List PT)
mutual
def Tr.pure : Tr → PT
  | .mk op var _ _ ks => .mk op var (Tr.pures ks)
def Tr.pures : List Tr → List PT
  | [] => []
  | k :: ks => k.pure :: Tr.pures ks
end
theorem pures_append (a b : List Tr) : Tr.pures (a ++ b) = Tr.pures a ++ Tr.pures b := by
  induction a with
  | nil => rfl
  | cons k ks ih => simp [Tr.pures, ih]
/-- The operator of a sign, 0 where there is none. -/
def signOp (o : Option Nat) : Int := match o with
  | some 33 => 4 | some 38 => 5 | some 124 => 6 | some 94 => 7 | some 62 => 8 | some 61 => 9 | some 63 => 10 | _ => 0
/-- What is read at an offset: a tree and the offset behind it, or none and the offset of the error. -/
structure Rd where
  t : Option PT
  at_ : Nat
def kwRd (r : Nat × Bool) (op : Int) : Rd := ⟨if r.2 then some (.mk op 0 []) else none, r.1⟩
mutual
def pex (l : List Nat) : Nat → Nat → Rd
  | 0, a => ⟨none, a⟩
  | k + 1, a =>
    if l[a]? = some 116 then kwRd (sword l a [116, 114, 117, 101]) 1
    else if l[a]? = some 102 then kwRd (sword l a [102, 97, 108, 115, 101]) 2
    else if l[a]? = some 118 then ⟨if a + 1 < nameEnd l (a + 1) then some (.mk 3 (nameVal l (a + 1) (nameEnd l (a + 1))) []) else none, nameEnd l (a + 1)⟩
    else if l[a]? = some 40 then (if signOp l[a + 1]? = 0 then ⟨none, a + 1⟩ else pks l k (signOp l[a + 1]?) (a + 2) [])
    else ⟨none, a⟩
def pks (l : List Nat) : Nat → Int → Nat → List PT → Rd
  | 0, _, a, _ => ⟨none, a⟩
  | k + 1, op, a, ts =>
    if l[a]? = some 32 then
      match pex l k (a + 1) with
      | ⟨some t, b⟩ => pks l k op b (ts ++ [t])
      | ⟨none, b⟩ => ⟨none, b⟩
    else if l[a]? = some 41 then ⟨some (.mk op 0 ts), a + 1⟩ else ⟨none, a⟩
end
end Go.Proofs.Ytmhdcjjcddpciaa
