/-
  NARROWER THAN 'FOR EVERY INPUT', by the rows' own cells (each row's printed sentence says how): DumpRows: loops · DumpRefuses: loops · DumpLoads: loops.
  DERIVED. THE GIVEN ROWS OF THIS SEAT. 4 by the template 'for every input the law returns true; each argument reads behind the call as it read before'; 0 by the template 'total and deterministic' (their statements: YtidamcdklgfogaaGreatTotals.lean).
  GIVEN WITH THE SEED: the statements are not yours to turn. If you find one false, say at which input.
  Laid BY PROGRAM, IN A SANDBOX (cutbox-rows.mjs): the forced cells as the released guide's own fill.sh prints them over the translation bdbbdd4ff4060cf3… (all of the seat's roots in one cut). By AI agents, Wed Nov 11 2026. No macro, syntax, notation, axiom, sorry.
-/
import Derived.Test.YtidamcdklgfogaaGreatChecked
import GoSem.Claim
import GoSem.ClaimJoined
import GoSem.ClaimMapViews
import Derived.JoinedTies
import Derived.KernelRfl
namespace Go.Proofs.YtidamcdklgfogaaGreat
/- THE CELL 'sum', in the pinned program and in every row, IS THE sha256 OF THE DUMP (.gsa) THAT YtidamcdklgfogaaGreatProg.lean LOADS. Nothing in Lean hashes anything: it is a label: what it is worth is what the hold of that sum in a sandbox is worth. -/
noncomputable def Tryz.pinned : Pinned := { name := "ytidamcdklgfogaagreat", sum := "bdbbdd4ff4060cf3b5350942b078133e81d0b14a36be480991013136fb3f94f7", checked := Tryz.checked }
namespace Rows
def none {H : Type} : Left H := { results := [], args := [] }

/-- 'voussoirlaw26.DumpTells': WHATEVER THE INPUT: true; the input reads as it did. -/
def dumpTellsSpec : ChangeSpec := { name := "dumpTells", fn := fun _ => fun
  | [d1, d2, d3] => { results := [.lit (.bool true)], args := [d1, d2, d3] }
  | _ => none }
def dumpTellsRow : OpenClaim := { program := "ytidamcdklgfogaagreat", sum := "bdbbdd4ff4060cf3b5350942b078133e81d0b14a36be480991013136fb3f94f7", func := "voussoir/voussoirlaw26.DumpTells", spec := "dumpTells", inPlace := ["internal/abi.NoEscape"], unfollowed := true, recurses := true, plainKeys := false, apart := false }
def DumpTellsSaid : Prop := dumpTellsRow.holds Tryz.pinned (OpenSpec.ofChange dumpTellsSpec)

/-- ITS FALSE NEIGHBOUR: 'it returns false'. Refute it at one input. -/
def dumpTellsWrong : ChangeSpec := { name := "dumpTells", fn := fun _ => fun
  | [d1, d2, d3] => { results := [.lit (.bool false)], args := [d1, d2, d3] }
  | _ => none }
def DumpTellsWrongFalsely : Prop := dumpTellsRow.holds Tryz.pinned (OpenSpec.ofChange dumpTellsWrong)

/-- 'voussoirlaw26.DumpRows': WHATEVER THE INPUT: true; the input reads as it did. -/
def dumpRowsSpec : ChangeSpec := { name := "dumpRows", fn := fun _ => fun
  | [d1, d2] => { results := [.lit (.bool true)], args := [d1, d2] }
  | _ => none }
def dumpRowsRow : OpenClaim := { program := "ytidamcdklgfogaagreat", sum := "bdbbdd4ff4060cf3b5350942b078133e81d0b14a36be480991013136fb3f94f7", func := "voussoir/voussoirlaw26.DumpRows", spec := "dumpRows", inPlace := ["internal/abi.NoEscape"], unfollowed := true, recurses := true, loops := true, plainKeys := false, apart := false }
def DumpRowsSaid : Prop := dumpRowsRow.holds Tryz.pinned (OpenSpec.ofChange dumpRowsSpec)

/-- ITS FALSE NEIGHBOUR: 'it returns false'. Refute it at one input. -/
def dumpRowsWrong : ChangeSpec := { name := "dumpRows", fn := fun _ => fun
  | [d1, d2] => { results := [.lit (.bool false)], args := [d1, d2] }
  | _ => none }
def DumpRowsWrongFalsely : Prop := dumpRowsRow.holds Tryz.pinned (OpenSpec.ofChange dumpRowsWrong)

/-- 'voussoirlaw26.DumpRefuses': WHATEVER THE INPUT: true; the input reads as it did. -/
def dumpRefusesSpec : ChangeSpec := { name := "dumpRefuses", fn := fun _ => fun
  | [d1, d2, d3] => { results := [.lit (.bool true)], args := [d1, d2, d3] }
  | _ => none }
def dumpRefusesRow : OpenClaim := { program := "ytidamcdklgfogaagreat", sum := "bdbbdd4ff4060cf3b5350942b078133e81d0b14a36be480991013136fb3f94f7", func := "voussoir/voussoirlaw26.DumpRefuses", spec := "dumpRefuses", inPlace := ["internal/abi.NoEscape"], unfollowed := true, recurses := true, loops := true, plainKeys := false, apart := false }
def DumpRefusesSaid : Prop := dumpRefusesRow.holds Tryz.pinned (OpenSpec.ofChange dumpRefusesSpec)

/-- ITS FALSE NEIGHBOUR: 'it returns false'. Refute it at one input. -/
def dumpRefusesWrong : ChangeSpec := { name := "dumpRefuses", fn := fun _ => fun
  | [d1, d2, d3] => { results := [.lit (.bool false)], args := [d1, d2, d3] }
  | _ => none }
def DumpRefusesWrongFalsely : Prop := dumpRefusesRow.holds Tryz.pinned (OpenSpec.ofChange dumpRefusesWrong)

/-- 'voussoirlaw26.DumpLoads': WHATEVER THE INPUT: true; the input reads as it did. -/
def dumpLoadsSpec : ChangeSpec := { name := "dumpLoads", fn := fun _ => fun
  | [d1, d2, d3] => { results := [.lit (.bool true)], args := [d1, d2, d3] }
  | _ => none }
def dumpLoadsRow : OpenClaim := { program := "ytidamcdklgfogaagreat", sum := "bdbbdd4ff4060cf3b5350942b078133e81d0b14a36be480991013136fb3f94f7", func := "voussoir/voussoirlaw26.DumpLoads", spec := "dumpLoads", inPlace := ["internal/abi.NoEscape"], unfollowed := true, recurses := true, loops := true, plainKeys := false, apart := false }
def DumpLoadsSaid : Prop := dumpLoadsRow.holds Tryz.pinned (OpenSpec.ofChange dumpLoadsSpec)

/-- ITS FALSE NEIGHBOUR: 'it returns false'. Refute it at one input. -/
def dumpLoadsWrong : ChangeSpec := { name := "dumpLoads", fn := fun _ => fun
  | [d1, d2, d3] => { results := [.lit (.bool false)], args := [d1, d2, d3] }
  | _ => none }
def DumpLoadsWrongFalsely : Prop := dumpLoadsRow.holds Tryz.pinned (OpenSpec.ofChange dumpLoadsWrong)

/- THE SECOND FORM. 'bulk': how many values and letters a reading holds, each counted each time it is reached (what is shared counts as often as it is met; a slice's spare places count too). A statement '..UptoSaid' is the law's where the arguments, and the package variables that the reading takes, are together of bulk at most 1048576: NARROWER than '..Said'. Prove '..Said' where nothing that the law and all that it calls make is longer than what came in: it says more and counts as full. Else prove '..UptoSaid'. A law counts once. -/
mutual
def uptoBulk {H : Type} : DataW H → Nat
  | .lit (.string bytes) => bytes.length + 1
  | .lit _ => 1
  | .nil => 1
  | .ptr d => uptoBulk d + 1
  | .slice elems spare => uptoBulkAll elems + uptoBulkAll spare + 1
  | .agg parts => uptoBulkAll parts + 1
  | .iface _ d => uptoBulk d + 1
  | .map entries => uptoBulkEntries entries + 1
  | .held _ => 1
def uptoBulkAll {H : Type} : List (DataW H) → Nat
  | [] => 0
  | d :: r => uptoBulk d + uptoBulkAll r
def uptoBulkEntries {H : Type} : List (Lit × DataW H) → Nat
  | [] => 0
  | x :: r => uptoBulkEntry x + uptoBulkEntries r
def uptoBulkEntry {H : Type} : Lit × DataW H → Nat
  | (.string bytes, d) => bytes.length + uptoBulk d + 1
  | (_, d) => uptoBulk d + 1
 end
def uptoSmall : (H : Type) → List (DataW H) → Bool := fun _ ds => decide (uptoBulkAll ds ≤ 1048576)
def OpenSpec.upto (s : _root_.Go.ChangeSpec) : _root_.Go.OpenSpec := { _root_.Go.OpenSpec.ofChange s with cond := some uptoSmall }

/-- 'voussoirlaw26.DumpTells', WHERE WHAT IT READS IS OF BULK AT MOST 1048576: true; the input reads as it did. -/
def dumpTellsUptoRow : OpenClaim := { program := "ytidamcdklgfogaagreat", sum := "bdbbdd4ff4060cf3b5350942b078133e81d0b14a36be480991013136fb3f94f7", func := "voussoir/voussoirlaw26.DumpTells", spec := "dumpTells", inPlace := ["internal/abi.NoEscape"], unfollowed := true, recurses := true, plainKeys := false, apart := false, narrowed := true }
def DumpTellsUptoSaid : Prop := dumpTellsUptoRow.holds Tryz.pinned (OpenSpec.upto dumpTellsSpec)

/-- 'voussoirlaw26.DumpRows', WHERE WHAT IT READS IS OF BULK AT MOST 1048576: true; the input reads as it did. -/
def dumpRowsUptoRow : OpenClaim := { program := "ytidamcdklgfogaagreat", sum := "bdbbdd4ff4060cf3b5350942b078133e81d0b14a36be480991013136fb3f94f7", func := "voussoir/voussoirlaw26.DumpRows", spec := "dumpRows", inPlace := ["internal/abi.NoEscape"], unfollowed := true, recurses := true, loops := true, plainKeys := false, apart := false, narrowed := true }
def DumpRowsUptoSaid : Prop := dumpRowsUptoRow.holds Tryz.pinned (OpenSpec.upto dumpRowsSpec)

/-- 'voussoirlaw26.DumpRefuses', WHERE WHAT IT READS IS OF BULK AT MOST 1048576: true; the input reads as it did. -/
def dumpRefusesUptoRow : OpenClaim := { program := "ytidamcdklgfogaagreat", sum := "bdbbdd4ff4060cf3b5350942b078133e81d0b14a36be480991013136fb3f94f7", func := "voussoir/voussoirlaw26.DumpRefuses", spec := "dumpRefuses", inPlace := ["internal/abi.NoEscape"], unfollowed := true, recurses := true, loops := true, plainKeys := false, apart := false, narrowed := true }
def DumpRefusesUptoSaid : Prop := dumpRefusesUptoRow.holds Tryz.pinned (OpenSpec.upto dumpRefusesSpec)

/-- 'voussoirlaw26.DumpLoads', WHERE WHAT IT READS IS OF BULK AT MOST 1048576: true; the input reads as it did. -/
def dumpLoadsUptoRow : OpenClaim := { program := "ytidamcdklgfogaagreat", sum := "bdbbdd4ff4060cf3b5350942b078133e81d0b14a36be480991013136fb3f94f7", func := "voussoir/voussoirlaw26.DumpLoads", spec := "dumpLoads", inPlace := ["internal/abi.NoEscape"], unfollowed := true, recurses := true, loops := true, plainKeys := false, apart := false, narrowed := true }
def DumpLoadsUptoSaid : Prop := dumpLoadsUptoRow.holds Tryz.pinned (OpenSpec.upto dumpLoadsSpec)

end Rows
end Go.Proofs.YtidamcdklgfogaaGreat
