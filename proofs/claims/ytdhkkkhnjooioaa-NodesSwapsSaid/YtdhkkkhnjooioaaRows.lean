/-
  No cell of these rows narrows 'for every input' (looked for: loops, veiled, ifaces, maps, wideKeys, modest, calm, conditions, laid).
  DERIVED. THE GIVEN ROWS OF THIS SEAT. 5 by the template 'for every input the law returns true; each argument reads behind the call as it read before'; 0 by the template 'total and deterministic' (their statements: YtdhkkkhnjooioaaTotals.lean).
  GIVEN WITH THE SEED: the statements are not yours to turn. If you find one false, say at which input.
  Laid BY PROGRAM, IN A SANDBOX (cutbox-rows.mjs): the forced cells as the released guide's own fill.sh prints them over the translation 2223dac4944d33a6… (all of the seat's roots in one cut). By AI agents, Wed Nov 11 2026. No macro, syntax, notation, axiom, sorry.
-/
import Derived.Test.YtdhkkkhnjooioaaChecked
import GoSem.Claim
import GoSem.ClaimJoined
import GoSem.ClaimMapViews
import Derived.JoinedTies
import Derived.KernelRfl
namespace Go.Proofs.Ytdhkkkhnjooioaa
/- THE CELL 'sum', in the pinned program and in every row, IS THE sha256 OF THE DUMP (.gsa) THAT YtdhkkkhnjooioaaProg.lean LOADS. Nothing in Lean hashes anything: it is a label: what it is worth is what the hold of that sum in a sandbox is worth. -/
noncomputable def Try.pinned : Pinned := { name := "ytdhkkkhnjooioaa", sum := "2223dac4944d33a6a589f17ab0ecb0a642862c7fe88e4d74820dbddba9774dc6", checked := Try.checked }
namespace Rows
def none {H : Type} : Left H := { results := [], args := [] }

/-- 'voussoirlaw12.NodesOne': WHATEVER THE INPUT: true; the input reads as it did. -/
def nodesOneSpec : ChangeSpec := { name := "nodesOne", fn := fun _ => fun
  | [d1, d2] => { results := [.lit (.bool true)], args := [d1, d2] }
  | _ => none }
def nodesOneRow : OpenClaim := { program := "ytdhkkkhnjooioaa", sum := "2223dac4944d33a6a589f17ab0ecb0a642862c7fe88e4d74820dbddba9774dc6", func := "voussoir/voussoirlaw12.NodesOne", spec := "nodesOne", unfollowed := true, recurses := true, plainKeys := false, apart := false }
def NodesOneSaid : Prop := nodesOneRow.holds Try.pinned (OpenSpec.ofChange nodesOneSpec)

/-- ITS FALSE NEIGHBOUR: 'it returns false'. Refute it at one input. -/
def nodesOneWrong : ChangeSpec := { name := "nodesOne", fn := fun _ => fun
  | [d1, d2] => { results := [.lit (.bool false)], args := [d1, d2] }
  | _ => none }
def NodesOneWrongFalsely : Prop := nodesOneRow.holds Try.pinned (OpenSpec.ofChange nodesOneWrong)

/-- 'voussoirlaw12.NodesMakes': WHATEVER THE INPUT: true; the input reads as it did. -/
def nodesMakesSpec : ChangeSpec := { name := "nodesMakes", fn := fun _ => fun
  | [d1, d2, d3] => { results := [.lit (.bool true)], args := [d1, d2, d3] }
  | _ => none }
def nodesMakesRow : OpenClaim := { program := "ytdhkkkhnjooioaa", sum := "2223dac4944d33a6a589f17ab0ecb0a642862c7fe88e4d74820dbddba9774dc6", func := "voussoir/voussoirlaw12.NodesMakes", spec := "nodesMakes", unfollowed := true, recurses := true, plainKeys := false, apart := false }
def NodesMakesSaid : Prop := nodesMakesRow.holds Try.pinned (OpenSpec.ofChange nodesMakesSpec)

/-- ITS FALSE NEIGHBOUR: 'it returns false'. Refute it at one input. -/
def nodesMakesWrong : ChangeSpec := { name := "nodesMakes", fn := fun _ => fun
  | [d1, d2, d3] => { results := [.lit (.bool false)], args := [d1, d2, d3] }
  | _ => none }
def NodesMakesWrongFalsely : Prop := nodesMakesRow.holds Try.pinned (OpenSpec.ofChange nodesMakesWrong)

/-- 'voussoirlaw12.NodesSwaps': WHATEVER THE INPUT: true; the input reads as it did. -/
def nodesSwapsSpec : ChangeSpec := { name := "nodesSwaps", fn := fun _ => fun
  | [d1, d2, d3, d4] => { results := [.lit (.bool true)], args := [d1, d2, d3, d4] }
  | _ => none }
def nodesSwapsRow : OpenClaim := { program := "ytdhkkkhnjooioaa", sum := "2223dac4944d33a6a589f17ab0ecb0a642862c7fe88e4d74820dbddba9774dc6", func := "voussoir/voussoirlaw12.NodesSwaps", spec := "nodesSwaps", unfollowed := true, recurses := true, plainKeys := false, apart := false }
def NodesSwapsSaid : Prop := nodesSwapsRow.holds Try.pinned (OpenSpec.ofChange nodesSwapsSpec)

/-- ITS FALSE NEIGHBOUR: 'it returns false'. Refute it at one input. -/
def nodesSwapsWrong : ChangeSpec := { name := "nodesSwaps", fn := fun _ => fun
  | [d1, d2, d3, d4] => { results := [.lit (.bool false)], args := [d1, d2, d3, d4] }
  | _ => none }
def NodesSwapsWrongFalsely : Prop := nodesSwapsRow.holds Try.pinned (OpenSpec.ofChange nodesSwapsWrong)

/-- 'voussoirlaw12.NodesRefuses': WHATEVER THE INPUT: true; the input reads as it did. -/
def nodesRefusesSpec : ChangeSpec := { name := "nodesRefuses", fn := fun _ => fun
  | [d1, d2, d3, d4] => { results := [.lit (.bool true)], args := [d1, d2, d3, d4] }
  | _ => none }
def nodesRefusesRow : OpenClaim := { program := "ytdhkkkhnjooioaa", sum := "2223dac4944d33a6a589f17ab0ecb0a642862c7fe88e4d74820dbddba9774dc6", func := "voussoir/voussoirlaw12.NodesRefuses", spec := "nodesRefuses", unfollowed := true, recurses := true, plainKeys := false, apart := false }
def NodesRefusesSaid : Prop := nodesRefusesRow.holds Try.pinned (OpenSpec.ofChange nodesRefusesSpec)

/-- ITS FALSE NEIGHBOUR: 'it returns false'. Refute it at one input. -/
def nodesRefusesWrong : ChangeSpec := { name := "nodesRefuses", fn := fun _ => fun
  | [d1, d2, d3, d4] => { results := [.lit (.bool false)], args := [d1, d2, d3, d4] }
  | _ => none }
def NodesRefusesWrongFalsely : Prop := nodesRefusesRow.holds Try.pinned (OpenSpec.ofChange nodesRefusesWrong)

/-- 'voussoirlaw12.NodesNobody': WHATEVER THE INPUT: true; the input reads as it did. -/
def nodesNobodySpec : ChangeSpec := { name := "nodesNobody", fn := fun _ => fun
  | [d1, d2, d3] => { results := [.lit (.bool true)], args := [d1, d2, d3] }
  | _ => none }
def nodesNobodyRow : OpenClaim := { program := "ytdhkkkhnjooioaa", sum := "2223dac4944d33a6a589f17ab0ecb0a642862c7fe88e4d74820dbddba9774dc6", func := "voussoir/voussoirlaw12.NodesNobody", spec := "nodesNobody", unfollowed := true, recurses := true, plainKeys := false, apart := false }
def NodesNobodySaid : Prop := nodesNobodyRow.holds Try.pinned (OpenSpec.ofChange nodesNobodySpec)

/-- ITS FALSE NEIGHBOUR: 'it returns false'. Refute it at one input. -/
def nodesNobodyWrong : ChangeSpec := { name := "nodesNobody", fn := fun _ => fun
  | [d1, d2, d3] => { results := [.lit (.bool false)], args := [d1, d2, d3] }
  | _ => none }
def NodesNobodyWrongFalsely : Prop := nodesNobodyRow.holds Try.pinned (OpenSpec.ofChange nodesNobodyWrong)

/- THE SECOND FORM. 'bulk': how many values and letters a reading holds, each counted each time it is reached (what is shared counts as often as it is met; a slice's spare places count too). A statement '..UptoSaid' is the law's where the arguments, and the package variables that the reading takes, are together of bulk at most 1048576: NARROWER than '..Said'. Prove '..Said' where nothing that the law and all that it calls make is longer than what came in: it says more and counts as full. Else prove '..UptoSaid'. A law counts once. -/
mutual
def uptoBulk {H : Type} : DataW H → Nat
  | .lit (.string bytes) => bytes.length + 1
  | .lit _ => 1
  | .nil => 1
  | .ptr d => uptoBulk d + 1
  | .slice elems spare => uptoBulkAll elems + uptoBulkAll spare + 1
  | .agg parts => uptoBulkAll parts + 1
  | .iface _ d => uptoBulk d + 1
  | .map entries => uptoBulkEntries entries + 1
  | .held _ => 1
def uptoBulkAll {H : Type} : List (DataW H) → Nat
  | [] => 0
  | d :: r => uptoBulk d + uptoBulkAll r
def uptoBulkEntries {H : Type} : List (Lit × DataW H) → Nat
  | [] => 0
  | x :: r => uptoBulkEntry x + uptoBulkEntries r
def uptoBulkEntry {H : Type} : Lit × DataW H → Nat
  | (.string bytes, d) => bytes.length + uptoBulk d + 1
  | (_, d) => uptoBulk d + 1
 end
def uptoSmall : (H : Type) → List (DataW H) → Bool := fun _ ds => decide (uptoBulkAll ds ≤ 1048576)
def OpenSpec.upto (s : _root_.Go.ChangeSpec) : _root_.Go.OpenSpec := { _root_.Go.OpenSpec.ofChange s with cond := some uptoSmall }

/-- 'voussoirlaw12.NodesOne', WHERE WHAT IT READS IS OF BULK AT MOST 1048576: true; the input reads as it did. -/
def nodesOneUptoRow : OpenClaim := { program := "ytdhkkkhnjooioaa", sum := "2223dac4944d33a6a589f17ab0ecb0a642862c7fe88e4d74820dbddba9774dc6", func := "voussoir/voussoirlaw12.NodesOne", spec := "nodesOne", unfollowed := true, recurses := true, plainKeys := false, apart := false, narrowed := true }
def NodesOneUptoSaid : Prop := nodesOneUptoRow.holds Try.pinned (OpenSpec.upto nodesOneSpec)

/-- 'voussoirlaw12.NodesMakes', WHERE WHAT IT READS IS OF BULK AT MOST 1048576: true; the input reads as it did. -/
def nodesMakesUptoRow : OpenClaim := { program := "ytdhkkkhnjooioaa", sum := "2223dac4944d33a6a589f17ab0ecb0a642862c7fe88e4d74820dbddba9774dc6", func := "voussoir/voussoirlaw12.NodesMakes", spec := "nodesMakes", unfollowed := true, recurses := true, plainKeys := false, apart := false, narrowed := true }
def NodesMakesUptoSaid : Prop := nodesMakesUptoRow.holds Try.pinned (OpenSpec.upto nodesMakesSpec)

/-- 'voussoirlaw12.NodesSwaps', WHERE WHAT IT READS IS OF BULK AT MOST 1048576: true; the input reads as it did. -/
def nodesSwapsUptoRow : OpenClaim := { program := "ytdhkkkhnjooioaa", sum := "2223dac4944d33a6a589f17ab0ecb0a642862c7fe88e4d74820dbddba9774dc6", func := "voussoir/voussoirlaw12.NodesSwaps", spec := "nodesSwaps", unfollowed := true, recurses := true, plainKeys := false, apart := false, narrowed := true }
def NodesSwapsUptoSaid : Prop := nodesSwapsUptoRow.holds Try.pinned (OpenSpec.upto nodesSwapsSpec)

/-- 'voussoirlaw12.NodesRefuses', WHERE WHAT IT READS IS OF BULK AT MOST 1048576: true; the input reads as it did. -/
def nodesRefusesUptoRow : OpenClaim := { program := "ytdhkkkhnjooioaa", sum := "2223dac4944d33a6a589f17ab0ecb0a642862c7fe88e4d74820dbddba9774dc6", func := "voussoir/voussoirlaw12.NodesRefuses", spec := "nodesRefuses", unfollowed := true, recurses := true, plainKeys := false, apart := false, narrowed := true }
def NodesRefusesUptoSaid : Prop := nodesRefusesUptoRow.holds Try.pinned (OpenSpec.upto nodesRefusesSpec)

/-- 'voussoirlaw12.NodesNobody', WHERE WHAT IT READS IS OF BULK AT MOST 1048576: true; the input reads as it did. -/
def nodesNobodyUptoRow : OpenClaim := { program := "ytdhkkkhnjooioaa", sum := "2223dac4944d33a6a589f17ab0ecb0a642862c7fe88e4d74820dbddba9774dc6", func := "voussoir/voussoirlaw12.NodesNobody", spec := "nodesNobody", unfollowed := true, recurses := true, plainKeys := false, apart := false, narrowed := true }
def NodesNobodyUptoSaid : Prop := nodesNobodyUptoRow.holds Try.pinned (OpenSpec.upto nodesNobodySpec)

end Rows
end Go.Proofs.Ytdhkkkhnjooioaa
