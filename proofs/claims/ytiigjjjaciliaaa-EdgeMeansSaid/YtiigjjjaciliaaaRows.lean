/-
  No cell of these rows narrows 'for every input' (looked for: loops, veiled, ifaces, maps, wideKeys, modest, calm, conditions, laid).
  DERIVED. THE GIVEN ROWS OF THIS SEAT. 5 by the template 'for every input the law returns true; each argument reads behind the call as it read before'; 0 by the template 'total and deterministic' (their statements: YtiigjjjaciliaaaTotals.lean).
  GIVEN WITH THE SEED: the statements are not yours to turn. If you find one false, say at which input.
  Laid BY PROGRAM, IN A SANDBOX (cutbox-rows.mjs): the forced cells as the released guide's own fill.sh prints them over the translation 37a715b88443a2d0… (all of the seat's roots in one cut). By AI agents, Wed Nov 11 2026. No macro, syntax, notation, axiom, sorry.
-/
import Derived.Test.YtiigjjjaciliaaaChecked
import GoSem.Claim
import GoSem.ClaimJoined
import GoSem.ClaimMapViews
import Derived.JoinedTies
import Derived.KernelRfl
namespace Go.Proofs.Ytiigjjjaciliaaa
/- THE CELL 'sum', in the pinned program and in every row, IS THE sha256 OF THE DUMP (.gsa) THAT YtiigjjjaciliaaaProg.lean LOADS. Nothing in Lean hashes anything: it is a label: what it is worth is what the hold of that sum in a sandbox is worth. -/
noncomputable def Try.pinned : Pinned := { name := "ytiigjjjaciliaaa", sum := "37a715b88443a2d066addfeb8515a349b5ef9a2f388c28add12ec8cc4ab46733", checked := Try.checked }
namespace Rows
def none {H : Type} : Left H := { results := [], args := [] }

/-- 'voussoirlaw08.EdgePairs': WHATEVER THE INPUT: true; the input reads as it did. -/
def edgePairsSpec : ChangeSpec := { name := "edgePairs", fn := fun _ => fun
  | [d1, d2] => { results := [.lit (.bool true)], args := [d1, d2] }
  | _ => none }
def edgePairsRow : OpenClaim := { program := "ytiigjjjaciliaaa", sum := "37a715b88443a2d066addfeb8515a349b5ef9a2f388c28add12ec8cc4ab46733", func := "voussoir/voussoirlaw08.EdgePairs", spec := "edgePairs", unfollowed := true, recurses := true, apart := false }
def EdgePairsSaid : Prop := edgePairsRow.holds Try.pinned (OpenSpec.ofChange edgePairsSpec)

/-- ITS FALSE NEIGHBOUR: 'it returns false'. Refute it at one input. -/
def edgePairsWrong : ChangeSpec := { name := "edgePairs", fn := fun _ => fun
  | [d1, d2] => { results := [.lit (.bool false)], args := [d1, d2] }
  | _ => none }
def EdgePairsWrongFalsely : Prop := edgePairsRow.holds Try.pinned (OpenSpec.ofChange edgePairsWrong)

/-- 'voussoirlaw08.EdgeAsks': WHATEVER THE INPUT: true; the input reads as it did. -/
def edgeAsksSpec : ChangeSpec := { name := "edgeAsks", fn := fun _ => fun
  | [d1, d2, d3] => { results := [.lit (.bool true)], args := [d1, d2, d3] }
  | _ => none }
def edgeAsksRow : OpenClaim := { program := "ytiigjjjaciliaaa", sum := "37a715b88443a2d066addfeb8515a349b5ef9a2f388c28add12ec8cc4ab46733", func := "voussoir/voussoirlaw08.EdgeAsks", spec := "edgeAsks", unfollowed := true, recurses := true, apart := false }
def EdgeAsksSaid : Prop := edgeAsksRow.holds Try.pinned (OpenSpec.ofChange edgeAsksSpec)

/-- ITS FALSE NEIGHBOUR: 'it returns false'. Refute it at one input. -/
def edgeAsksWrong : ChangeSpec := { name := "edgeAsks", fn := fun _ => fun
  | [d1, d2, d3] => { results := [.lit (.bool false)], args := [d1, d2, d3] }
  | _ => none }
def EdgeAsksWrongFalsely : Prop := edgeAsksRow.holds Try.pinned (OpenSpec.ofChange edgeAsksWrong)

/-- 'voussoirlaw08.EdgeMeans': WHATEVER THE INPUT: true; the input reads as it did. -/
def edgeMeansSpec : ChangeSpec := { name := "edgeMeans", fn := fun _ => fun
  | [d1, d2] => { results := [.lit (.bool true)], args := [d1, d2] }
  | _ => none }
def edgeMeansRow : OpenClaim := { program := "ytiigjjjaciliaaa", sum := "37a715b88443a2d066addfeb8515a349b5ef9a2f388c28add12ec8cc4ab46733", func := "voussoir/voussoirlaw08.EdgeMeans", spec := "edgeMeans", unfollowed := true, recurses := true, apart := false }
def EdgeMeansSaid : Prop := edgeMeansRow.holds Try.pinned (OpenSpec.ofChange edgeMeansSpec)

/-- ITS FALSE NEIGHBOUR: 'it returns false'. Refute it at one input. -/
def edgeMeansWrong : ChangeSpec := { name := "edgeMeans", fn := fun _ => fun
  | [d1, d2] => { results := [.lit (.bool false)], args := [d1, d2] }
  | _ => none }
def EdgeMeansWrongFalsely : Prop := edgeMeansRow.holds Try.pinned (OpenSpec.ofChange edgeMeansWrong)

/-- 'voussoirlaw08.EdgeIs': WHATEVER THE INPUT: true; the input reads as it did. -/
def edgeIsSpec : ChangeSpec := { name := "edgeIs", fn := fun _ => fun
  | [d1, d2, d3] => { results := [.lit (.bool true)], args := [d1, d2, d3] }
  | _ => none }
def edgeIsRow : OpenClaim := { program := "ytiigjjjaciliaaa", sum := "37a715b88443a2d066addfeb8515a349b5ef9a2f388c28add12ec8cc4ab46733", func := "voussoir/voussoirlaw08.EdgeIs", spec := "edgeIs", unfollowed := true, recurses := true, apart := false }
def EdgeIsSaid : Prop := edgeIsRow.holds Try.pinned (OpenSpec.ofChange edgeIsSpec)

/-- ITS FALSE NEIGHBOUR: 'it returns false'. Refute it at one input. -/
def edgeIsWrong : ChangeSpec := { name := "edgeIs", fn := fun _ => fun
  | [d1, d2, d3] => { results := [.lit (.bool false)], args := [d1, d2, d3] }
  | _ => none }
def EdgeIsWrongFalsely : Prop := edgeIsRow.holds Try.pinned (OpenSpec.ofChange edgeIsWrong)

/-- 'voussoirlaw08.EdgeUntold': WHATEVER THE INPUT: true; the input reads as it did. -/
def edgeUntoldSpec : ChangeSpec := { name := "edgeUntold", fn := fun _ => fun
  | [d1, d2] => { results := [.lit (.bool true)], args := [d1, d2] }
  | _ => none }
def edgeUntoldRow : OpenClaim := { program := "ytiigjjjaciliaaa", sum := "37a715b88443a2d066addfeb8515a349b5ef9a2f388c28add12ec8cc4ab46733", func := "voussoir/voussoirlaw08.EdgeUntold", spec := "edgeUntold", unfollowed := true, recurses := true, apart := false }
def EdgeUntoldSaid : Prop := edgeUntoldRow.holds Try.pinned (OpenSpec.ofChange edgeUntoldSpec)

/-- ITS FALSE NEIGHBOUR: 'it returns false'. Refute it at one input. -/
def edgeUntoldWrong : ChangeSpec := { name := "edgeUntold", fn := fun _ => fun
  | [d1, d2] => { results := [.lit (.bool false)], args := [d1, d2] }
  | _ => none }
def EdgeUntoldWrongFalsely : Prop := edgeUntoldRow.holds Try.pinned (OpenSpec.ofChange edgeUntoldWrong)

/- THE SECOND FORM. 'bulk': how many values and letters a reading holds, each counted each time it is reached (what is shared counts as often as it is met; a slice's spare places count too). A statement '..UptoSaid' is the law's where the arguments, and the package variables that the reading takes, are together of bulk at most 1048576: NARROWER than '..Said'. Prove '..Said' where nothing that the law and all that it calls make is longer than what came in: it says more and counts as full. Else prove '..UptoSaid'. A law counts once. -/
mutual
def uptoBulk {H : Type} : DataW H → Nat
  | .lit (.string bytes) => bytes.length + 1
  | .lit _ => 1
  | .nil => 1
  | .ptr d => uptoBulk d + 1
  | .slice elems spare => uptoBulkAll elems + uptoBulkAll spare + 1
  | .agg parts => uptoBulkAll parts + 1
  | .iface _ d => uptoBulk d + 1
  | .map entries => uptoBulkEntries entries + 1
  | .held _ => 1
def uptoBulkAll {H : Type} : List (DataW H) → Nat
  | [] => 0
  | d :: r => uptoBulk d + uptoBulkAll r
def uptoBulkEntries {H : Type} : List (Lit × DataW H) → Nat
  | [] => 0
  | x :: r => uptoBulkEntry x + uptoBulkEntries r
def uptoBulkEntry {H : Type} : Lit × DataW H → Nat
  | (.string bytes, d) => bytes.length + uptoBulk d + 1
  | (_, d) => uptoBulk d + 1
 end
def uptoSmall : (H : Type) → List (DataW H) → Bool := fun _ ds => decide (uptoBulkAll ds ≤ 1048576)
def OpenSpec.upto (s : _root_.Go.ChangeSpec) : _root_.Go.OpenSpec := { _root_.Go.OpenSpec.ofChange s with cond := some uptoSmall }

/-- 'voussoirlaw08.EdgePairs', WHERE WHAT IT READS IS OF BULK AT MOST 1048576: true; the input reads as it did. -/
def edgePairsUptoRow : OpenClaim := { program := "ytiigjjjaciliaaa", sum := "37a715b88443a2d066addfeb8515a349b5ef9a2f388c28add12ec8cc4ab46733", func := "voussoir/voussoirlaw08.EdgePairs", spec := "edgePairs", unfollowed := true, recurses := true, apart := false, narrowed := true }
def EdgePairsUptoSaid : Prop := edgePairsUptoRow.holds Try.pinned (OpenSpec.upto edgePairsSpec)

/-- 'voussoirlaw08.EdgeAsks', WHERE WHAT IT READS IS OF BULK AT MOST 1048576: true; the input reads as it did. -/
def edgeAsksUptoRow : OpenClaim := { program := "ytiigjjjaciliaaa", sum := "37a715b88443a2d066addfeb8515a349b5ef9a2f388c28add12ec8cc4ab46733", func := "voussoir/voussoirlaw08.EdgeAsks", spec := "edgeAsks", unfollowed := true, recurses := true, apart := false, narrowed := true }
def EdgeAsksUptoSaid : Prop := edgeAsksUptoRow.holds Try.pinned (OpenSpec.upto edgeAsksSpec)

/-- 'voussoirlaw08.EdgeMeans', WHERE WHAT IT READS IS OF BULK AT MOST 1048576: true; the input reads as it did. -/
def edgeMeansUptoRow : OpenClaim := { program := "ytiigjjjaciliaaa", sum := "37a715b88443a2d066addfeb8515a349b5ef9a2f388c28add12ec8cc4ab46733", func := "voussoir/voussoirlaw08.EdgeMeans", spec := "edgeMeans", unfollowed := true, recurses := true, apart := false, narrowed := true }
def EdgeMeansUptoSaid : Prop := edgeMeansUptoRow.holds Try.pinned (OpenSpec.upto edgeMeansSpec)

/-- 'voussoirlaw08.EdgeIs', WHERE WHAT IT READS IS OF BULK AT MOST 1048576: true; the input reads as it did. -/
def edgeIsUptoRow : OpenClaim := { program := "ytiigjjjaciliaaa", sum := "37a715b88443a2d066addfeb8515a349b5ef9a2f388c28add12ec8cc4ab46733", func := "voussoir/voussoirlaw08.EdgeIs", spec := "edgeIs", unfollowed := true, recurses := true, apart := false, narrowed := true }
def EdgeIsUptoSaid : Prop := edgeIsUptoRow.holds Try.pinned (OpenSpec.upto edgeIsSpec)

/-- 'voussoirlaw08.EdgeUntold', WHERE WHAT IT READS IS OF BULK AT MOST 1048576: true; the input reads as it did. -/
def edgeUntoldUptoRow : OpenClaim := { program := "ytiigjjjaciliaaa", sum := "37a715b88443a2d066addfeb8515a349b5ef9a2f388c28add12ec8cc4ab46733", func := "voussoir/voussoirlaw08.EdgeUntold", spec := "edgeUntold", unfollowed := true, recurses := true, apart := false, narrowed := true }
def EdgeUntoldUptoSaid : Prop := edgeUntoldUptoRow.holds Try.pinned (OpenSpec.upto edgeUntoldSpec)

end Rows
end Go.Proofs.Ytiigjjjaciliaaa
