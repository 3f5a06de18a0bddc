/-
  NARROWER THAN 'FOR EVERY INPUT', by the rows' own cells (each row's printed sentence says how): PropMakes: loops · PropFollows: loops · PropChecks: loops.
  DERIVED. THE GIVEN ROWS OF THIS SEAT. 9 by the template 'for every input the law returns true; each argument reads behind the call as it read before'; 0 by the template 'total and deterministic' (their statements: YtaeifbkimagpdaaTotals.lean).
  GIVEN WITH THE SEED: the statements are not yours to turn. If you find one false, say at which input.
  Laid BY PROGRAM, IN A SANDBOX (cutbox-rows.mjs): the forced cells as the released guide's own fill.sh prints them over the translation 4defb02f8e992291… (all of the seat's roots in one cut). By AI agents, Wed Nov 11 2026. No macro, syntax, notation, axiom, sorry.
-/
import Derived.Test.YtaeifbkimagpdaaChecked
import GoSem.Claim
import GoSem.ClaimJoined
import GoSem.ClaimMapViews
import Derived.JoinedTies
import Derived.KernelRfl
namespace Go.Proofs.Ytaeifbkimagpdaa
/- THE CELL 'sum', in the pinned program and in every row, IS THE sha256 OF THE DUMP (.gsa) THAT YtaeifbkimagpdaaProg.lean LOADS. Nothing in Lean hashes anything: it is a label: what it is worth is what the hold of that sum in a sandbox is worth. -/
noncomputable def Try.pinned : Pinned := { name := "ytaeifbkimagpdaa", sum := "4defb02f8e9922911026c5790b853d1f2f24d8ea658b115ece8057cddb22a171", checked := Try.checked }
namespace Rows
def none {H : Type} : Left H := { results := [], args := [] }

/-- 'voussoirlaw02.BitsTells': WHATEVER THE INPUT: true; the input reads as it did. -/
def bitsTellsSpec : ChangeSpec := { name := "bitsTells", fn := fun _ => fun
  | [d1, d2, d3] => { results := [.lit (.bool true)], args := [d1, d2, d3] }
  | _ => none }
def bitsTellsRow : OpenClaim := { program := "ytaeifbkimagpdaa", sum := "4defb02f8e9922911026c5790b853d1f2f24d8ea658b115ece8057cddb22a171", func := "voussoir/voussoirlaw02.BitsTells", spec := "bitsTells", unfollowed := true, recurses := true, apart := false }
def BitsTellsSaid : Prop := bitsTellsRow.holds Try.pinned (OpenSpec.ofChange bitsTellsSpec)

/-- ITS FALSE NEIGHBOUR: 'it returns false'. Refute it at one input. -/
def bitsTellsWrong : ChangeSpec := { name := "bitsTells", fn := fun _ => fun
  | [d1, d2, d3] => { results := [.lit (.bool false)], args := [d1, d2, d3] }
  | _ => none }
def BitsTellsWrongFalsely : Prop := bitsTellsRow.holds Try.pinned (OpenSpec.ofChange bitsTellsWrong)

/-- 'voussoirlaw02.BitsOrders': WHATEVER THE INPUT: true; the input reads as it did. -/
def bitsOrdersSpec : ChangeSpec := { name := "bitsOrders", fn := fun _ => fun
  | [d1, d2] => { results := [.lit (.bool true)], args := [d1, d2] }
  | _ => none }
def bitsOrdersRow : OpenClaim := { program := "ytaeifbkimagpdaa", sum := "4defb02f8e9922911026c5790b853d1f2f24d8ea658b115ece8057cddb22a171", func := "voussoir/voussoirlaw02.BitsOrders", spec := "bitsOrders", unfollowed := true, recurses := true, apart := false }
def BitsOrdersSaid : Prop := bitsOrdersRow.holds Try.pinned (OpenSpec.ofChange bitsOrdersSpec)

/-- ITS FALSE NEIGHBOUR: 'it returns false'. Refute it at one input. -/
def bitsOrdersWrong : ChangeSpec := { name := "bitsOrders", fn := fun _ => fun
  | [d1, d2] => { results := [.lit (.bool false)], args := [d1, d2] }
  | _ => none }
def BitsOrdersWrongFalsely : Prop := bitsOrdersRow.holds Try.pinned (OpenSpec.ofChange bitsOrdersWrong)

/-- 'voussoirlaw02.BitsReads': WHATEVER THE INPUT: true; the input reads as it did. -/
def bitsReadsSpec : ChangeSpec := { name := "bitsReads", fn := fun _ => fun
  | [d] => { results := [.lit (.bool true)], args := [d] }
  | _ => none }
def bitsReadsRow : OpenClaim := { program := "ytaeifbkimagpdaa", sum := "4defb02f8e9922911026c5790b853d1f2f24d8ea658b115ece8057cddb22a171", func := "voussoir/voussoirlaw02.BitsReads", spec := "bitsReads", unfollowed := true, recurses := true, apart := false }
def BitsReadsSaid : Prop := bitsReadsRow.holds Try.pinned (OpenSpec.ofChange bitsReadsSpec)

/-- ITS FALSE NEIGHBOUR: 'it returns false'. Refute it at one input. -/
def bitsReadsWrong : ChangeSpec := { name := "bitsReads", fn := fun _ => fun
  | [d] => { results := [.lit (.bool false)], args := [d] }
  | _ => none }
def BitsReadsWrongFalsely : Prop := bitsReadsRow.holds Try.pinned (OpenSpec.ofChange bitsReadsWrong)

/-- 'voussoirlaw02.BitsAll': WHATEVER THE INPUT: true; the input reads as it did. -/
def bitsAllSpec : ChangeSpec := { name := "bitsAll", fn := fun _ => fun
  | [d1, d2] => { results := [.lit (.bool true)], args := [d1, d2] }
  | _ => none }
def bitsAllRow : OpenClaim := { program := "ytaeifbkimagpdaa", sum := "4defb02f8e9922911026c5790b853d1f2f24d8ea658b115ece8057cddb22a171", func := "voussoir/voussoirlaw02.BitsAll", spec := "bitsAll", unfollowed := true, recurses := true, apart := false }
def BitsAllSaid : Prop := bitsAllRow.holds Try.pinned (OpenSpec.ofChange bitsAllSpec)

/-- ITS FALSE NEIGHBOUR: 'it returns false'. Refute it at one input. -/
def bitsAllWrong : ChangeSpec := { name := "bitsAll", fn := fun _ => fun
  | [d1, d2] => { results := [.lit (.bool false)], args := [d1, d2] }
  | _ => none }
def BitsAllWrongFalsely : Prop := bitsAllRow.holds Try.pinned (OpenSpec.ofChange bitsAllWrong)

/-- 'voussoirlaw02.BitsRound': WHATEVER THE INPUT: true; the input reads as it did. -/
def bitsRoundSpec : ChangeSpec := { name := "bitsRound", fn := fun _ => fun
  | [d1, d2] => { results := [.lit (.bool true)], args := [d1, d2] }
  | _ => none }
def bitsRoundRow : OpenClaim := { program := "ytaeifbkimagpdaa", sum := "4defb02f8e9922911026c5790b853d1f2f24d8ea658b115ece8057cddb22a171", func := "voussoir/voussoirlaw02.BitsRound", spec := "bitsRound", unfollowed := true, recurses := true, apart := false }
def BitsRoundSaid : Prop := bitsRoundRow.holds Try.pinned (OpenSpec.ofChange bitsRoundSpec)

/-- ITS FALSE NEIGHBOUR: 'it returns false'. Refute it at one input. -/
def bitsRoundWrong : ChangeSpec := { name := "bitsRound", fn := fun _ => fun
  | [d1, d2] => { results := [.lit (.bool false)], args := [d1, d2] }
  | _ => none }
def BitsRoundWrongFalsely : Prop := bitsRoundRow.holds Try.pinned (OpenSpec.ofChange bitsRoundWrong)

/-- 'voussoirlaw06.PropBounds': WHATEVER THE INPUT: true; the input reads as it did. -/
def propBoundsSpec : ChangeSpec := { name := "propBounds", fn := fun _ => fun
  | [d1, d2, d3] => { results := [.lit (.bool true)], args := [d1, d2, d3] }
  | _ => none }
def propBoundsRow : OpenClaim := { program := "ytaeifbkimagpdaa", sum := "4defb02f8e9922911026c5790b853d1f2f24d8ea658b115ece8057cddb22a171", func := "voussoir/voussoirlaw06.PropBounds", spec := "propBounds", unfollowed := true, recurses := true, apart := false }
def PropBoundsSaid : Prop := propBoundsRow.holds Try.pinned (OpenSpec.ofChange propBoundsSpec)

/-- ITS FALSE NEIGHBOUR: 'it returns false'. Refute it at one input. -/
def propBoundsWrong : ChangeSpec := { name := "propBounds", fn := fun _ => fun
  | [d1, d2, d3] => { results := [.lit (.bool false)], args := [d1, d2, d3] }
  | _ => none }
def PropBoundsWrongFalsely : Prop := propBoundsRow.holds Try.pinned (OpenSpec.ofChange propBoundsWrong)

/-- 'voussoirlaw06.PropMakes': WHATEVER THE INPUT: true; the input reads as it did. -/
def propMakesSpec : ChangeSpec := { name := "propMakes", fn := fun _ => fun
  | [d1, d2, d3] => { results := [.lit (.bool true)], args := [d1, d2, d3] }
  | _ => none }
def propMakesRow : OpenClaim := { program := "ytaeifbkimagpdaa", sum := "4defb02f8e9922911026c5790b853d1f2f24d8ea658b115ece8057cddb22a171", func := "voussoir/voussoirlaw06.PropMakes", spec := "propMakes", unfollowed := true, recurses := true, loops := true, apart := false }
def PropMakesSaid : Prop := propMakesRow.holds Try.pinned (OpenSpec.ofChange propMakesSpec)

/-- ITS FALSE NEIGHBOUR: 'it returns false'. Refute it at one input. -/
def propMakesWrong : ChangeSpec := { name := "propMakes", fn := fun _ => fun
  | [d1, d2, d3] => { results := [.lit (.bool false)], args := [d1, d2, d3] }
  | _ => none }
def PropMakesWrongFalsely : Prop := propMakesRow.holds Try.pinned (OpenSpec.ofChange propMakesWrong)

/-- 'voussoirlaw06.PropFollows': WHATEVER THE INPUT: true; the input reads as it did. -/
def propFollowsSpec : ChangeSpec := { name := "propFollows", fn := fun _ => fun
  | [d1, d2, d3, d4] => { results := [.lit (.bool true)], args := [d1, d2, d3, d4] }
  | _ => none }
def propFollowsRow : OpenClaim := { program := "ytaeifbkimagpdaa", sum := "4defb02f8e9922911026c5790b853d1f2f24d8ea658b115ece8057cddb22a171", func := "voussoir/voussoirlaw06.PropFollows", spec := "propFollows", unfollowed := true, recurses := true, loops := true, apart := false }
def PropFollowsSaid : Prop := propFollowsRow.holds Try.pinned (OpenSpec.ofChange propFollowsSpec)

/-- ITS FALSE NEIGHBOUR: 'it returns false'. Refute it at one input. -/
def propFollowsWrong : ChangeSpec := { name := "propFollows", fn := fun _ => fun
  | [d1, d2, d3, d4] => { results := [.lit (.bool false)], args := [d1, d2, d3, d4] }
  | _ => none }
def PropFollowsWrongFalsely : Prop := propFollowsRow.holds Try.pinned (OpenSpec.ofChange propFollowsWrong)

/-- 'voussoirlaw06.PropChecks': WHATEVER THE INPUT: true; the input reads as it did. -/
def propChecksSpec : ChangeSpec := { name := "propChecks", fn := fun _ => fun
  | [d] => { results := [.lit (.bool true)], args := [d] }
  | _ => none }
def propChecksRow : OpenClaim := { program := "ytaeifbkimagpdaa", sum := "4defb02f8e9922911026c5790b853d1f2f24d8ea658b115ece8057cddb22a171", func := "voussoir/voussoirlaw06.PropChecks", spec := "propChecks", unfollowed := true, recurses := true, loops := true, apart := false }
def PropChecksSaid : Prop := propChecksRow.holds Try.pinned (OpenSpec.ofChange propChecksSpec)

/-- ITS FALSE NEIGHBOUR: 'it returns false'. Refute it at one input. -/
def propChecksWrong : ChangeSpec := { name := "propChecks", fn := fun _ => fun
  | [d] => { results := [.lit (.bool false)], args := [d] }
  | _ => none }
def PropChecksWrongFalsely : Prop := propChecksRow.holds Try.pinned (OpenSpec.ofChange propChecksWrong)

/- THE SECOND FORM. 'bulk': how many values and letters a reading holds, each counted each time it is reached (what is shared counts as often as it is met; a slice's spare places count too). A statement '..UptoSaid' is the law's where the arguments, and the package variables that the reading takes, are together of bulk at most 1048576: NARROWER than '..Said'. Prove '..Said' where nothing that the law and all that it calls make is longer than what came in: it says more and counts as full. Else prove '..UptoSaid'. A law counts once. -/
mutual
def uptoBulk {H : Type} : DataW H → Nat
  | .lit (.string bytes) => bytes.length + 1
  | .lit _ => 1
  | .nil => 1
  | .ptr d => uptoBulk d + 1
  | .slice elems spare => uptoBulkAll elems + uptoBulkAll spare + 1
  | .agg parts => uptoBulkAll parts + 1
  | .iface _ d => uptoBulk d + 1
  | .map entries => uptoBulkEntries entries + 1
  | .held _ => 1
def uptoBulkAll {H : Type} : List (DataW H) → Nat
  | [] => 0
  | d :: r => uptoBulk d + uptoBulkAll r
def uptoBulkEntries {H : Type} : List (Lit × DataW H) → Nat
  | [] => 0
  | x :: r => uptoBulkEntry x + uptoBulkEntries r
def uptoBulkEntry {H : Type} : Lit × DataW H → Nat
  | (.string bytes, d) => bytes.length + uptoBulk d + 1
  | (_, d) => uptoBulk d + 1
 end
def uptoSmall : (H : Type) → List (DataW H) → Bool := fun _ ds => decide (uptoBulkAll ds ≤ 1048576)
def OpenSpec.upto (s : _root_.Go.ChangeSpec) : _root_.Go.OpenSpec := { _root_.Go.OpenSpec.ofChange s with cond := some uptoSmall }

/-- 'voussoirlaw02.BitsTells', WHERE WHAT IT READS IS OF BULK AT MOST 1048576: true; the input reads as it did. -/
def bitsTellsUptoRow : OpenClaim := { program := "ytaeifbkimagpdaa", sum := "4defb02f8e9922911026c5790b853d1f2f24d8ea658b115ece8057cddb22a171", func := "voussoir/voussoirlaw02.BitsTells", spec := "bitsTells", unfollowed := true, recurses := true, apart := false, narrowed := true }
def BitsTellsUptoSaid : Prop := bitsTellsUptoRow.holds Try.pinned (OpenSpec.upto bitsTellsSpec)

/-- 'voussoirlaw02.BitsOrders', WHERE WHAT IT READS IS OF BULK AT MOST 1048576: true; the input reads as it did. -/
def bitsOrdersUptoRow : OpenClaim := { program := "ytaeifbkimagpdaa", sum := "4defb02f8e9922911026c5790b853d1f2f24d8ea658b115ece8057cddb22a171", func := "voussoir/voussoirlaw02.BitsOrders", spec := "bitsOrders", unfollowed := true, recurses := true, apart := false, narrowed := true }
def BitsOrdersUptoSaid : Prop := bitsOrdersUptoRow.holds Try.pinned (OpenSpec.upto bitsOrdersSpec)

/-- 'voussoirlaw02.BitsReads', WHERE WHAT IT READS IS OF BULK AT MOST 1048576: true; the input reads as it did. -/
def bitsReadsUptoRow : OpenClaim := { program := "ytaeifbkimagpdaa", sum := "4defb02f8e9922911026c5790b853d1f2f24d8ea658b115ece8057cddb22a171", func := "voussoir/voussoirlaw02.BitsReads", spec := "bitsReads", unfollowed := true, recurses := true, apart := false, narrowed := true }
def BitsReadsUptoSaid : Prop := bitsReadsUptoRow.holds Try.pinned (OpenSpec.upto bitsReadsSpec)

/-- 'voussoirlaw02.BitsAll', WHERE WHAT IT READS IS OF BULK AT MOST 1048576: true; the input reads as it did. -/
def bitsAllUptoRow : OpenClaim := { program := "ytaeifbkimagpdaa", sum := "4defb02f8e9922911026c5790b853d1f2f24d8ea658b115ece8057cddb22a171", func := "voussoir/voussoirlaw02.BitsAll", spec := "bitsAll", unfollowed := true, recurses := true, apart := false, narrowed := true }
def BitsAllUptoSaid : Prop := bitsAllUptoRow.holds Try.pinned (OpenSpec.upto bitsAllSpec)

/-- 'voussoirlaw02.BitsRound', WHERE WHAT IT READS IS OF BULK AT MOST 1048576: true; the input reads as it did. -/
def bitsRoundUptoRow : OpenClaim := { program := "ytaeifbkimagpdaa", sum := "4defb02f8e9922911026c5790b853d1f2f24d8ea658b115ece8057cddb22a171", func := "voussoir/voussoirlaw02.BitsRound", spec := "bitsRound", unfollowed := true, recurses := true, apart := false, narrowed := true }
def BitsRoundUptoSaid : Prop := bitsRoundUptoRow.holds Try.pinned (OpenSpec.upto bitsRoundSpec)

/-- 'voussoirlaw06.PropBounds', WHERE WHAT IT READS IS OF BULK AT MOST 1048576: true; the input reads as it did. -/
def propBoundsUptoRow : OpenClaim := { program := "ytaeifbkimagpdaa", sum := "4defb02f8e9922911026c5790b853d1f2f24d8ea658b115ece8057cddb22a171", func := "voussoir/voussoirlaw06.PropBounds", spec := "propBounds", unfollowed := true, recurses := true, apart := false, narrowed := true }
def PropBoundsUptoSaid : Prop := propBoundsUptoRow.holds Try.pinned (OpenSpec.upto propBoundsSpec)

/-- 'voussoirlaw06.PropMakes', WHERE WHAT IT READS IS OF BULK AT MOST 1048576: true; the input reads as it did. -/
def propMakesUptoRow : OpenClaim := { program := "ytaeifbkimagpdaa", sum := "4defb02f8e9922911026c5790b853d1f2f24d8ea658b115ece8057cddb22a171", func := "voussoir/voussoirlaw06.PropMakes", spec := "propMakes", unfollowed := true, recurses := true, loops := true, apart := false, narrowed := true }
def PropMakesUptoSaid : Prop := propMakesUptoRow.holds Try.pinned (OpenSpec.upto propMakesSpec)

/-- 'voussoirlaw06.PropFollows', WHERE WHAT IT READS IS OF BULK AT MOST 1048576: true; the input reads as it did. -/
def propFollowsUptoRow : OpenClaim := { program := "ytaeifbkimagpdaa", sum := "4defb02f8e9922911026c5790b853d1f2f24d8ea658b115ece8057cddb22a171", func := "voussoir/voussoirlaw06.PropFollows", spec := "propFollows", unfollowed := true, recurses := true, loops := true, apart := false, narrowed := true }
def PropFollowsUptoSaid : Prop := propFollowsUptoRow.holds Try.pinned (OpenSpec.upto propFollowsSpec)

/-- 'voussoirlaw06.PropChecks', WHERE WHAT IT READS IS OF BULK AT MOST 1048576: true; the input reads as it did. -/
def propChecksUptoRow : OpenClaim := { program := "ytaeifbkimagpdaa", sum := "4defb02f8e9922911026c5790b853d1f2f24d8ea658b115ece8057cddb22a171", func := "voussoir/voussoirlaw06.PropChecks", spec := "propChecks", unfollowed := true, recurses := true, loops := true, apart := false, narrowed := true }
def PropChecksUptoSaid : Prop := propChecksUptoRow.holds Try.pinned (OpenSpec.upto propChecksSpec)

end Rows
end Go.Proofs.Ytaeifbkimagpdaa
