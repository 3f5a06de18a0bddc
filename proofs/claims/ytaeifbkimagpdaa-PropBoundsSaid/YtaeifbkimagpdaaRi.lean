/- PropBounds: the call in the law's form. -/
import Derived.Test.YtaeifbkimagpdaaRh
namespace Go.Proofs.Ytaeifbkimagpdaa
set_option linter.unusedSimpArgs false
set_option linter.unusedVariables false
open Go.RowKit
theorem pbounds_all (d wd mo : Nat) (hd : d ≤ 255) (hw : wd ≤ 255) (hm : mo ≤ 65535) (W : World) : Calls Try.prog 8 #[.int .u8 (d : Int), .int .u8 (wd : Int), .int .u16 (mo : Int)] W fun e w' => e = .returned (.bool true) ∧ Below W.heap.size W w' :=
  (pbounds_any d wd mo hd hw hm W (heapOf W) [] W (Sat.start W)).mono fun e w' ⟨he, J, hJ, hS⟩ => ⟨he, hS.end_ hJ⟩
end Go.Proofs.Ytaeifbkimagpdaa
