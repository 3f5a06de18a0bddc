/- PropMakes: the call in the law's form. -/
import Derived.Test.YtaeifbkimagpdaaRb
import Derived.Test.YtaeifbkimagpdaaRc
namespace Go.Proofs.Ytaeifbkimagpdaa
set_option linter.unusedSimpArgs false
set_option linter.unusedVariables false
open Go.RowKit
theorem pmakes_all (a b : Tr) (n0 : Int) (W : World) (ha : In (heapOf W) a) (hb : In (heapOf W) b) : Calls Try.prog 9 #[a.val, b.val, .int .i64 n0] W fun e w' => e = .returned (.bool true) ∧ Below W.heap.size W w' :=
  (pmakes_any a b n0 W (heapOf W) [] W ha hb (Sat.start W)).mono fun e w' ⟨he, J, hJ, hS⟩ => ⟨he, hS.end_ hJ⟩
end Go.Proofs.Ytaeifbkimagpdaa
