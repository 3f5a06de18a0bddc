/- PropFollows: the call in the law's form. -/
import Derived.Test.YtaeifbkimagpdaaRf
import Derived.Test.YtaeifbkimagpdaaRc
namespace Go.Proofs.Ytaeifbkimagpdaa
set_option linter.unusedSimpArgs false
set_option linter.unusedVariables false
open Go.RowKit
theorem bl_of_rl {W : World} {A : Option Addr} {l : List Bool} (h : RL W W.heap.size 1 A l.length (l.map Value.bool)) (hl : l.length ≤ maxLen) : BL (heapOf W) A l := by
  refine ⟨by unfold maxLen at hl; omega, fun hn => ?_⟩
  obtain ⟨b, o, e, _, hc⟩ := h.2 hn
  refine ⟨b, o, e, fun j v hj => PH.at_of_cell (fun o ho => ho) ?_⟩
  rw [hc j (by have := (List.getElem?_eq_some_iff.1 hj).1; rw [List.length_map] at this; omega)]
  exact hj
theorem pfollows_all (a b : Tr) (A : Option Addr) (c : Nat) (l : List Bool) (k : Nat) (hk : k ≤ 255) (W : World) (ha : In (heapOf W) a) (hb : In (heapOf W) b) (hl : RL W W.heap.size 1 A l.length (l.map Value.bool)) (hm : l.length ≤ maxLen) : Calls Try.prog 10 #[a.val, b.val, .slice A l.length c, .int .u8 (k : Int)] W fun e w' => e = .returned (.bool true) ∧ Below W.heap.size W w' :=
  (pfollows_any a b A c l k hk W (heapOf W) [] W ha hb (bl_of_rl hl hm) (Sat.start W)).mono fun e w' ⟨he, J, hJ, hS⟩ => ⟨he, hS.end_ hJ⟩
end Go.Proofs.Ytaeifbkimagpdaa
