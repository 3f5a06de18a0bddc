import Derived.Test.YtiigjjjaciliaaaT6
namespace Go.Proofs.Ytiigjjjaciliaaa
theorem list3 (l : List Value) (h : (Array.mk l).size = 3) : ∃ a b c, l = [a, b, c] := by
  match l, h with
  | [a, b, c], _ => exact ⟨a, b, c, rfl⟩
end Go.Proofs.Ytiigjjjaciliaaa
