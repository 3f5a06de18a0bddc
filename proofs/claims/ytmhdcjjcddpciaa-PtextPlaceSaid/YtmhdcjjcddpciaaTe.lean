/- ptext: the reference's signs. -/
import Derived.Test.YtmhdcjjcddpciaaTd
namespace Go.Proofs.Ytmhdcjjcddpciaa
set_option linter.unusedSimpArgs false
set_option linter.unusedVariables false
open Go.RowKit
/-- The operator that the first i signs give. -/
def signAt (c : Nat) : Nat → Int
  | 0 => 0
  | i + 1 => if [33, 38, 124, 94, 62, 61, 63].getD i 0 = c then 4 + (i : Int) else signAt c i
theorem signAt_all (c : Nat) : signAt c 7 = signOp (some c) := by
  by_cases h : c = 33 ∨ c = 38 ∨ c = 124 ∨ c = 94 ∨ c = 62 ∨ c = 61 ∨ c = 63
  · rcases h with rfl | rfl | rfl | rfl | rfl | rfl | rfl <;> decide
  · simp only [not_or] at h
    obtain ⟨h1, h2, h3, h4, h5, h6, h7⟩ := h
    have e : signOp (some c) = 0 := by
      unfold signOp
      split <;> simp_all
    rw [e]
    simp [signAt, Ne.symm h1, Ne.symm h2, Ne.symm h3, Ne.symm h4, Ne.symm h5, Ne.symm h6, Ne.symm h7]
theorem rsigns_any (w : World) : Calls Try.prog 32 #[] w fun e w' => e = .returned (.string ⟨#[33, 38, 124, 94, 62, 61, 63]⟩) ∧ w' = w := by
  go_enter Try.func32, Try.ntmps32
  go_wp2_with fail
  go_ret
  exact ⟨rfl, rfl⟩
end Go.Proofs.Ytmhdcjjcddpciaa
