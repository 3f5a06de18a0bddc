/- The chapter's example: lives. -/
import Derived.Test.YtcnejokbldohlaaPj
namespace Go.Proofs.Ytcnejokbldohlaa
set_option linter.unusedSimpArgs false
set_option linter.unusedVariables false
open Go.ChangeShapes Go.WideShapes Go.ChangeAt Go.RowKit
set_option linter.unusedVariables false
def L1 : Pl := (Pl.new 2).take ⟨0, 7, 0, 0, 0⟩
def L2 : Pl := L1.take Nd.zero
def L3 : Pl := L2.take Nd.zero
def L4 : Pl := L3.give 1
def L5 : Pl := L4.take ⟨0, 9, 0, 0, 0⟩
theorem lv1 : TakeV (Pl.new 2) = .tuple #[.int .i64 1, .int .i64 0] := by rfl
theorem lv2 : TakeV L1 = .tuple #[.int .i64 2, .int .i64 0] := by rfl
theorem lv3 : TakeV L2 = .tuple #[.int .i64 0, .int .i64 7] := by rfl
theorem lv4 : (if L3.is 1 = true then 0 else 5) = (0 : Int) := by rfl
theorem lv5 : TakeV L4 = .tuple #[.int .i64 1, .int .i64 0] := by rfl
theorem lv6 : L5.node 1 = ⟨1, 9, 0, 0, 0⟩ := by rfl
theorem lv7 : L5.is 1 = true := by rfl
set_option maxHeartbeats 1000000 in
theorem lives_any (w : World) : Calls Try.prog 14 #[] w fun e w' => e = .returned (.bool true) ∧ Below w.heap.size w w' := by
  go_enter Try.func14, Try.ntmps14
  go_wp2_with fail
  refine (new_st 2 w (by omega) (by omega)).mono ?_
  rintro e w1 ⟨g, F, rfl, h⟩
  have H := Lib.hid h
  clear h
  go_wp2_with fail
  refine (take_st H.out ⟨0, 7, 0, 0, 0⟩).mono ?_
  rw [lv1]
  rintro e w2 ⟨F2, rfl, h⟩
  have H2 := Lib.hid (show St w w2 g F2 L1 from h)
  clear h H
  go_wp2_with fail
  refine (take_st H2.out Nd.zero).mono ?_
  rw [lv2]
  rintro e w3 ⟨F3, rfl, h⟩
  have H3 := Lib.hid (show St w w3 g F3 L2 from h)
  clear h H2
  go_wp2_with fail
  refine (take_st H3.out Nd.zero).mono ?_
  rw [lv3]
  rintro e w4 ⟨F4, rfl, h⟩
  have H4 := Lib.hid (show St w w4 g F4 L3 from h)
  clear h H3
  go_wp2_with fail
  refine (give_st H4.out 1).mono ?_
  rw [lv4]
  rintro e w5 ⟨F5, rfl, h⟩
  have H5 := Lib.hid (show St w w5 g F5 L4 from h)
  clear h H4
  go_wp2_with fail
  refine (take_st H5.out ⟨0, 9, 0, 0, 0⟩).mono ?_
  rw [lv5]
  rintro e w6 ⟨F6, rfl, h⟩
  have H6 := Lib.hid (show St w w6 g F6 L5 from h)
  clear h H5
  go_wp2_with fail
  refine (at_st H6.out 1).mono ?_
  rw [lv6, lv7]
  rintro e w7 ⟨F7, rfl, h⟩
  have Hb := Lib.hid h.below
  clear h H6
  unfold Nd.val
  go_wp2
  go_ret
  exact ⟨rfl, Hb.out.alloc Hb.out.size _⟩
end Go.Proofs.Ytcnejokbldohlaa
