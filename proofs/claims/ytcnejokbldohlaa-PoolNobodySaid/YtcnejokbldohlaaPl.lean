/- PoolNobody: the methods of a nil pool. -/
import Derived.Test.YtcnejokbldohlaaPk
namespace Go.Proofs.Ytcnejokbldohlaa
open Go.ChangeShapes Go.WideShapes Go.ChangeAt Go.RowKit
set_option linter.unusedVariables false
theorem give_nil (w : World) (id : Int) : Calls Try.prog 20 #[.pointer none, .int .i64 id] w fun r w' => r = .returned (.int .i64 5) ∧ w = w' := by
  go_enter Try.func20, Try.ntmps20
  go_wp2_with (go_at_call 47; refine (is_nil _ _).mono ?_; rintro r w' ⟨rfl, rfl⟩)
  go_ret
  exact ⟨rfl, rfl⟩
set_option maxHeartbeats 2000000 in
theorem nobody_any (id : Int) (n : Nd) (w : World) : Calls Try.prog 9 #[.int .i64 id, n.val] w fun e w' => e = .returned (.bool true) ∧ Below w.heap.size w w' := by
  obtain ⟨n0, n1, n2, n3, n4⟩ := n
  unfold Nd.val
  go_enter Try.func9, Try.ntmps9
  go_wp2_with fail
  refine (take_nil _ ⟨n0, n1, n2, n3, n4⟩).mono ?_
  rintro e w1 ⟨rfl, hb⟩
  have h1 := (Blk.new w 29 #[.int .i64 n0, .int .i64 n1, .int .i64 n2, .int .i64 n3, .int .i64 n4]).below hb (by simp)
  have B1 := Lib.hid (((Below.refl _ w).alloc (Nat.le_refl _) _).trans (hb.mono (by simp)))
  have H1 := Lib.hid h1
  clear hb h1
  go_wp2_with fail
  refine (at_nil w1 id).mono ?_
  rintro e w2 ⟨rfl, hb⟩
  have H2 := Lib.hid (H1.out.below hb H1.out.lt)
  have B2 := Lib.hid (B1.out.trans (hb.mono B1.out.size))
  have B2' := Lib.hid hb
  clear hb H1
  unfold Nd.val Nd.zero
  go_wp2_with fail
  refine (give_nil _ id).mono ?_
  rintro e w' ⟨rfl, rfl⟩
  obtain ⟨x0, x1, x2, x3, x4⟩ : w2.cell? ⟨w.heap.size, 0, none⟩ = some (.int .i64 n0) ∧ w2.cell? ⟨w.heap.size, 1, none⟩ = some (.int .i64 n1) ∧ w2.cell? ⟨w.heap.size, 2, none⟩ = some (.int .i64 n2) ∧ w2.cell? ⟨w.heap.size, 3, none⟩ = some (.int .i64 n3) ∧ w2.cell? ⟨w.heap.size, 4, none⟩ = some (.int .i64 n4) :=
    ⟨H2.out.cell 0, H2.out.cell 1, H2.out.cell 2, H2.out.cell 3, H2.out.cell 4⟩
  have hlt := H2.out.lt
  go_wp2_with fail
  refine (set_nil _ ⟨n0, n1, n2, n3, n4⟩).mono ?_
  rintro e w3 ⟨rfl, hb⟩
  have B3 := Lib.hid ((B2.out.alloc B2.out.size (.cells #[.int .i64 0, .int .i64 0, .int .i64 0, .int .i64 0, .int .i64 0] 29)).trans (hb.mono (by simp; omega)))
  have H3 := Lib.hid ((Blk.new w2 29 #[.int .i64 0, .int .i64 0, .int .i64 0, .int .i64 0, .int .i64 0]).below hb (by simp))
  clear hb x0 x1 x2 x3 x4 B2 B1 B2' H2
  obtain ⟨x0, x1, x2, x3, x4⟩ : w3.cell? ⟨w2.heap.size, 0, none⟩ = some (.int .i64 0) ∧ w3.cell? ⟨w2.heap.size, 1, none⟩ = some (.int .i64 0) ∧ w3.cell? ⟨w2.heap.size, 2, none⟩ = some (.int .i64 0) ∧ w3.cell? ⟨w2.heap.size, 3, none⟩ = some (.int .i64 0) ∧ w3.cell? ⟨w2.heap.size, 4, none⟩ = some (.int .i64 0) :=
    ⟨H3.out.cell 0, H3.out.cell 1, H3.out.cell 2, H3.out.cell 3, H3.out.cell 4⟩
  go_wp2_with (first | (go_at_call 31; refine (room_nil _).mono ?_; rintro e w' ⟨rfl, rfl⟩) | (go_at_call 22; refine (len_nil _).mono ?_; rintro e w' ⟨rfl, rfl⟩) | (go_at_call 13; fail))
  refine (all_nil _ 9).mono ?_
  rintro e w4 ⟨A, c, rfl, hc, ho, hb⟩
  have B4 := Lib.hid (B3.out.trans (hb.mono B3.out.size))
  clear hb ho hc B3 H3 x0 x1 x2 x3 x4
  go_wp2_with fail
  refine (lives_any _).mono ?_
  rintro e w5 ⟨rfl, hb⟩
  have B5 := Lib.hid (B4.out.trans (hb.mono B4.out.size))
  clear hb B4
  go_wp2
  go_ret
  exact ⟨rfl, B5.out⟩
end Go.Proofs.Ytcnejokbldohlaa
