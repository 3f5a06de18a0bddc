/- Package bits: All's value; the chapter's examples. -/
import Derived.Test.YtaeifbkimagpdaaBi
namespace Go.Proofs.Ytaeifbkimagpdaa
set_option linter.unusedSimpArgs false
set_option linter.unusedVariables false
open Go.ChangeShapes Go.WideShapes Go.ChangeAt Go.RowKit
set_option linter.unusedVariables false
theorem all_makes (m : Int) (w : World) :
    Calls Try.prog 27 #[.int .i64 m] w fun e w' => e = .returned (.func (.func 50) #[] #[.pointer (some ⟨w.heap.size, 0, none⟩)]) ∧ w' = w.alloc (.cells #[.int .i64 (min (max m 0) 12)] 3) := by
  have C1 := Lib.hid (fun w => hold_any m 12 w (by omega))
  generalize min (max m 0) 12 = k at *
  go_enter Try.func27, Try.ntmps27
  go_wp2_with (go_at_call 46; refine (C1.out _).mono ?_; rintro r w' ⟨rfl, rfl⟩)
  go_ret
  exact ⟨rfl, rfl⟩
theorem bdrewN {n : Nat} {a w : World} (h : Below n a w) (k : Nat) : Below n a (w.drewN k) := ⟨h.os, h.tape, h.output, h.size, h.block⟩
theorem lv_of : bitsOf 6 (min (max 4 0) 64 : Int).toNat = [false, true, true, false] := by decide
theorem lv_num : numOf [false, true, true, false] = 6 := by decide
theorem lv_next : nextL [false, true, true, false] = [true, true, true, false] := by decide
theorem lv_less : lessL [false, true, true, false] [true, true, true, false] = true := by decide
theorem lv_parse : parseL ⟨#[48, 49, 49, 48]⟩ = [false, true, true, false] := by decide
set_option maxHeartbeats 1000000 in
theorem lives_any (w : World) : Calls Try.prog 12 #[] w fun e w' => e = .returned (.bool true) ∧ Below w.heap.size w w' := by
  have hnf : ∀ (W : World) (a : Array Value), (binOp BinOp.neq 41 (Value.func (Fn.func 50) #[] a) Value.nilFunc).run Try.prog W = .ok (.bool true) W := fun _ _ => by kernel_rfl
  go_enter Try.func12, Try.ntmps12
  go_wp2_with fail
  refine (of_any 6 4 w (by omega)).mono ?_
  rw [lv_of]
  rintro e w1 ⟨A1, c1, rfl, _, hr1, hb1⟩
  have R1 := Lib.hid hr1
  have B1 := Lib.hid hb1
  clear hr1 hb1
  go_wp2_with fail
  refine (parse_any w1 ⟨#[48, 49, 49, 48]⟩ (by decide)).mono ?_
  rintro e w2 ⟨hb2, (⟨h, _⟩ | ⟨_, h, _⟩ | ⟨_, _, A2, c2, rfl, hr2⟩)⟩
  · exact absurd h (by decide)
  · exact absurd h (by decide)
  have R2 := Lib.hid hr2
  have R1' := Lib.hid (R1.out.below hb2 |>.more hb2.size)
  have B2 := Lib.hid (Bthen B1.out hb2)
  rw [lv_parse] at R2
  clear hb2 hr2 R1 B1
  go_wp2_with fail
  refine (text_any w2 A1 4 c1 [false, true, true, false] rfl R1'.out (by omega)).mono ?_
  rintro e w3 ⟨rfl, hb⟩
  have B3 := Lib.hid (Bthen B2.out hb)
  have R1'' := Lib.hid (R1'.out.below hb |>.more hb.size)
  have R2' := Lib.hid (R2.out.below hb |>.more hb.size)
  rw [show textOf [false, true, true, false] = ⟨#[48, 49, 49, 48]⟩ from rfl]
  clear hb B2 R1' R2
  go_wp2_with (go_at_call 16; refine (num_any _ _ A1 4 c1 [false, true, true, false] rfl R1''.out (by omega)).mono ?_; rw [lv_num]; rintro e w' ⟨rfl, rfl⟩)
  refine (next_any w3 A1 4 c1 [false, true, true, false] rfl R1''.out (by omega)).mono ?_
  rw [lv_next]
  rintro e w4 ⟨A4, c4, rfl, _, hr4, hb⟩
  have B4 := Lib.hid (Bthen B3.out hb)
  have R1 := Lib.hid (R1''.out.below hb |>.more hb.size)
  have R2 := Lib.hid (R2'.out.below hb |>.more hb.size)
  have R4 := Lib.hid hr4
  clear hb hr4 B3 R1'' R2'
  go_wp2_with fail
  refine (text_any w4 A4 4 c4 [true, true, true, false] rfl R4.out (by omega)).mono ?_
  rintro e w5 ⟨rfl, hb⟩
  have B5 := Lib.hid (Bthen B4.out hb)
  have R1' := Lib.hid (R1.out.below hb |>.more hb.size)
  have R2' := Lib.hid (R2.out.below hb |>.more hb.size)
  rw [show textOf [true, true, true, false] = ⟨#[49, 49, 49, 48]⟩ from rfl]
  clear hb B4 R1 R2 R4
  go_wp2_with fail
  refine (same_any w5 _ A2 A1 4 4 c2 c1 [false, true, true, false] [false, true, true, false] rfl rfl R2'.out R1'.out (by omega) (by omega)).mono ?_
  rw [decide_eq_true rfl]
  rintro e w6 ⟨rfl, q, rfl⟩
  go_wp2_with fail
  refine (next_any (w5.drewN q) A1 4 c1 [false, true, true, false] rfl (R1'.out.drewN q) (by omega)).mono ?_
  rw [lv_next]
  rintro e w7 ⟨A7, c7, rfl, _, hr7, hb⟩
  have B7 := Lib.hid ((bdrewN B5.out q).trans (hb.mono B5.out.size))
  have R1 := Lib.hid ((R1'.out.drewN q).below hb |>.more hb.size)
  have R7 := Lib.hid hr7
  clear hb hr7 B5 R1' R2'
  go_wp2_with fail
  refine (less_any w7 _ A1 A7 4 4 c1 c7 [false, true, true, false] [true, true, true, false] rfl rfl R1.out R7.out (by omega) (by omega)).mono ?_
  rw [lv_less]
  rintro e w' ⟨rfl, rfl⟩
  go_wp2_with fail
  refine (all_makes 1 w7).mono ?_
  rintro e w' ⟨rfl, rfl⟩
  clear R1 R7
  go_wp2
  go_ret
  exact ⟨rfl, B7.out.alloc B7.out.size _⟩
end Go.Proofs.Ytaeifbkimagpdaa
