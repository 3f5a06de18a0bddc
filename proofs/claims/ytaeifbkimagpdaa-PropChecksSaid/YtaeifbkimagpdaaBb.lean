/- Package bits: hold, Of, and the reference's. -/
import Derived.Test.YtaeifbkimagpdaaBa
namespace Go.Proofs.Ytaeifbkimagpdaa
set_option linter.unusedSimpArgs false
set_option linter.unusedVariables false
open Go.ChangeShapes Go.WideShapes Go.ChangeAt Go.RowKit
set_option linter.unusedVariables false
theorem reti {k : IntKind} {a b : Int} (h : b = a) : Ending.returned (.int k a) = .returned (.int k b) := by rw [h]
theorem hold_any (n m : Int) (w : World) (hm : 0 ≤ m) :
    Calls Try.prog 46 #[.int .i64 n, .int .i64 m] w fun r w' => r = .returned (.int .i64 (min (max n 0) m)) ∧ w = w' := by
  by_cases h : 0 ≤ n
  · by_cases h2 : n ≤ m
    · have e : min (max n 0) m = n := by omega
      rw [e]
      clear e
      go_enter Try.func46, Try.ntmps46
      go_wp2
      go_ret
      exact ⟨rfl, rfl⟩
    · have e : min (max n 0) m = m := by omega
      rw [e]
      clear e
      go_enter Try.func46, Try.ntmps46
      go_wp2
      go_ret
      exact ⟨rfl, rfl⟩
  · have e : min (max n 0) m = 0 := by omega
    rw [e]
    clear e
    go_enter Try.func46, Try.ntmps46
    go_wp2
    go_ret
    exact ⟨rfl, rfl⟩
theorem bool_info : (Try.prog.info? 4).map (fun i => (i.zero, i.size, i.bytes)) = some (some (.bool false), 1, 1) := by kernel_rfl
/-- The lowest k bits of n. -/
def bitsOf (n k : Nat) : List Bool := (List.range k).map fun i => n.testBit i
theorem bitsOf_length (n k : Nat) : (bitsOf n k).length = k := by simp [bitsOf]
theorem bitsOf_succ (n k : Nat) : bitsOf n (k + 1) = bitsOf n k ++ [n.testBit k] := by simp [bitsOf, List.range_succ]
/-- The end of a call that hands back a new list of truth values. -/
theorem Own.low {w : World} {base e size n c : Nat} {A : Option Addr} {xs : List Value} (h : Own w base e size (.slice A n c) n xs) : ∀ b o, A = some ⟨b, o, none⟩ → base ≤ b := fun b o e => (h.lt b (by rw [e]; rfl)).1
def NewBL (w : World) (l : List Bool) (e : Ending) (w' : World) : Prop := ∃ A c, e = .returned (.slice A l.length c) ∧ (l.length ≤ c ∧ ∀ b o, A = some ⟨b, o, none⟩ → w.heap.size ≤ b) ∧ RL w' w'.heap.size 1 A l.length (bools l) ∧ Below w.heap.size w w'
theorem bools_set_pad (a : List Bool) (x : Bool) (r : Nat) (hr : 0 < r) : (bools (a ++ List.replicate r false)).set a.length (.bool x) = bools ((a ++ [x]) ++ List.replicate (r - 1) false) := by
  obtain ⟨q, rfl⟩ : ∃ q, r = q + 1 := ⟨r - 1, by omega⟩
  simp [bools, List.replicate_succ]
theorem bit_at (n j : Nat) (hn : n < 18446744073709551616) : (bits BinOp.and IntKind.u64 ((n : Int) / 2 ^ j) 1 == 1) = n.testBit j := by
  have e : (n : Int) / 2 ^ j = ((n / 2 ^ j : Nat) : Int) := by rw [Int.natCast_ediv, Int.natCast_pow]; rfl
  have hlt : n / 2 ^ j < 18446744073709551616 := Nat.lt_of_le_of_lt (Nat.div_le_self _ _) hn
  rw [e, Nat.testBit_eq_decide_div_mod_eq]
  generalize n / 2 ^ j = x at *
  have h := (bits_nat .u64 64 (by decide) (fun y h0 h1 => by rw [IntKind.wrap_u64]; omega) x 1 (by omega) (by omega)).1
  rw [show (1 : Int) = ((1 : Nat) : Int) from rfl, h, Nat.and_one_is_mod]
  rw [Bool.eq_iff_iff, beq_iff_eq, decide_eq_true_iff]
  omega
set_option maxHeartbeats 400000 in
theorem of_any (n : Nat) (m : Int) (w : World) (hn : n < 18446744073709551616) :
    Calls Try.prog 14 #[.int .u64 (n : Int), .int .i64 m] w (NewBL w (bitsOf n (min (max m 0) 64).toNat)) := by
  obtain ⟨k, hk⟩ : ∃ k : Nat, min (max m 0) 64 = (k : Int) := Int.eq_ofNat_of_zero_le (by omega)
  have hk64 : k ≤ 64 := by omega
  have C1 := Lib.hid (fun w => hold_any m 64 w (by omega))
  rw [hk] at C1 ⊢
  rw [Int.toNat_natCast]
  obtain ⟨i2, hi2, hz2, hs2, hy2⟩ := info_parts bool_info
  have hmk := fun W => run_make (P := Try.prog) W 23 4 i2 (.bool false) Try.underlying23 hi2 hz2 .i64 .i64 k k (by omega) (Int.le_refl _) (by rw [hy2]; omega) (by omega)
  have Hn := Lib.hid hn
  clear hk hn
  go_enter Try.func14, Try.ntmps14
  go_wp2_with (go_at_call 46; refine (C1.out _).mono ?_; rintro r w' ⟨rfl, rfl⟩)
  go_loopw [6, 12] (fun _ i wr => ∃ j : Nat, j ≤ k ∧ i = .int .i64 j ∧ Own wr w.heap.size 4 1 (.slice (some ⟨w.heap.size, 0, none⟩) k k) k (bools (bitsOf n j ++ List.replicate (k - j) false)) ∧ Below w.heap.size w wr) (fun _ i _ => (k - intOf i).toNat)
  case atStart =>
    refine ⟨0, by omega, rfl, ?_, (Below.refl _ _).alloc (Nat.le_refl _) _⟩
    have h := Own.ofRow (World.ownsRow_lit (base := w.heap.size) (size := 1) (e := 4) w (madeCells #[.bool false] k) k (Nat.le_refl _) (by unfold maxLen; omega) (by rw [size_madeCells]; omega))
    rw [toList_madeCells_one] at h
    simpa [bools, bitsOf] using h
  case round =>
    obtain ⟨j, hj, rfl, hown, hb⟩ := hrel
    by_cases hlt : j < k
    · have hc := hown.cellAt j (by omega)
      have hf := hown.frozenAt j
      have Hown := Lib.hid hown
      have Hb := Lib.hid hb
      have hbl := hb.size
      have ki : (j : Int) < (k : Int) := by omega
      have k0 : (0 : Int) ≤ (j : Int) := by omega
      have hu : (bools (bitsOf n j ++ List.replicate (k - j) false))[j]? = some (.bool false) := by
        simp only [bools, List.getElem?_map]
        rw [List.getElem?_append_right (by rw [bitsOf_length]; omega), List.getElem?_replicate, if_pos (by rw [bitsOf_length]; omega)]
        rfl
      rw [hu] at hc
      clear hown hb hu
      go_wp2
      go_roundw
      case rel =>
        go_light
        refine ⟨j + 1, by omega, by go_num, ?_, Hb.out.setCell (Nat.le_refl _) _⟩
        have ho := Hown.out.stored j (.bool (n.testBit j))
        have h1 := bools_set_pad (bitsOf n j) (n.testBit j) (k - j) (by omega)
        rw [bitsOf_length] at h1
        rw [h1, ← bitsOf_succ] at ho
        rw [bit_at n j Hn.out]
        exact ho
      case measure => simp [intOf]; omega
    · have hjk : j = k := by omega
      subst hjk
      have Hown := Lib.hid hown
      have Hb := Lib.hid hb
      clear hown hb
      go_wp2
      go_ret
      have ho := Hown.out
      rw [Nat.sub_self, List.replicate_zero, List.append_nil] at ho
      refine ⟨_, _, by rw [bitsOf_length]; rfl, ?_, ?_, Hb.out⟩
      · rw [bitsOf_length]; exact ⟨Nat.le_refl _, ho.low⟩
      · rw [bitsOf_length]; exact RL.of_own ho
end Go.Proofs.Ytaeifbkimagpdaa
