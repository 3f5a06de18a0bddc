/- Package bits: Text, and the reference's. -/
import Derived.Test.YtaeifbkimagpdaaBf
import Derived.Laws.IdiomStrings
namespace Go.Proofs.Ytaeifbkimagpdaa
set_option linter.unusedSimpArgs false
set_option linter.unusedVariables false
open Go.ChangeShapes Go.WideShapes Go.ChangeAt Go.RowKit
set_option linter.unusedVariables false
def digit (b : Bool) : UInt8 := if b then 49 else 48
/-- The text of a list. -/
def textOf (l : List Bool) : ByteArray := ⟨(l.map digit).toArray⟩
theorem textOf_snoc (l : List Bool) (b : Bool) : textOf (l ++ [b]) = textOf l ++ ⟨#[digit b]⟩ := by
  apply ByteArray.ext
  rw [ByteArray.data_append]
  simp [textOf]
theorem textOf_size (l : List Bool) : (textOf l).size = l.length := by simp [textOf, ByteArray.size]
set_option maxHeartbeats 1000000 in
theorem rtext_any (w : World) (B : Nat) (A : Option Addr) (n c : Nat) (l : List Bool) (hn : l.length = n) (hA : RL w B 1 A n (bools l)) (sn : n ≤ 100000) :
    Calls Try.prog 21 #[.slice A n c] w fun e w' => e = .returned (.string (textOf l)) ∧ w = w' := by
  have Hn := Lib.hid hn
  have HA := Lib.hid hA
  clear hn hA
  go_enter Try.func21, Try.ntmps21
  go_wp2
  go_loop [3, 4] (fun v i => ∃ j : Nat, j ≤ n ∧ i = .int .i64 j ∧ v = .string (textOf (l.take j))) (fun _ i => (n - intOf i).toNat)
  case atStart => exact ⟨0, by omega, rfl, rfl⟩
  case round =>
    obtain ⟨j, hj, rfl, rfl⟩ := hrel
    by_cases hlt : j < n
    · obtain ⟨b, o, rfl, hbw, hc⟩ := HA.out.at_ (by omega)
      have hl : j < l.length := by rw [Hn.out]; exact hlt
      have e1 := hc j (by omega)
      rw [bools_get _ _ hl] at e1
      have Hs := Lib.hid (show textOf (l.take (j + 1)) = textOf (l.take j) ++ ⟨#[digit l[j]]⟩ from by rw [← textOf_snoc, List.take_append_getElem])
      have hsz : ¬ (9223372036854775807 < (textOf (l.take j)).size + 1) := by
        rw [textOf_size, List.length_take]; omega
      generalize l[j] = x at *
      have ki : (j : Int) < (n : Int) := by omega
      have k0 : (0 : Int) ≤ (j : Int) := by omega
      clear hc hl
      cases x
      all_goals
        go_wp2
        go_round
        case rel => exact ⟨j + 1, by omega, by go_num, by rw [Hs.out]; rfl⟩
        case measure => simp [intOf]; omega
    · have hjn : j = n := by omega
      subst hjn
      have Hl := Lib.hid (show l.take j = l from List.take_of_length_le (by rw [Hn.out]; exact Nat.le_refl _))
      go_wp2
      go_ret
      exact ⟨by rw [← Hl.out]; simp [Hl.out], rfl⟩
/-- The bytes of Text's buffer: the first j digits, zeros behind. -/
def bytes (l : List UInt8) : List Value := l.map fun c => Value.int .u8 (c.toNat : Int)
theorem byte_info : (Try.prog.info? 5).map (fun i => (i.zero, i.size, i.bytes)) = some (some (.int .u8 0), 1, 1) := by kernel_rfl
theorem bytes_set (a : List UInt8) (x : UInt8) (r : Nat) (hr : 0 < r) : (bytes (a ++ List.replicate r 0)).set a.length (.int .u8 (x.toNat : Int)) = bytes ((a ++ [x]) ++ List.replicate (r - 1) 0) := by
  obtain ⟨q, rfl⟩ : ∃ q, r = q + 1 := ⟨r - 1, by omega⟩
  simp [bytes, List.replicate_succ]
set_option maxHeartbeats 1000000 in
theorem text_any (w : World) (A : Option Addr) (n c : Nat) (l : List Bool) (hn : l.length = n) (hA : RL w w.heap.size 1 A n (bools l)) (sn : n ≤ 100000) :
    Calls Try.prog 20 #[.slice A n c] w fun e w' => e = .returned (.string (textOf l)) ∧ Below w.heap.size w w' := by
  obtain ⟨i2, hi2, hz2, hs2, hy2⟩ := info_parts byte_info
  have hmk := fun W => run_make (P := Try.prog) W 67 5 i2 (.int .u8 0) Try.underlying67 hi2 hz2 .i64 .i64 n n (by omega) (Int.le_refl _) (by rw [hy2]; omega) (by omega)
  have Hn := Lib.hid hn
  have HA := Lib.hid hA
  clear hn hA
  go_enter Try.func20, Try.ntmps20
  go_wp2
  go_loopw [5, 11] (fun _ i wr => ∃ j : Nat, j ≤ n ∧ i = .int .i64 j ∧ Own wr w.heap.size 5 1 (.slice (some ⟨w.heap.size, 0, none⟩) n n) n (bytes ((l.take j).map digit ++ List.replicate (n - j) 0)) ∧ Below w.heap.size w wr) (fun _ i _ => (n - intOf i).toNat)
  case atStart =>
    refine ⟨0, by omega, rfl, ?_, (Below.refl _ _).alloc (Nat.le_refl _) _⟩
    have h := Own.ofRow (World.ownsRow_lit (base := w.heap.size) (size := 1) (e := 5) w (madeCells #[.int .u8 0] n) n (Nat.le_refl _) (by unfold maxLen; omega) (by rw [size_madeCells]; omega))
    rw [toList_madeCells_one] at h
    simpa [bytes] using h
  case round =>
    obtain ⟨j, hj, rfl, hown, hb⟩ := hrel
    have Hown := Lib.hid hown
    have Hb := Lib.hid hb
    by_cases hlt : j < n
    · obtain ⟨b, o, rfl, hbw, hc⟩ := (HA.out.below hb).at_ (by omega)
      have hl : j < l.length := by rw [Hn.out]; exact hlt
      have e1 := hc j (by omega)
      rw [bools_get _ _ hl] at e1
      have hc2 := hown.cellAt j (by omega)
      have hf2 := hown.frozenAt j
      have Hset := Lib.hid (fun x => bytes_set ((l.take j).map digit) x (n - j) (by omega))
      have Htk := Lib.hid (show (l.take (j + 1)).map digit = (l.take j).map digit ++ [digit l[j]] from by rw [← List.take_append_getElem hl, List.map_append]; rfl)
      have Hlen := Lib.hid (show ((l.take j).map digit).length = j from by rw [List.length_map, List.length_take]; omega)
      generalize l[j] = x at *
      have hu : (bytes ((l.take j).map digit ++ List.replicate (n - j) 0))[j]? = some (.int .u8 0) := by
        simp only [bytes, List.getElem?_map]
        rw [List.getElem?_append_right (by rw [Hlen.out]; omega), List.getElem?_replicate, if_pos (by rw [Hlen.out]; omega)]
        rfl
      rw [hu] at hc2
      have hbl := hb.size
      have hbl2 : w.heap.size < wr.heap.size := (hown.lt w.heap.size rfl).2
      have nb : ¬ (b = w.heap.size) := by omega
      have ki : (j : Int) < (n : Int) := by omega
      have k0 : (0 : Int) ≤ (j : Int) := by omega
      clear hown hb hl hc hu
      cases x
      · go_wp2
        go_roundw
        case rel =>
          go_light
          refine ⟨j + 1, by omega, by go_num, ?_, Hb.out.setCell (Nat.le_refl _) _⟩
          have ho := Hown.out.stored j (.int .u8 48)
          have h1 := Hset.out 48
          rw [Hlen.out] at h1
          rw [show ((48 : UInt8).toNat : Int) = 48 from rfl] at h1
          rw [h1] at ho
          rw [Htk.out]
          exact ho
        case measure => simp [intOf]; omega
      · go_wp2
        go_roundw
        case rel =>
          go_light
          refine ⟨j + 1, by omega, by go_num, ?_, (Hb.out.setCell (Nat.le_refl _) _).setCell (Nat.le_refl _) _⟩
          have ho := (Hown.out.stored j (.int .u8 48)).stored j (.int .u8 49)
          rw [List.set_set] at ho
          have h1 := Hset.out 49
          rw [Hlen.out] at h1
          rw [show ((49 : UInt8).toNat : Int) = 49 from rfl] at h1
          rw [h1] at ho
          rw [Htk.out]
          exact ho
        case measure => simp [intOf]; omega
    · have hjn : j = n := by omega
      subst hjn
      have hcv := run_convert_bytes_back (P := Try.prog) wr 67 9 5 ⟨w.heap.size, 0, none⟩ j (l.map digit) Try.underlying67 Try.underlying5 Try.underlying9 (fun q hq => by
        rw [List.length_map, Hn.out] at hq
        rw [add_at, Nat.zero_add, hown.cellAt q (by omega)]
        have hlj : l.take j = l := List.take_of_length_le (by rw [Hn.out]; exact Nat.le_refl _)
        rw [hlj, Nat.sub_self, List.replicate_zero, List.append_nil]
        simp [bytes, Hn.out, hq])
      rw [List.length_map, Hn.out] at hcv
      clear hown hb
      go_wp2
      go_ret
      exact ⟨rfl, Hb.out⟩
end Go.Proofs.Ytaeifbkimagpdaa
