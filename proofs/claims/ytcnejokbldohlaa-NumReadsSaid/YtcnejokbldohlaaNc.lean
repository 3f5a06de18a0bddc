/- Contracts of Text of package num and of its reference. -/
import Derived.Test.YtcnejokbldohlaaNa
import Derived.Laws.BytesArg
namespace Go.Proofs.Ytcnejokbldohlaa
open Go.ChangeShapes Go.WideShapes Go.ChangeAt Go.RowKit
set_option linter.unusedVariables false
/-- The bytes of digits, as numbers. -/
def chars (l : List Nat) : List Int := l.map fun d => ((48 + d : Nat) : Int)
theorem chars_length (l : List Nat) : (chars l).length = l.length := by simp [chars]
def textL (n : Int) : List Int := (if n < 0 then [45] else []) ++ chars (dg n.natAbs)
def textS (n : Int) : ByteArray := strOfNums (textL n)
theorem dg_len19 (n : Int) (h : I64 n) : (dg n.natAbs).length ≤ 19 := dg_len_le _ _ (by unfold I64 at h; omega) (by omega)
/-- Where the loop stands: what is left of the number, and the digits that have been laid. -/
def At (m u : Nat) (acc : List Nat) : Prop := (acc = [] ∧ u = m) ∨ (acc ≠ [] ∧ (0 < u → dg u ++ acc = dg m) ∧ (u = 0 → acc = dg m))
theorem At.step {m u : Nat} {acc : List Nat} (h : At m u acc) (hgo : acc = [] ∨ 0 < u) : At m (u / 10) (u % 10 :: acc) := by
  right
  refine ⟨by simp, ?_, ?_⟩
  · intro hu
    rcases h with ⟨rfl, rfl⟩ | ⟨h1, h2, _⟩
    · rw [dg_big (n := u) (by omega)]
    · rw [← h2 (by omega), dg_big (n := u) (by omega), List.append_assoc]; rfl
  · intro hu
    rcases h with ⟨rfl, rfl⟩ | ⟨h1, h2, _⟩
    · rw [dg_small (n := u) (by omega), Nat.mod_eq_of_lt (by omega)]
    · have h3 : 0 < u := by rcases hgo with h | h; exact absurd h h1; exact h
      rw [← h2 h3, dg_small (n := u) (by omega), Nat.mod_eq_of_lt (by omega)]; rfl
theorem At.stop {m u : Nat} {acc : List Nat} (h : At m u acc) (h1 : acc ≠ []) (h2 : u = 0) : acc = dg m := by
  rcases h with ⟨h, _⟩ | ⟨_, _, h⟩
  · exact absurd h h1
  · exact h h2
theorem At.len {m u : Nat} {acc : List Nat} (h : At m u acc) (hgo : acc = [] ∨ 0 < u) (hm : (dg m).length ≤ 19) : acc.length ≤ 18 := by
  rcases h with ⟨rfl, _⟩ | ⟨h1, h2, _⟩
  · simp
  · rcases hgo with h | h
    · exact absurd h h1
    · have := h2 h
      have h3 := congrArg List.length this
      have h4 : 0 < (dg u).length := List.length_pos_iff.2 (dg_ne u)
      rw [List.length_append] at h3
      omega
def cellsA (acc : List Int) : Array Value := (List.replicate (20 - acc.length) (Value.int .u8 0) ++ acc.map (Value.int .u8)).toArray
theorem cellsA_size (acc : List Int) (h : acc.length ≤ 20) : (cellsA acc).size = 20 := by simp [cellsA]; omega
theorem cellsA_get (acc : List Int) (i : Nat) (h : i < acc.length) (hl : acc.length ≤ 20) : (cellsA acc)[20 - acc.length + i]? = some (.int .u8 (acc.getD i 0)) := by
  simp only [cellsA, List.getElem?_toArray]
  rw [List.getElem?_append_right (by simp), List.length_replicate, show 20 - acc.length + i - (20 - acc.length) = i by omega]
  simp [h]
theorem cellsA_push (acc : List Int) (d : Int) (q : Nat) (h : q + 1 + acc.length = 20) : (cellsA acc).setIfInBounds q (.int .u8 d) = cellsA (d :: acc) := by
  have h1 : 20 - acc.length = q + 1 := by omega
  have h2 : 20 - (acc.length + 1) = q := by omega
  simp only [cellsA, List.length_cons, h1, h2, List.map_cons]
  apply Array.ext'
  simp only [Array.toList_setIfInBounds]
  rw [List.replicate_succ', List.append_assoc, List.set_append_right _ _ (by simp)]
  simp
theorem cellsA_zero (acc : List Int) (q : Nat) (h : q + 1 + acc.length = 20) : (cellsA acc)[q]? = some (.int .u8 0) := by
  simp only [cellsA, List.getElem?_toArray]
  rw [List.getElem?_append_left (by rw [List.length_replicate]; omega), List.getElem?_replicate, if_pos (by omega)]
theorem rets {a b : ByteArray} (h : b = a) : Ending.returned (.string a) = .returned (.string b) := by rw [h]
theorem cellsA_cell (w : World) (acc : List Int) (q : Nat) (h : q + acc.length = 20) (i : Nat) (hi : i < 20 - q) (t : TypeId) : (w.alloc (.cells (cellsA acc) t)).cell? ⟨w.heap.size, q + i, none⟩ = some (.int .u8 (acc.getD i 0)) := by
  rw [World.cell?_alloc_new]
  have := cellsA_get acc i (by omega) (by omega)
  rwa [show 20 - acc.length = q by omega] at this
set_option maxHeartbeats 400000 in
theorem text_any (n : Int) (w : World) (hn : I64 n) :
    Calls Try.prog 18 #[.int .i64 n] w fun r w' => r = .returned (.string (textS n)) ∧ Below w.heap.size w w' := by
  have h19 := dg_len19 n hn
  have hs := fun w => size_any n w hn
  have Hs := Lib.hid hs
  have hb : (n.natAbs : Int) ≤ 9223372036854775808 := by unfold I64 at hn; omega
  clear hs hn
  generalize hm : n.natAbs = m at *
  have Hm := Lib.hid hm
  have H19 := Lib.hid h19
  clear hm h19
  go_enter Try.func18, Try.ntmps18
  go_wp2_with (go_at_call 44; refine (Hs.out _).mono ?_; rintro r w' ⟨rfl, rfl⟩)
  go_loopw [4, 5] (fun p u wr => ∃ (acc : List Nat) (q v : Nat), q + acc.length = 20 ∧ p = .int .i64 q ∧ u = .int .u64 v ∧ (v : Int) ≤ 9223372036854775808 ∧ At m v acc ∧ wr = w.alloc (.cells (cellsA (chars acc)) 76)) (fun p _ _ => (intOf p).toNat)
  case atStart => exact ⟨[], 20, m, rfl, rfl, rfl, hb, Or.inl ⟨rfl, rfl⟩, rfl⟩
  case round =>
    obtain ⟨acc, q, v, hq, rfl, rfl, hv, hat, rfl⟩ := hrel
    have Hat := Lib.hid hat
    clear hat
    by_cases hA : acc = []
    · subst hA
      obtain rfl : q = 20 := by simpa using hq
      have hst := Hat.out.step (Or.inl rfl)
      have Hst := Lib.hid hst
      have hpush := cellsA_push (chars []) ((48 + v % 10 : Nat) : Int) 19 rfl
      have hc0 : (cellsA (chars []))[19]? = some (.int .u8 0) := rfl
      have Hpush := Lib.hid hpush
      clear hst hq hpush
      go_wp2
      go_roundw
      case rel => exact ⟨[v % 10], 19, v / 10, rfl, rfl, by go_num, by omega, Hst.out, by rw [show (48 + (v : Int) % 10) = ((48 + v % 10 : Nat) : Int) from by omega, Hpush.out]; rfl⟩
      case measure => simp [intOf]
    · have ha1 : 1 ≤ acc.length := by cases acc with | nil => exact absurd rfl hA | cons _ _ => simp
      by_cases hv0 : 0 < v
      · have hl := Hat.out.len (Or.inr hv0) H19.out
        obtain ⟨p, rfl⟩ : ∃ p, q = p + 1 := ⟨q - 1, by omega⟩
        have hp : p < 20 := by omega
        have hne : ((p : Int) + 1 == 20) = false := by rw [beq_eq_false_iff_ne]; omega
        have hcell := cellsA_zero (chars acc) p (by rw [chars_length]; exact hq)
        have hst := Hat.out.step (Or.inr hv0)
        have Hst := Lib.hid hst
        have hpush := cellsA_push (chars acc) ((48 + v % 10 : Nat) : Int) p (by rw [chars_length]; exact hq)
        have Hpush := Lib.hid hpush
        have Hq := Lib.hid hq
        clear hq hst hpush
        go_wp2
        go_roundw
        case rel => exact ⟨v % 10 :: acc, p, v / 10, by have := Hq.out; rw [List.length_cons]; omega, rfl, by go_num, by omega, Hst.out, by rw [show (48 + (v : Int) % 10) = ((48 + v % 10 : Nat) : Int) from by omega, Hpush.out]; rfl⟩
        case measure => simp [intOf]
      · obtain rfl : v = 0 := by omega
        have hne : ((q : Int) == 20) = false := by rw [beq_eq_false_iff_ne]; omega
        have hacc := Hat.out.stop hA rfl
        have hq20 : (q : Int) ≤ 20 := by omega
        have hq19 : q ≤ 19 := by omega
        have Hacc := Lib.hid hacc
        have Hq := Lib.hid hq
        have hq1 : 1 ≤ q := by have := H19.out; rw [← hacc] at this; omega
        clear hacc hq
        by_cases hneg : n < 0
        · obtain ⟨p, rfl⟩ : ∃ p, q = p + 1 := ⟨q - 1, by omega⟩
          have hp : p < 20 := by omega
          have hne : ((p : Int) + 1 == 20) = false := by rw [beq_eq_false_iff_ne]; omega
          have hp20 : ¬ 20 = p := by omega
          have hpi : (p : Int) ≤ 20 := by omega
          have hconv := run_convert_bytes_arg (w.alloc (.cells (cellsA (45 :: chars acc)) 76)) 39 5 Try.underlying39 Try.underlying5 w.heap.size p (20 - p) (20 - p) (45 :: chars acc) (by have := Hq.out; simp only [List.length_cons, chars_length]; omega) (fun i hi => cellsA_cell w _ p (by have := Hq.out; simp only [List.length_cons, chars_length]; omega) i hi 76) 9 Try.underlying9
          have hcell := cellsA_zero (chars acc) p (by rw [chars_length]; exact Hq.out)
          have hpush := cellsA_push (chars acc) 45 p (by rw [chars_length]; exact Hq.out)
          go_wp2
          go_ret
          refine ⟨rets ?_, (Below.refl _ _).alloc (Nat.le_refl _) _⟩
          have e : textL n = [45] ++ chars (dg n.natAbs) := by unfold textL; rw [if_pos hneg]
          unfold textS
          rw [e, Hm.out, ← Hacc.out]
          rfl
        · have hp20 : ¬ 20 = q := by omega
          have hconv := run_convert_bytes_arg (w.alloc (.cells (cellsA (chars acc)) 76)) 39 5 Try.underlying39 Try.underlying5 w.heap.size q (20 - q) (20 - q) (chars acc) (by have := Hq.out; rw [chars_length]; omega) (fun i hi => cellsA_cell w _ q (by have := Hq.out; rw [chars_length]; exact this) i hi 76) 9 Try.underlying9
          go_wp2
          go_ret
          refine ⟨rets ?_, (Below.refl _ _).alloc (Nat.le_refl _) _⟩
          have e : textL n = [] ++ chars (dg n.natAbs) := by unfold textL; rw [if_neg (by omega)]
          unfold textS
          rw [e, Hm.out, ← Hacc.out]
          rfl
end Go.Proofs.Ytcnejokbldohlaa
