/- Package bits: Next. -/
import Derived.Test.YtaeifbkimagpdaaBe
import Derived.Laws.CopyOwn
namespace Go.Proofs.Ytaeifbkimagpdaa
set_option linter.unusedSimpArgs false
set_option linter.unusedVariables false
open Go.ChangeShapes Go.WideShapes Go.ChangeAt Go.RowKit
set_option linter.unusedVariables false
theorem add_at (b o j : Nat) : (⟨b, o, none⟩ : Addr).add j = ⟨b, o + j, none⟩ := by
  unfold Addr.add
  by_cases h : j = 0 <;> simp [h]
theorem bool_size : (Try.prog.info? 4).map (·.size) = some 1 := by kernel_rfl
/-- The list behind i flips: the first i places are those of the next list. -/
def flipped (l : List Bool) (i : Nat) : List Bool := (nextL l).take i ++ l.drop i
theorem flipped_zero (l : List Bool) : flipped l 0 = l := by simp [flipped]
theorem flipped_length (l : List Bool) (i : Nat) (h : i ≤ l.length) : (flipped l i).length = l.length := by
  simp [flipped, nextL_length]; omega
theorem flipped_get (l : List Bool) (i : Nat) (h : i < l.length) : (flipped l i)[i]? = some l[i] := by
  unfold flipped
  rw [List.getElem?_append_right (by simp [nextL_length]; omega)]
  simp [nextL_length, Nat.min_eq_left (Nat.le_of_lt h), h]
theorem flipped_set (l : List Bool) (i : Nat) (h : i < l.length) (hc : cy l i = true) : (flipped l i).set i (!l[i]) = flipped l (i + 1) := by
  unfold flipped
  rw [List.set_append_right _ _ (by simp [nextL_length]; omega), nextL_take_succ l i h, hc, List.append_assoc]
  congr 1
  rw [List.length_take, nextL_length, Nat.min_eq_left (Nat.le_of_lt h), Nat.sub_self, List.drop_eq_getElem_cons h, List.set_cons_zero]
  cases l[i] <;> rfl
theorem cy_false (l : List Bool) (i j : Nat) (h : i < l.length) (hf : l[i] = false) (hij : i < j) : cy l j = false := by
  unfold cy
  rw [Bool.eq_false_iff]
  intro ha
  rw [List.all_eq_true] at ha
  have hm : l[i] ∈ l.take j := by
    rw [List.mem_take_iff_getElem]
    exact ⟨i, by omega, rfl⟩
  have := ha _ hm
  rw [hf] at this
  cases this
theorem flipped_stop (l : List Bool) (i : Nat) (h : i < l.length) (hf : l[i] = false) : flipped l (i + 1) = nextL l := by
  apply List.ext_getElem?
  intro j
  unfold flipped
  by_cases hj : j < i + 1
  · rw [List.getElem?_append_left (by simp [nextL_length]; omega), List.getElem?_take_of_lt hj]
  · rw [List.getElem?_append_right (by simp [nextL_length]; omega), List.length_take, nextL_length, Nat.min_eq_left (by omega), List.getElem?_drop]
    rw [show i + 1 + (j - (i + 1)) = j by omega]
    by_cases hjl : j < l.length
    · rw [nextL_get l j hjl, cy_false l i j h hf (by omega), List.getElem?_eq_getElem hjl]; simp
    · rw [List.getElem?_eq_none (by omega), List.getElem?_eq_none (by rw [nextL_length]; omega)]
theorem flipped_end (l : List Bool) : flipped l l.length = nextL l := by
  unfold flipped
  rw [List.take_of_length_le (by rw [nextL_length]; exact Nat.le_refl _)]; simp
set_option maxHeartbeats 1000000 in
theorem next_any (w : World) (A : Option Addr) (n c : Nat) (l : List Bool) (hn : l.length = n) (hA : RL w w.heap.size 1 A n (bools l)) (sn : n ≤ 4000000000000) :
    Calls Try.prog 18 #[.slice A n c] w (NewBL w (nextL l)) := by
  obtain ⟨i2, hi2, hz2, hs2, hy2⟩ := info_parts bool_info
  have hmk := fun W => run_make (P := Try.prog) W 23 4 i2 (.bool false) Try.underlying23 hi2 hz2 .i64 .i64 n n (by omega) (Int.le_refl _) (by rw [hy2]; omega) (by omega)
  have Hn := Lib.hid hn
  have HA := Lib.hid hA
  clear hn hA
  go_enter Try.func18, Try.ntmps18
  have hg0 : (w.alloc (.cells (madeCells #[.bool false] n) 4)).heap[w.heap.size]? = some (.cells (List.replicate n (Value.bool false)).toArray 4 (0, 0)) := by
    rw [heap_alloc_new, ← toList_madeCells_one]
  have hsrc : 0 < (bools l).length → (some (⟨w.heap.size, 0, none⟩ : Addr)) = some ⟨w.heap.size, 0, none⟩ ∧ ∃ ad, A = some ad ∧ ∀ j v, (bools l)[j]? = some v → (w.alloc (.cells (madeCells #[.bool false] n) 4)).cell? (ad.add j) = some v := by
    intro h0
    rw [bools_length, Hn.out] at h0
    obtain ⟨b, o, rfl, hb, hc⟩ := HA.out.at_ h0
    refine ⟨rfl, _, rfl, fun j v hv => ?_⟩
    have hj : j < n := by rw [← Hn.out, ← bools_length l]; exact (List.getElem?_eq_some_iff.1 hv).1
    rw [add_at, World.cell?_alloc_lt w _ ⟨b, o + j, none⟩ hb, hc j (by omega), hv]
  have Hg0 := Lib.hid hg0
  have Hsrc := Lib.hid hsrc
  clear hg0 hsrc
  go_wp2_with (refine wpList_copy_splice rfl (.tmp 8) (.tmp 9) _ _ rfl 4 Try.underlying23 bool_size (some ⟨w.heap.size, 0, none⟩) A n n n c rfl rfl w.heap.size 0 (List.replicate n (Value.bool false)) 4 Hg0.out (bools l) (by rw [bools_length, Hn.out]; exact (Nat.min_self n).symm) Hsrc.out (by rw [bools_length, Hn.out]; simp) (by intro v hv; unfold bools at hv; obtain ⟨b, _, rfl⟩ := List.mem_map.1 hv; rfl) w.heap.size w ((Below.refl _ _).alloc (Nat.le_refl _) _) (Nat.le_refl _) ?_; intro w1 hg1 hb1; have Hb1 := Lib.hid hb1; clear hb1)
  have ho1 : Own w1 w.heap.size 4 1 (.slice (some ⟨w.heap.size, 0, none⟩) n n) n (bools (flipped l 0)) := by
    have h := hg1.out
    rw [flipped_zero]
    refine ⟨by rw [bools_length, Hn.out]; simp, .inr ⟨_, n, _, rfl, Nat.le_refl _, h, Nat.le_refl _, by unfold maxLen; omega, ?_, ?_⟩⟩
    · have hl := bools_length l
      simp only [splice, List.size_toArray, List.length_append, List.length_take, List.length_drop, List.length_replicate]
      rw [hl, Hn.out]; omega
    · have hl := bools_length l
      simp only [splice, List.take_zero, List.nil_append, Nat.mul_one, Nat.zero_add]
      rw [show n = (bools l).length from by rw [hl, Hn.out]]
      exact List.take_left
  have Ho1 := Lib.hid ho1
  clear ho1 hg1 Hg0 Hsrc
  go_loopw [13] (fun i wr => ∃ j : Nat, j ≤ n ∧ i = .int .i64 j ∧ Hid (cy l j = true) ∧ Own wr w.heap.size 4 1 (.slice (some ⟨w.heap.size, 0, none⟩) n n) n (bools (flipped l j)) ∧ Below w.heap.size w wr) (fun i _ => (n - intOf i).toNat)
  case atStart => exact ⟨0, by omega, rfl, by simp [cy, Hid], Ho1.out, Hb1.out⟩
  case round =>
    obtain ⟨j, hj, rfl, hcy, hown, hb⟩ := hrel
    have Hown := Lib.hid hown
    have Hb := Lib.hid hb
    by_cases hlt : j < n
    · have hl : j < l.length := by rw [Hn.out]; exact hlt
      have hc := hown.cellAt j (by omega)
      have hf := hown.frozenAt j
      rw [show (bools (flipped l j))[j]? = some (.bool l[j]) from by unfold bools; rw [List.getElem?_map, flipped_get l j hl]; rfl] at hc
      have Hset := Lib.hid (flipped_set l j hl hcy.out)
      have Hstop := Lib.hid (flipped_stop l j hl)
      have Hcs := Lib.hid (cy_succ l j hl)
      have hbl := hb.size
      have hbl2 : w.heap.size < wr.heap.size := (hown.lt w.heap.size rfl).2
      generalize l[j] = x at *
      have ki : (j : Int) < (n : Int) := by omega
      have k0 : (0 : Int) ≤ (j : Int) := by omega
      clear hown hb hl
      cases x
      · go_wp2
        go_ret
        have ho := Hown.out.stored j (.bool true)
        rw [show (bools (flipped l j)).set j (.bool true) = bools (nextL l) from by
          have h1 := Hset.out
          rw [show (!false) = true from rfl] at h1
          rw [← Hstop.out (by simp), ← h1]; simp [bools, List.map_set]] at ho
        have hl := (nextL_length l).trans Hn.out
        exact ⟨_, n, by rw [hl]; rfl, by rw [hl]; exact ⟨Nat.le_refl _, ho.low⟩, by rw [hl]; exact RL.of_own ho, Hb.out.setCell (Nat.le_refl _) _⟩
      · go_wp2
        go_roundw
        case rel =>
          go_light
          refine ⟨j + 1, by omega, by go_num, ?_, ?_, Hb.out.setCell (Nat.le_refl _) _⟩
          · show cy l (j + 1) = true
            rw [Hcs.out, hcy.out]; rfl
          · have ho := Hown.out.stored j (.bool false)
            rw [show (bools (flipped l j)).set j (.bool false) = bools (flipped l (j + 1)) from by
              have h1 := Hset.out
              rw [show (!true) = false from rfl] at h1
              rw [← h1]; simp [bools, List.map_set]] at ho
            exact ho
        case measure => simp [intOf]; omega
    · have hjn : j = n := by omega
      subst hjn
      clear hown hb hcy
      go_wp2
      go_ret
      have hl := (nextL_length l).trans Hn.out
      have ho := Hown.out
      rw [show flipped l j = nextL l from by rw [← Hn.out]; exact flipped_end l] at ho
      exact ⟨_, j, by rw [hl]; rfl, by rw [hl]; exact ⟨Nat.le_refl _, ho.low⟩, by rw [hl]; exact RL.of_own ho, Hb.out⟩
end Go.Proofs.Ytaeifbkimagpdaa
