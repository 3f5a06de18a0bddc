/- Next, and the reference's. -/
import Derived.Test.YtaeifbkimagpdaaBd
namespace Go.Proofs.Ytaeifbkimagpdaa
set_option linter.unusedSimpArgs false
set_option linter.unusedVariables false
open Go.ChangeShapes Go.WideShapes Go.ChangeAt Go.RowKit
set_option linter.unusedVariables false
/-- Whether the carry reaches place i. -/
def cy (l : List Bool) (i : Nat) : Bool := (l.take i).all id
def nextL (l : List Bool) : List Bool := (List.range l.length).map fun i => l.getD i false != cy l i
theorem nextL_length (l : List Bool) : (nextL l).length = l.length := by simp [nextL]
theorem cy_succ (l : List Bool) (i : Nat) (h : i < l.length) : cy l (i + 1) = (cy l i && l[i]) := by
  unfold cy
  rw [List.take_add_one, List.getElem?_eq_getElem h, List.all_append]
  simp
theorem nextL_get (l : List Bool) (i : Nat) (h : i < l.length) : (nextL l)[i]? = some (l[i] != cy l i) := by
  simp [nextL, h]
theorem nextL_take_succ (l : List Bool) (i : Nat) (h : i < l.length) : (nextL l).take (i + 1) = (nextL l).take i ++ [l[i] != cy l i] := by
  rw [List.take_add_one, nextL_get l i h]; rfl
set_option maxHeartbeats 1000000 in
theorem rnext_any (w : World) (A : Option Addr) (n c : Nat) (l : List Bool) (hn : l.length = n) (hA : RL w w.heap.size 1 A n (bools l)) (sn : n ≤ 4000000000000) :
    Calls Try.prog 19 #[.slice A n c] w (NewBL w (nextL l)) := by
  obtain ⟨i2, hi2, hz2, hs2, hy2⟩ := info_parts bool_info
  have Hn := Lib.hid hn
  have HA := Lib.hid hA
  clear hn hA
  go_enter Try.func19, Try.ntmps19
  go_wp2
  go_loopw [3, 4, 5] (fun v cr i wr => ∃ j : Nat, j ≤ n ∧ i = .int .i64 j ∧ cr = .bool (cy l j) ∧ Own wr w.heap.size 4 1 v j (bools ((nextL l).take j)) ∧ Below w.heap.size w wr) (fun _ _ i _ => (n - intOf i).toNat)
  case atStart =>
    refine ⟨0, by omega, rfl, by simp [cy], ?_, (Below.refl _ _).alloc (Nat.le_refl _) _⟩
    exact Own.ofRow (World.ownsRow_lit (base := w.heap.size) (size := 1) (e := 4) w #[] 0 (Nat.le_refl _) (by unfold maxLen; omega) rfl)
  case round =>
    obtain ⟨j, hj, rfl, rfl, hown, hb⟩ := hrel
    obtain ⟨A1, c1, rfl, hc1⟩ := hown.shape
    have hbz := hb.size
    have hr := HA.out.below hb
    have Hown := Lib.hid hown
    have Hb := Lib.hid hb
    clear hown hb
    by_cases hlt : j < n
    · obtain ⟨b, o, rfl, hbw, hc⟩ := hr.at_ (by omega)
      have hl : j < l.length := by rw [Hn.out]; exact hlt
      have e1 := hc j (by omega)
      rw [bools_get _ _ hl] at e1
      have Hts := Lib.hid (nextL_take_succ l j hl)
      have Hcs := Lib.hid (cy_succ l j hl)
      generalize l[j] = x at *
      have ki : (j : Int) < (n : Int) := by omega
      have k0 : (0 : Int) ≤ (j : Int) := by omega
      have hbr : b < wr.heap.size := by omega
      have Hbw := Lib.hid hbw
      clear hc hl hr hbw
      generalize hcr : cy l j = cr at *
      have HB := Lib.hid Hbw.out
      clear hcr
      cases cr
      all_goals
        go_wp2_with (at_builtin; refine wpList_append_Own _ rfl (.tmp 13) (.tmp 20) _ rfl w.heap.size 4 i2 (.bool false) 1 1 Try.underlying23 hi2 hz2 hs2 hy2 rfl (by omega) (.slice A1 j c1) j (bools ((nextL l).take j)) rfl (Hown.out.alloc _) ⟨wr.heap.size, 0, none⟩ 1 1 [.bool _] rfl rfl (cell_one_new wr _ _) (by intro u hu; simp at hu; subst hu; rfl) (by unfold maxLen; omega) (by omega) (by simp; omega) ?_; intro v1 w1 hown1 hgrow hat; have e2 : w1.cell? ⟨b, o + j, none⟩ = some (.bool x) := (World.cell?_of_block (w := wr.alloc _) (a := ⟨b, o + j, none⟩) (hgrow.block b (by simp; omega) (fun e => by have := (Hown.out.lt b e.symm).1; have := HB.out; omega))).trans ((World.cell?_alloc_lt wr _ ⟨b, o + j, none⟩ hbr).trans e1); have Hown1 := Lib.hid hown1; have Hgrow := Lib.hid hgrow; clear hown1 hgrow hat)
        go_roundw
        case rel =>
          go_light
          refine ⟨j + 1, by omega, by go_num, by rw [Hcs.out]; simp, ?_, ?_⟩
          · have h := Hown1.out
            rw [Hts.out]
            simpa [bools] using h
          · exact ((Hb.out.alloc hbz _).grown Hgrow.out (by simp; omega) (fun g hg => ((Hown.out.lt g hg).1)))
        case measure => simp [intOf]; omega
    · have hjn : j = n := by omega
      subst hjn
      have hl := nextL_length l
      rw [Hn.out] at hl
      have Hl := Lib.hid hl
      clear hr hl
      go_wp2
      go_ret
      have ho := Hown.out
      rw [List.take_of_length_le (by rw [Hl.out]; exact Nat.le_refl _)] at ho
      refine ⟨A1, c1, by rw [Hl.out]; rfl, by rw [Hl.out]; exact ⟨hc1, ho.low⟩, by rw [Hl.out]; exact RL.of_own ho, Hb.out⟩
end Go.Proofs.Ytaeifbkimagpdaa
