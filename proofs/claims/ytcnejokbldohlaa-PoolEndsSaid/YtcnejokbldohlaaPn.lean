/- PoolEnds: the iteration can be stopped early. -/
import Derived.Test.YtcnejokbldohlaaPk
namespace Go.Proofs.Ytcnejokbldohlaa
open Go.ChangeShapes Go.WideShapes Go.ChangeAt Go.RowKit
set_option linter.unusedVariables false
def En1 (i : Nat) : Nd := ⟨(i : Int) + 1, i, 0, 0, 0⟩
/-- The pool of room 300 behind k calls of Take. -/
def En (k : Nat) : Pl := ⟨300, Nd.zero :: (List.range k).map En1, false :: List.replicate k true, [], k⟩
theorem en_zero : En 0 = Pl.new 300 := rfl
theorem en_take (k : Nat) (h : k ≤ 255) : TakeV (En k) = .tuple #[.int .i64 ((k : Int) + 1), .int .i64 0] ∧ (En k).take ⟨0, k, 0, 0, 0⟩ = En (k + 1) := by
  have hs : (En k).slot = some (k + 1, { En k with at_ := (En k).at_ ++ [Nd.zero], taken := (En k).taken ++ [false] }) := by
    unfold Pl.slot
    rw [if_pos (by rfl), if_neg (by simp [En]; omega)]
    simp [En]
  constructor
  · unfold TakeV; rw [hs]; simp
  · unfold Pl.take
    rw [hs]
    simp only [Pl.lay, En, List.cons_append, List.set_cons_succ]
    congr 1
    · rw [List.range_succ, List.map_append, List.set_append_right _ _ (by simp)]
      simp [En1]
    · rw [List.set_append_right _ _ (by simp), List.replicate_succ']
      simp
theorem en_tk (k j : Nat) (h : j < k) : (En k).taken.getD (j + 1) false = true := by
  simp [En, h]
theorem en_ids (k : Nat) : (En k).ids = (List.range k).map (· + 1) := by
  unfold Pl.ids
  have h : ∀ j, j ≤ k → (En k).upto (j + 1) = (List.range j).map (· + 1) := fun j => by
    induction j with
    | zero => intro _; simp [Pl.upto, En, List.range_succ]
    | succ j ih =>
      intro hj
      rw [Pl.upto_succ, ih (by omega), if_pos (en_tk k j (by omega)), List.range_succ, List.map_append]
      rfl
  have := h k (Nat.le_refl _)
  simpa [En] using this
theorem en_nodes (k : Nat) : (En k).nodes = (List.range k).map En1 := by
  unfold Pl.nodes
  rw [en_ids, List.map_map]
  apply List.map_congr_left
  intro i hi
  have := List.mem_range.1 hi
  simp [En, this]
theorem en_get (k m i : Nat) (h : i < ((En k).nodes.take m).length) : ((En k).nodes.take m)[i]? = some (En1 i) := by
  rw [en_nodes] at h ⊢
  simp only [List.length_take, List.length_map, List.length_range] at h
  rw [List.getElem?_take_of_lt (by omega), List.getElem?_map, List.getElem?_range (by omega)]
  rfl
theorem en_len (k m : Nat) : ((En k).nodes.take m).length = min m k := by rw [en_nodes]; simp
set_option maxHeartbeats 2000000 in
theorem ends_any (many most : Nat) (w : World) (h1 : many ≤ 255) (h2 : most ≤ 255) :
    Calls Try.prog 3 #[.int .u8 (many : Int), .int .u8 (most : Int)] w fun e w' => e = .returned (.bool true) ∧ Below w.heap.size w w' := by
  go_enter Try.func3, Try.ntmps3
  go_wp2_with fail
  refine (new_st 300 w (by omega) (by omega)).mono ?_
  rintro e w1 ⟨g, F, rfl, h⟩
  have H := Lib.hid (show St w w1 g F (En 0) from h)
  clear h
  go_wp2_with fail
  go_loopw [7] (fun i wr => ∃ k : Nat, k ≤ many ∧ i = .int .i64 k ∧ ∃ F, St w wr g F (En k)) (fun i _ => (many - intOf i).toNat)
  case atStart => exact ⟨0, by omega, rfl, F, H.out⟩
  case round =>
    obtain ⟨k, hk, rfl, F1, hst⟩ := hrel
    clear H
    have H := Lib.hid hst
    clear hst
    by_cases hlt : k < many
    · obtain ⟨e1, e2⟩ := en_take k (by omega)
      have E1 := Lib.hid e1
      have E2 := Lib.hid e2
      clear e1 e2
      go_wp2_with fail
      refine (take_st H.out ⟨0, k, 0, 0, 0⟩).mono ?_
      rw [E1.out, E2.out]
      rintro e w2 ⟨F2, rfl, h⟩
      have H2 := Lib.hid h
      clear h
      go_wp2_with fail
      go_roundw
      case rel => exact ⟨k + 1, by omega, by go_num, F2, H2.out⟩
      case measure => simp [intOf]; omega
    · obtain rfl : k = many := by omega
      go_wp2_with fail
      refine (all_any wr w.heap.size g F1 (En k) most H.out.at_ H.out.inv.ok H.out.at_.lt).mono ?_
      rw [Int.toNat_natCast]
      rintro e w2 ⟨A, c, rfl, hc, ho, hb⟩
      have hlen := en_len k most
      have hget := en_get k most
      have Hb := Lib.hid (H.out.below.trans (hb.mono H.out.below.size))
      have Hr := Lib.hid (RL.of_own ho)
      clear hc ho hb H
      generalize hl : ((En k).nodes.take most) = l at *
      generalize hn : l.length = n at *
      have Hlen := Lib.hid hlen
      have Hget := Lib.hid hget
      have Hn := Lib.hid hn
      have hn2 : (n : Int) ≤ 255 := by omega
      clear hlen hget hn hl
      go_wp2_with fail
      go_loop [11] (fun i => ∃ j : Nat, j ≤ n ∧ i = .int .i64 j) (fun i => (n - intOf i).toNat)
      case atStart => exact ⟨0, by omega, rfl⟩
      case round =>
        obtain ⟨j, hj, rfl⟩ := hrel
        by_cases hjn : j < n
        · obtain ⟨b, o, rfl, hb, hc⟩ := Hr.out.at_ (by omega)
          have hg := Hget.out j (by omega)
          have d : ∀ q, q < 5 → w2.cell? ⟨b, o + j * 5 + q, none⟩ = (En1 j).cells[q]? := fun q hq => by
            rw [Nat.add_assoc, hc _ (by omega), nds_get l j q _ hg hq]
          have d0 := d 0 (by omega)
          have d1 := d 1 (by omega)
          have d2 := d 2 (by omega)
          have d3 := d 3 (by omega)
          have d4 := d 4 (by omega)
          simp only [Nd.cells, En1, List.getElem?_cons_succ, List.getElem?_cons_zero, Nat.add_zero] at d0 d1 d2 d3 d4
          have kj : (j : Int) < (n : Int) := by omega
          have k0 : (0 : Int) ≤ (j : Int) := by omega
          clear d hc hg
          go_wp2_with fail
          go_round
          case rel => exact ⟨j + 1, by omega, by go_num⟩
          case measure => simp [intOf]; omega
        · obtain rfl : j = n := by omega
          have hj3 := Hlen.out
          clear Hlen Hget Hn Hr
          by_cases hmk : most < k
          · obtain rfl : j = most := by omega
            clear hj3
            go_wp2_with fail
            refine (lives_any _).mono ?_
            rintro e w3 ⟨rfl, hb⟩
            have HB := Lib.hid (Hb.out.trans (hb.mono Hb.out.size))
            clear hb
            go_wp2
            go_ret
            exact ⟨rfl, HB.out⟩
          · obtain rfl : j = k := by omega
            clear hj3
            go_wp2_with fail
            refine (lives_any _).mono ?_
            rintro e w3 ⟨rfl, hb⟩
            have HB := Lib.hid (Hb.out.trans (hb.mono Hb.out.size))
            clear hb
            go_wp2
            go_ret
            exact ⟨rfl, HB.out⟩
end Go.Proofs.Ytcnejokbldohlaa
