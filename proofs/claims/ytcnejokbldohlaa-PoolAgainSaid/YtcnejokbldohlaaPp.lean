/- PoolAgain: Take reuses the slot just released. -/
import Derived.Test.YtcnejokbldohlaaPo
namespace Go.Proofs.Ytcnejokbldohlaa
open Go.ChangeShapes Go.WideShapes Go.ChangeAt Go.RowKit
set_option linter.unusedVariables false
theorem Blk.node {w : World} {b t : Nat} {n : Nd} (h : Blk w b t n.cells.toArray) : w.cell? ⟨b, 0, none⟩ = some (.int .i64 n.id) ∧ w.cell? ⟨b, 1, none⟩ = some (.int .i64 n.var) ∧ w.cell? ⟨b, 2, none⟩ = some (.int .i64 n.lo) ∧ w.cell? ⟨b, 3, none⟩ = some (.int .i64 n.hi) ∧ w.cell? ⟨b, 4, none⟩ = some (.int .i64 n.refs) :=
  ⟨h.cell 0, h.cell 1, h.cell 2, h.cell 3, h.cell 4⟩
set_option maxRecDepth 100000 in
set_option maxHeartbeats 4000000 in
theorem again_any (room : Nat) (hr : room ≤ 255) (A : Option Addr) (L c : Nat) (us : List Int) (hus : us.length = L) (hu : ∀ x ∈ us, 0 ≤ x ∧ x ≤ 255) (n : Nd) (w : World) (hR : RL w w.heap.size 1 A L (us.map (Value.int .u8))) (hL : L ≤ 9223372036854775807) :
    Calls Try.prog 5 #[.int .u8 (room : Int), .slice A L c, n.val] w fun e w' => e = .returned (.bool true) ∧ Below w.heap.size w w' := by
  have Hus := Lib.hid hus
  have Hu := Lib.hid hu
  have HR := Lib.hid hR
  clear hus hu hR
  unfold Nd.val
  go_enter Try.func5, Try.ntmps5
  have hbox := Blk.new w 29 #[.int .i64 n.id, .int .i64 n.var, .int .i64 n.lo, .int .i64 n.hi, .int .i64 n.refs]
  have hz0 : (w.alloc (.cells #[.int .i64 n.id, .int .i64 n.var, .int .i64 n.lo, .int .i64 n.hi, .int .i64 n.refs] 29)).heap.size = w.heap.size + 1 := by simp
  have hb0 : Below w.heap.size w (w.alloc (.cells #[.int .i64 n.id, .int .i64 n.var, .int .i64 n.lo, .int .i64 n.hi, .int .i64 n.refs] 29)) := (Below.refl _ _).alloc (Nat.le_refl _) _
  have Hbox := Lib.hid (show Blk _ w.heap.size 29 n.cells.toArray from hbox)
  have Hz0 := Lib.hid hz0
  have Hb0 := Lib.hid hb0
  clear hbox hz0 hb0
  go_wp2_with fail
  generalize hM0 : (1 + (room : Int) % 40) = m0 at *
  obtain ⟨M, rfl⟩ := Int.eq_ofNat_of_zero_le (show 0 ≤ m0 by omega)
  have hM1 : 1 ≤ M := by omega
  have hM2 : M ≤ 40 := by omega
  clear hM0
  generalize (w.alloc (.cells #[.int .i64 n.id, .int .i64 n.var, .int .i64 n.lo, .int .i64 n.hi, .int .i64 n.refs] 29)) = W at *
  have hzW : w.heap.size < W.heap.size := by have := Hz0.out; omega
  refine (new_st (M : Int) W (by omega) (by omega)).mono ?_
  rintro e w1 ⟨g, F, rfl, h⟩
  have H := Lib.hid (show St W w1 g F (Ag M n 0) from h)
  clear h
  go_wp2_with fail
  go_loopw [10] (fun i wr => ∃ k : Nat, k ≤ M ∧ i = .int .i64 k ∧ ∃ F, St W wr g F (Ag M n k)) (fun i _ => (M - intOf i).toNat)
  case atStart => exact ⟨0, by omega, rfl, F, H.out⟩
  case round =>
    obtain ⟨k, hk, rfl, F1, hst⟩ := hrel
    clear H
    have H := Lib.hid hst
    clear hst
    obtain ⟨x0, x1, x2, x3, x4⟩ := (Hbox.out.below H.out.below hzW).node
    have hzr : w.heap.size < wr.heap.size := Nat.lt_of_lt_of_le hzW H.out.below.size
    by_cases hlt : k < M
    · obtain ⟨e1, e2⟩ := ag_take M n k hlt
      have E1 := Lib.hid e1
      have E2 := Lib.hid e2
      clear e1 e2
      go_wp2_with fail
      refine (take_st H.out n).mono ?_
      rw [E1.out, E2.out]
      rintro e w2 ⟨F2, rfl, h⟩
      have H2 := Lib.hid h
      clear h x0 x1 x2 x3 x4
      go_wp2_with fail
      go_roundw
      case rel => exact ⟨k + 1, by omega, by go_num, F2, H2.out⟩
      case measure => simp [intOf]; omega
    · obtain rfl : k = M := by omega
      clear hlt
      obtain ⟨e1, e2⟩ := ag_full k n n
      have E1 := Lib.hid e1
      have E2 := Lib.hid e2
      clear e1 e2
      go_wp2_with fail
      refine (take_st H.out n).mono ?_
      rw [E1.out, E2.out]
      rintro e w2 ⟨F2, rfl, h⟩
      have H2 := Lib.hid h
      clear h x0 x1 x2 x3 x4 E1 E2
      go_wp2_with fail
      go_loopw [15] (fun i wr => ∃ j : Nat, j ≤ L ∧ i = .int .i64 j ∧ ∃ F, St W wr g F (Ag k n k)) (fun i _ => (L - intOf i).toNat)
      case atStart => exact ⟨0, by omega, rfl, F2, H2.out⟩
      case round =>
        obtain ⟨j, hj, rfl, F3, hst⟩ := hrel
        clear H2
        have H := Lib.hid hst
        clear hst
        obtain ⟨x0, x1, x2, x3, x4⟩ := (Hbox.out.below H.out.below hzW).node
        have hzr : w.heap.size < wr.heap.size := Nat.lt_of_lt_of_le hzW H.out.below.size
        by_cases hgo : j < L ∧ j < 50
        · obtain ⟨hjL, hj50⟩ := hgo
          have hRr := HR.out.below (Hb0.out.trans (H.out.below.mono (by omega)))
          obtain ⟨b, o, rfl, hb, hc⟩ := hRr.at_ (by omega)
          have hjl : j < us.length := by rw [Hus.out]; exact hjL
          have hcj := hc j (by omega)
          rw [List.getElem?_map, List.getElem?_eq_getElem hjl] at hcj
          obtain ⟨u1, u2⟩ := Hu.out _ (List.getElem_mem hjl)
          generalize us[j] = x at *
          simp only [Option.map_some] at hcj
          have kj : (j : Int) < (L : Int) := by omega
          have k0 : (0 : Int) ≤ (j : Int) := by omega
          clear hc hjl hRr hb
          have m1 : 0 ≤ x % (k : Int) := Int.emod_nonneg _ (by omega)
          have m2 : x % (k : Int) < (k : Int) := Int.emod_lt_of_pos x (by omega)
          go_wp2_with fail
          generalize hid : (1 + x % (k : Int)) = id at *
          obtain ⟨q, rfl⟩ : ∃ q : Nat, id = (q : Int) + 1 := ⟨(id - 1).toNat, by omega⟩
          have hqk : q < k := by omega
          clear hid m1 m2 hcj u1 u2
          have G1 := Lib.hid (ag_is k n k q hqk)
          have G2 := Lib.hid (ag_give k n q hqk)
          have G3 := Lib.hid (ag_not k n q hqk)
          have G4 := Lib.hid (ag_give2 k n q hqk)
          obtain ⟨g5, g6⟩ := ag_take2 k n q hqk
          have G5 := Lib.hid g5
          have G6 := Lib.hid g6
          clear g5 g6 x0 x1 x2 x3 x4 hzr
          refine (give_st H.out ((q : Int) + 1)).mono ?_
          rw [G1.out, G2.out, if_pos rfl]
          rintro e w3 ⟨F4, rfl, h⟩
          have H3 := Lib.hid h
          clear h
          go_wp2_with fail
          refine (at_st H3.out ((q : Int) + 1)).mono ?_
          rw [G3.out]
          rintro e w4 ⟨F5, rfl, h⟩
          have H4 := Lib.hid h
          clear h H3
          unfold Nd.val
          generalize (Ag' k n q).node ((q : Int) + 1) = nd at *
          go_wp2_with fail
          refine (give_st (H4.out.more ((Below.refl _ _).alloc (Nat.le_refl _) _)) ((q : Int) + 1)).mono ?_
          rw [G3.out, G4.out, if_neg (by simp)]
          rintro e w5 ⟨F6, rfl, h⟩
          have H5 := Lib.hid h
          clear h H4
          obtain ⟨x0, x1, x2, x3, x4⟩ := (Hbox.out.below H5.out.below hzW).node
          have hzr : w.heap.size < w5.heap.size := Nat.lt_of_lt_of_le hzW H5.out.below.size
          go_wp2_with fail
          refine (take_st H5.out n).mono ?_
          rw [G5.out, G6.out]
          rintro e w6 ⟨F7, rfl, h⟩
          have H6 := Lib.hid h
          clear h H5 x0 x1 x2 x3 x4 hzr
          go_wp2_with fail
          go_roundw
          case rel => exact ⟨j + 1, by omega, by go_num, F7, H6.out⟩
          case measure => simp [intOf]; omega
        · have hor : L ≤ j ∨ (j < L ∧ 50 ≤ j) := by omega
          clear hgo x0 x1 x2 x3 x4
          rcases hor with hor | ⟨hor, hor2⟩
          all_goals
            go_wp2_with fail
            refine (all_any wr W.heap.size g F3 (Ag k n k) 99 H.out.at_ H.out.inv.ok H.out.at_.lt).mono ?_
            rw [show (99 : Int).toNat = 99 from rfl, ag_take99 k n hM2]
            rintro e w3 ⟨A2, c2, rfl, hc2, ho, hb⟩
            rw [List.length_map, List.length_range] at hc2 ho
            have Ho := Lib.hid ho
            have H3 := Lib.hid (H.out.more hb)
            have Hx := Lib.hid (Hbox.out.below H3.out.below hzW)
            have Hw3 := Lib.hid (Hb0.out.trans (H3.out.below.mono (by omega)))
            have Hg := Lib.hid (Chg.le H3.out.chg (B := W.heap.size) (by simp) (Nat.le_refl _))
            have hB0 : w.heap.size < wr.heap.size := hzr
            clear hb hc2 ho
            have hk40 : (k : Int) ≤ 40 := by omega
            rw [List.length_map, List.length_range]
            go_wp2_with fail
            go_loopw [24] (fun i wq => ∃ q : Nat, q ≤ k ∧ i = .int .i64 q ∧ ∃ d : Int, Blk wq w.heap.size 29 ({ n with id := d } : Nd).cells.toArray ∧ Below w.heap.size w wq ∧ PoolAt wq W.heap.size g F3 (Ag k n k) ∧ Own wq wr.heap.size 29 5 (.slice A2 k c2) k (nds ((List.range k).map (Ag1 n)))) (fun i _ => (k - intOf i).toNat)
            case atStart => exact ⟨0, by omega, rfl, n.id, Hx.out, Hw3.out, H3.out.at_, Ho.out⟩
            case round =>
              obtain ⟨q, hq, rfl, d, hx, hw, hp, ho⟩ := hrel
              have hzq : w.heap.size < wr.heap.size := hx.lt
              by_cases hlt : q < k
              · obtain ⟨b2, cc, hv, hbb, hbl, _, _, hcell, _⟩ := ho.form (by omega)
                injection hv with hv1 hv2 hv3
                subst hv1
                subst hv3
                have hg : ((List.range k).map (Ag1 n))[q]? = some (Ag1 n q) := by rw [List.getElem?_map, List.getElem?_range hlt]; rfl
                have dd : ∀ r, r < 5 → wr.cell? ⟨b2, q * 5 + r, none⟩ = (Ag1 n q).cells[r]? := fun r hr' => by
                  rw [hcell _ (by omega), nds_get _ q r _ hg hr']
                have d0 := dd 0 (by omega)
                have d1 := dd 1 (by omega)
                have d2 := dd 2 (by omega)
                have d3 := dd 3 (by omega)
                have d4 := dd 4 (by omega)
                simp only [Nd.cells, Ag1, List.getElem?_cons_succ, List.getElem?_cons_zero, Nat.add_zero] at d0 d1 d2 d3 d4
                obtain ⟨x0, x1, x2, x3, x4⟩ := hx.node
                have f0 := hx.frozen 0
                have kq : (q : Int) < (k : Int) := by omega
                have kq0 : (0 : Int) ≤ (q : Int) := by omega
                have nb : ¬ (b2 = w.heap.size) := by omega
                have nb' : ¬ (w.heap.size = b2) := by omega
                have Hp := Lib.hid hp
                have Hw := Lib.hid hw
                have Hxx := Lib.hid hx
                have Hoo := Lib.hid ho
                clear dd hcell hg hbb hbl hx hw hp ho
                go_wp2_with fail
                go_quiet (fail)
                go_wp2_with fail
                go_roundw
                case rel =>
                  go_light
                  have hB := Hw.out.setCell (p := ⟨w.heap.size, 0, none⟩) (Nat.le_refl _) (.int .i64 ((q : Int) + 1))
                  refine ⟨q + 1, by omega, by go_num, (q : Int) + 1, Hxx.out.set_ 0 _, ⟨hB.os, hB.tape, hB.output, hB.size, hB.block⟩, ?_, ?_⟩
                  · refine Hp.out.chg (((Chg.refl [w.heap.size] wr).setCell (p := ⟨w.heap.size, 0, none⟩) (by simp) _).drewN _) (fun b hb hm => ?_)
                    have := Hg.out b hb
                    simp at hm
                    omega
                  · exact (Hoo.out.far (p := ⟨w.heap.size, 0, none⟩) (by simp [Value.ownBlock]; omega) _).drewN _
                case measure => simp [intOf]; omega
              · obtain rfl : q = k := by omega
                have Hw := Lib.hid hw
                have Hp := Lib.hid hp
                clear hx hw hp ho
                go_wp2_with fail
                refine (len_any _ _ _ _ _ Hp.out).mono ?_
                rintro e w' ⟨rfl, rfl⟩
                rw [show (Ag q n q).many = (q : Int) from rfl]
                go_wp2_with fail
                refine (lives_any _).mono ?_
                rintro e w9 ⟨rfl, hb⟩
                have HB := Lib.hid (Hw.out.trans (hb.mono Hw.out.size))
                clear hb
                go_wp2
                go_ret
                exact ⟨rfl, HB.out⟩
end Go.Proofs.Ytcnejokbldohlaa
