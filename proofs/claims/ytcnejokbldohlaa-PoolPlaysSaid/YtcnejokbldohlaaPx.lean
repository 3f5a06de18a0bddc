/- The reference's All; the law's same, of equal lists. -/
import Derived.Test.YtcnejokbldohlaaPw
namespace Go.Proofs.Ytcnejokbldohlaa
set_option linter.unusedSimpArgs false
set_option linter.unusedVariables false
open Go.ChangeShapes Go.WideShapes Go.ChangeAt Go.RowKit
set_option linter.unusedVariables false
def Rf.upto (r : Rf) (j : Nat) : List Nd := (((r.nodes.zip r.taken).take j).filter (·.2)).map (·.1)
def Rf.all (r : Rf) : List Nd := r.upto r.nodes.length
theorem Rf.upto_succ (r : Rf) (j : Nat) (h1 : j < r.nodes.length) (h2 : j < r.taken.length) : r.upto (j + 1) = r.upto j ++ (if r.taken[j] = true then [r.nodes[j]] else []) := by
  unfold Rf.upto
  rw [List.take_add_one, List.getElem?_eq_getElem (by simp; omega), List.filter_append, List.map_append]
  congr 1
  simp only [Option.toList_some, List.getElem_zip]
  cases hb : r.taken[j] <;> simp
theorem Rf.upto_length (r : Rf) (j : Nat) : (r.upto j).length ≤ j := by
  unfold Rf.upto
  rw [List.length_map]
  exact Nat.le_trans (List.length_filter_le _ _) (by simp; omega)
set_option maxHeartbeats 2000000 in
theorem rall_any (w : World) (S : Nat → Prop) (A1 : Option Addr) (c1 : Nat) (A2 : Option Addr) (c2 : Nat) (A3 : Option Addr) (c3 : Nat) (r : Rf) (h : RefAt w S A1 c1 A2 c2 A3 c3 r) (hr : r.ok) :
    Calls Try.prog 33 #[r.val A1 c1 A2 c2 A3 c3] w (NewNL w r.all) := by
  obtain ⟨i3, hi3, hz3, hs3, hy3⟩ := info_parts node_info
  have Hh := Lib.hid h
  have hlim := hr.lim
  have hlen := hr.len
  have Hr := Lib.hid hr
  have hl : (r.nodes.length : Int) ≤ 1000000 := by omega
  have hl2 : r.nodes.length ≤ 1000000 := by omega
  have Hln := Lib.hid hlen
  clear h hr hlim hlen
  unfold Rf.val
  go_enter Try.func33, Try.ntmps33
  go_wp2_with fail
  go_loopw [3, 4] (fun v i wr => ∃ j : Nat, j ≤ r.nodes.length ∧ i = .int .i64 j ∧ Own wr w.heap.size 29 5 v (r.upto j).length (nds (r.upto j)) ∧ Below w.heap.size w wr ∧ Blk wr w.heap.size 53 #[.int .i64 r.room, .slice A1 r.nodes.length c1, .slice A2 r.taken.length c2, .slice A3 r.free.length c3]) (fun _ i _ => (r.nodes.length - intOf i).toNat)
  case atStart =>
    refine ⟨0, by omega, rfl, ?_, ((Below.refl _ _).alloc (Nat.le_refl _) _).alloc (by simp) _, (Blk.new w _ _).alloc _⟩
    exact lit_nodes (by simp) (by omega)
  case round =>
    obtain ⟨j, hj, rfl, hown, hb, hbx⟩ := hrel
    obtain ⟨A4, c4, rfl, hcap⟩ := hown.shape
    have hsz := hb.size
    have hlx := hbx.lt
    have y1 : wr.cell? ⟨w.heap.size, 1, none⟩ = some (.slice A1 r.nodes.length c1) := hbx.cell 1
    have y2 : wr.cell? ⟨w.heap.size, 2, none⟩ = some (.slice A2 r.taken.length c2) := hbx.cell 2
    have hrr := Hh.out.below hb
    have Hown := Lib.hid hown
    have Hb := Lib.hid hb
    have Hbx := Lib.hid hbx
    have hup := r.upto_length j
    clear hown hb hbx
    by_cases hlt : j < r.nodes.length
    · have hlt2 : j < r.taken.length := by rw [← Hln.out]; exact hlt
      obtain ⟨b2, o2, rfl, _, hb2, hc2⟩ := hrr.tk.2 (by omega)
      obtain ⟨b1, o1, rfl, _, hb1, hc1⟩ := hrr.nd.2 (by omega)
      have d5 := hc2 j (by omega)
      rw [bools_get _ _ _ (List.getElem?_eq_getElem hlt2)] at d5
      have dd : ∀ q, q < 5 → wr.cell? ⟨b1, o1 + j * 5 + q, none⟩ = r.nodes[j].cells[q]? := fun q hq => by
        rw [Nat.add_assoc, hc1 _ (by omega), nds_get _ j q _ (List.getElem?_eq_getElem hlt) hq]
      have d0 := dd 0 (by omega)
      have d1 := dd 1 (by omega)
      have d2 := dd 2 (by omega)
      have d3 := dd 3 (by omega)
      have d4 := dd 4 (by omega)
      have Hs := Lib.hid (r.upto_succ j hlt hlt2)
      generalize r.nodes[j] = x at *
      generalize r.taken[j] = tb at *
      simp only [Nd.cells, List.getElem?_cons_succ, List.getElem?_cons_zero, Nat.add_zero] at d0 d1 d2 d3 d4
      have k0 : (0 : Int) ≤ (j : Int) := by omega
      have k1 : (j : Int) < (r.nodes.length : Int) := by omega
      have k2 : (j : Int) < (r.taken.length : Int) := by omega
      clear dd hc1 hc2 hrr hlt2
      cases tb
      · go_wp2_with fail
        go_roundw
        case rel => exact ⟨j + 1, by omega, by go_num, by rw [Hs.out]; simpa using Hown.out, Hb.out, Hbx.out⟩
        case measure => simp [intOf]; omega
      · go_wp2_with (at_builtin; refine Held.in_ ?_)
        refine Held.out ?_
        have hne := Hown.out.ne_blk Hbx.out (by decide)
        refine wpList_append_R _ rfl (.tmp 18) (.tmp 24) _ rfl w.heap.size 29 i3 (.agg #[.int .i64 0, .int .i64 0, .int .i64 0, .int .i64 0, .int .i64 0]) 5 40 Try.underlying30 hi3 hz3 hs3 hy3 rfl (by omega) (.slice A4 (r.upto j).length c4) (r.upto j).length (nds (r.upto j)) rfl (Hown.out.alloc _) (fun _ => True) (some ⟨wr.heap.size, 0, none⟩) 1 1 x.cells rfl (RQ.five (Blk.new wr _ _)) ?c1 (by unfold maxLen; omega) (by omega) ?c4 ?_
        case c1 => exact fun u hu => one_nds [x] u (by simpa [nds] using hu)
        case c4 => simp only [World.size_alloc]; omega
        intro A5 c5 w5 hown hcap5 hgrow hat
        have hbx := (Hbx.out.alloc _).grown hgrow (fun e => hne e.symm)
        have hB := (Hb.out.alloc hsz _).grown hgrow (by simp only [World.size_alloc]; omega) (fun g hg => (Hown.out.lt g hg).1)
        rw [← nds_snoc] at hown
        have Hown5 := Lib.hid hown
        have Hbx5 := Lib.hid hbx
        have HB5 := Lib.hid hB
        clear hown hbx hB hgrow hat hcap5 hne
        go_wp2_with fail
        go_roundw
        case rel => exact ⟨j + 1, by omega, by go_num, by rw [Hs.out]; simpa using Hown5.out, HB5.out, Hbx5.out⟩
        case measure => simp [intOf]; omega
    · have hjn : j = r.nodes.length := by omega
      subst hjn
      clear hrr
      go_wp2
      go_ret
      exact ⟨A4, c4, rfl, hcap, Hown.out, Hb.out⟩
set_option maxHeartbeats 1000000 in
theorem lsame_any (w : World) (B : Nat) (A C : Option Addr) (ca cb n : Nat) (l : List Nd) (hn : l.length = n) (hA : RL w B 5 A n (nds l)) (hC : RL w B 5 C n (nds l)) (sn : n ≤ 4000000000) :
    Calls Try.prog 32 #[.slice A n ca, .slice C n cb] w fun e w' => e = .returned (.bool true) ∧ ∃ k, w' = w.drewN k := by
  have hne : ((n : Int) != (n : Int)) = false := by simp
  have Hn := Lib.hid hn
  have HA := Lib.hid hA
  have HC := Lib.hid hC
  clear hn hA hC
  go_enter Try.func32, Try.ntmps32
  go_wp2
  go_loopw [5] (fun i wr => ∃ k j : Nat, k ≤ n ∧ i = .int .i64 k ∧ wr = w.drewN j) (fun i _ => (n - intOf i).toNat)
  case atStart => exact ⟨0, 0, by omega, rfl, rfl⟩
  case round =>
    obtain ⟨k, j, hk, rfl, rfl⟩ := hrel
    by_cases hlt : k < n
    · obtain ⟨b, o, rfl, _, hc⟩ := HA.out.at_ (by omega)
      obtain ⟨b', o', rfl, _, hc'⟩ := HC.out.at_ (by omega)
      have hl : k < l.length := by rw [Hn.out]; exact hlt
      have g := List.getElem?_eq_getElem hl
      have d : ∀ q, q < 5 → w.cell? ⟨b, o + k * 5 + q, none⟩ = l[k].cells[q]? := fun q hq => by
        rw [Nat.add_assoc, hc _ (by omega), nds_get l k q _ g hq]
      have d' : ∀ q, q < 5 → w.cell? ⟨b', o' + k * 5 + q, none⟩ = l[k].cells[q]? := fun q hq => by
        rw [Nat.add_assoc, hc' _ (by omega), nds_get l k q _ g hq]
      have d0 := d 0 (by omega)
      have d1 := d 1 (by omega)
      have d2 := d 2 (by omega)
      have d3 := d 3 (by omega)
      have d4 := d 4 (by omega)
      have e0 := d' 0 (by omega)
      have e1 := d' 1 (by omega)
      have e2 := d' 2 (by omega)
      have e3 := d' 3 (by omega)
      have e4 := d' 4 (by omega)
      generalize l[k] = x at *
      simp only [Nd.cells, List.getElem?_cons_succ, List.getElem?_cons_zero, Nat.add_zero] at d0 d1 d2 d3 d4 e0 e1 e2 e3 e4
      have k1 : (k : Int) < (n : Int) := by omega
      have k0 : (0 : Int) ≤ (k : Int) := by omega
      clear hc hc' hl g d d'
      go_wp2_with fail
      go_quiet (fail)
      go_wp2
      go_roundw
      case rel => exact ⟨k + 1, _, by omega, by go_num, rfl⟩
      case measure => simp [intOf]; omega
    · go_wp2
      go_ret
      exact ⟨rfl, _, rfl⟩
end Go.Proofs.Ytcnejokbldohlaa
