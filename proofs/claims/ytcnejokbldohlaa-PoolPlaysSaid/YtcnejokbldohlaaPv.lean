/- The reference's pools: Take of a released slot. -/
import Derived.Test.YtcnejokbldohlaaPu
namespace Go.Proofs.Ytcnejokbldohlaa
set_option linter.unusedSimpArgs false
set_option linter.unusedVariables false
open Go.ChangeShapes Go.WideShapes Go.ChangeAt Go.RowKit
set_option linter.unusedVariables false
attribute [local go_sem ↓] Go.wp_at_zero Go.wp_at_succ
theorem RQ.of_ownB {w : World} {base e c size n : Nat} {A : Option Addr} {xs : List Value} (h : Own w base e size (.slice A n c) n xs) : RQ w (fun b => base ≤ b ∧ (Value.slice A n c).ownBlock = some b) size A n xs := by
  refine ⟨h.1, fun hn => ?_⟩
  obtain ⟨g, cap, hv, hb, hlt, _, _, hcell, _⟩ := h.form hn
  injection hv with hA
  subst hA
  exact ⟨g, 0, rfl, ⟨hb, rfl⟩, hlt, fun k hk => by rw [Nat.zero_add]; exact hcell k hk⟩
theorem RQ.cut {w : World} {S : Nat → Prop} {A : Option Addr} {n m : Nat} {xs : List Value} (h : RQ w S 1 A n xs) (hm : m ≤ n) : RQ w S 1 A m (xs.take m) :=
  ⟨by rw [List.length_take, h.1]; omega, fun h0 => by
    obtain ⟨b, o, e, hs, hb, hc⟩ := h.2 (by omega)
    exact ⟨b, o, e, hs, hb, fun k hk => by rw [hc k (by omega), List.getElem?_take_of_lt (by omega)]⟩⟩
theorem RefAt.drew {w : World} {S : Nat → Prop} {A1 : Option Addr} {c1 : Nat} {A2 : Option Addr} {c2 : Nat} {A3 : Option Addr} {c3 : Nat} {r : Rf} (h : RefAt w S A1 c1 A2 c2 A3 c3 r) : RefAt w.drew S A1 c1 A2 c2 A3 c3 r := h.keep (Nat.le_refl _) fun _ _ _ => rfl
set_option maxHeartbeats 4000000 in
theorem rtake_free (w : World) (S : Nat → Prop) (A1 : Option Addr) (c1 : Nat) (A2 : Option Addr) (c2 : Nat) (A3 : Option Addr) (c3 : Nat) (room : Int) (nodes : List Nd) (taken : List Bool) (fl : List Int) (k : Nat) (n : Nd) (h : RefAt w S A1 c1 A2 c2 A3 c3 ⟨room, nodes, taken, fl ++ [(k : Int) + 1]⟩) (hr : (⟨room, nodes, taken, fl ++ [(k : Int) + 1]⟩ : Rf).ok)
    (hf : (taken.count true : Int) < room) (hk : k < taken.length) :
    Calls Try.prog 50 #[(⟨room, nodes, taken, fl ++ [(k : Int) + 1]⟩ : Rf).val A1 c1 A2 c2 A3 c3, n.val] w (RPost w S (WithIds ((k : Int) + 1) 0) ⟨room, nodes.set k { n with id := (k : Int) + 1 }, taken.set k true, fl⟩) := by
  have Hh := Lib.hid h
  have Hr := Lib.hid hr
  have Hk := Lib.hid hk
  have C1 := Lib.hid (fun (w' : World) (hb : Below w.heap.size w w') => rlen_any w' S A1 c1 A2 c2 A3 c3 _ (h.below hb) hr)
  clear h hr hk
  obtain ⟨n0, n1, n2, n3, n4⟩ := n
  unfold Rf.val Rf.len at C1
  unfold Rf.val Nd.val
  simp only [List.length_append, List.length_cons, List.length_nil, Nat.zero_add] at C1 ⊢
  generalize hq : (List.count true taken : Int) = q at *
  clear hq
  go_enter Try.func50, Try.ntmps50
  go_wp2_with fail
  have hB := Lib.hid ((((Below.refl w.heap.size w).alloc (Nat.le_refl _) (.cells #[.int .i64 room, .slice A1 nodes.length c1, .slice A2 taken.length c2, .slice A3 (fl.length + 1) c3] 53)).alloc (by simp only [World.size_alloc]; omega) (.cells #[.int .i64 n0, .int .i64 n1, .int .i64 n2, .int .i64 n3, .int .i64 n4] 29)).alloc (by simp only [World.size_alloc]; omega) (.cells #[.int .i64 0, .slice none 0 0, .slice none 0 0, .slice none 0 0] 53))
  have hb0 := ((Blk.new w 53 #[.int .i64 room, .slice A1 nodes.length c1, .slice A2 taken.length c2, .slice A3 (fl.length + 1) c3]).alloc (.cells #[.int .i64 n0, .int .i64 n1, .int .i64 n2, .int .i64 n3, .int .i64 n4] 29)).alloc (.cells #[.int .i64 0, .slice none 0 0, .slice none 0 0, .slice none 0 0] 53)
  have hb1 := (Blk.new (w.alloc (.cells #[.int .i64 room, .slice A1 nodes.length c1, .slice A2 taken.length c2, .slice A3 (fl.length + 1) c3] 53)) 29 #[.int .i64 n0, .int .i64 n1, .int .i64 n2, .int .i64 n3, .int .i64 n4]).alloc (.cells #[.int .i64 0, .slice none 0 0, .slice none 0 0, .slice none 0 0] 53)
  have hb2 := Blk.new ((w.alloc (.cells #[.int .i64 room, .slice A1 nodes.length c1, .slice A2 taken.length c2, .slice A3 (fl.length + 1) c3] 53)).alloc (.cells #[.int .i64 n0, .int .i64 n1, .int .i64 n2, .int .i64 n3, .int .i64 n4] 29)) 53 #[.int .i64 0, .slice none 0 0, .slice none 0 0, .slice none 0 0]
  simp only [World.size_alloc] at hb1 hb2
  generalize (((w.alloc (.cells #[.int .i64 room, .slice A1 nodes.length c1, .slice A2 taken.length c2, .slice A3 (fl.length + 1) c3] 53)).alloc (.cells #[.int .i64 n0, .int .i64 n1, .int .i64 n2, .int .i64 n3, .int .i64 n4] 29)).alloc (.cells #[.int .i64 0, .slice none 0 0, .slice none 0 0, .slice none 0 0] 53)) = w3 at *
  obtain ⟨⟨y0, y1, y2, y3⟩, fy0, fy1, fy2, fy3⟩ := hb0.pool
  have Hb2 := Lib.hid hb2
  have Hb0 := Lib.hid hb0
  have Hb1 := Lib.hid hb1
  clear hb2 hb0 hb1
  go_region_held3 (fun w' => w'.cell? ⟨w.heap.size, 0, none⟩ = some (.int .i64 room) ∧ w'.cell? ⟨w.heap.size, 1, none⟩ = some (.slice A1 nodes.length c1) ∧ w'.cell? ⟨w.heap.size, 2, none⟩ = some (.slice A2 taken.length c2) ∧ w'.cell? ⟨w.heap.size, 3, none⟩ = some (.slice A3 (fl.length + 1) c3)) (first | exact ⟨y0', y1', y2', y3'⟩ | exact ⟨y0, y1, y2, y3⟩ | go_keep)
    ((go_at_call 30; refine (C1.out _ hB.out.drew).mono ?_; rintro e w4 ⟨rfl, hb⟩; have hb0' := Hb0.out.drew.below hb Hb0.out.lt; have hb2' := Hb2.out.drew.below hb Hb2.out.lt; have hb1' := Hb1.out.drew.below hb Hb1.out.lt; have HB4 := Lib.hid (hB.out.drew.trans (hb.mono hB.out.drew.size)); obtain ⟨⟨y0', y1', y2', y3'⟩, fy0', fy1', fy2', fy3'⟩ := hb0'.pool; have Hlt4 := Lib.hid hb2'.lt; have Hb1' := Lib.hid hb1'; have Hb0' := Lib.hid hb0'; have Hb2' := Lib.hid hb2'; clear hb hb0' hb1' hb2'))
  clear y0 y1 y2 y3 fy0 fy1 fy2 fy3 Hb0 Hb1 Hb2
  obtain ⟨i1, hi1, hz1, hs1, hy1⟩ := info_parts bool_info
  obtain ⟨i2, hi2, hz2, hs2, hy2⟩ := info_parts int_info
  have h := Hh.out
  have hr := Hr.out
  have hk := Hk.out
  have hn2 : (taken.length : Int) ≤ 1000000 := by have := hr.lim; simp only at this; omega
  have hn2' : taken.length ≤ 1000000 := by omega
  have hn1 : nodes.length = taken.length := hr.len
  have hn3 : fl.length + 1 ≤ 1000000 := by have := hr.limf; simp at this; omega
  have e1 : (k : Int) + 1 - 1 = (k : Int) := by omega
  have k0 : (0 : Int) ≤ (k : Int) := by omega
  have k1 : (k : Int) < (taken.length : Int) := by omega
  have m0 : (0 : Int) ≤ (fl.length : Int) := by omega
  have hcf : fl.length + 1 ≤ c3 := by have := h.cf; simpa using this
  have m1 : (fl.length : Int) ≤ (c3 : Int) := by omega
  have m2 : (fl.length : Int) < (fl.length : Int) + 1 := by omega
  obtain ⟨b3, o3, rfl, _, hb3, hc3⟩ := h.fr.2 (by simp)
  have cw := hc3 fl.length (by simp)
  simp only [ints, List.map_append, List.map_cons, List.map_nil] at cw
  rw [List.getElem?_append_right (by simp)] at cw
  simp at cw
  have Hcw := Lib.hid cw
  have Hn1 := Lib.hid hn1
  clear h hr hk cw hc3 hn1
  have hlt0 : w.heap.size < w4.heap.size := by have := Hlt4.out; omega
  have hlt1 : w.heap.size + 1 < w4.heap.size := by have := Hlt4.out; omega
  have hlt2 : w.heap.size + 1 + 1 < w4.heap.size := Hlt4.out
  go_wp2_with (at_builtin; refine Held.in_ ?_)
  refine Held.out ?_
  refine wpList_append_R _ rfl (.tmp 15) (.tmp 17) _ rfl w.heap.size 4 i1 (.bool false) 1 1 Try.underlying50 hi1 hz1 hs1 hy1 rfl (by omega) (.slice (some ⟨w4.heap.size, 0, none⟩) 0 0) 0 [] rfl (lit_bools rfl ?c5) S A2 taken.length c2 (bools taken) rfl ((Hh.out.below HB4.out).tk.keep ?c2 ?c3) (one_bools _) (by unfold maxLen; omega) (by omega) ?c4 ?_
  case c5 => omega
  case c2 => simp only [World.size_alloc]; omega
  case c3 => exact fun b _ hb => Below.heap_alloc _ _ _ hb
  case c4 => simp only [World.size_alloc]; omega
  intro A5 c5 w5 hown hcap hgrow hat
  have hb0 := (Hb0'.out.alloc _).grown hgrow (by simp [Value.ownBlock]; omega)
  have hb1 := (Hb1'.out.alloc _).grown hgrow (by simp [Value.ownBlock]; omega)
  have hb2 := (Hb2'.out.alloc _).grown hgrow (by simp [Value.ownBlock]; omega)
  have hB5 := (HB4.out.alloc (by omega) _).grown hgrow (by simp only [World.size_alloc]; omega) (fun g hg => by simp [Value.ownBlock] at hg; omega)
  have hs5 : w4.heap.size < w5.heap.size := by have := hgrow.size; simp only [World.size_alloc] at this; omega
  simp only [World.size_alloc, List.nil_append, Nat.zero_add] at hown hcap hat
  obtain ⟨g5, cc, hv, hg5, hglt, _, hcm, hcell, hfro⟩ := hown.form (by omega)
  injection hv with hv1 hv2 hv3
  subst hv1
  subst hv3
  have hg6 : w4.heap.size ≤ g5 := by
    simp [Value.ownBlock] at hat
    omega
  have d0 : w5.cell? ⟨g5, k, none⟩ = some (.bool taken[k]) := by rw [hcell _ (by omega), bools_get _ k _ (List.getElem?_eq_getElem Hk.out)]; rfl
  generalize taken[k] = tb at *
  have f0 := hfro k
  have dw : w5.cell? ⟨b3, o3 + fl.length, none⟩ = some (.int .i64 ((k : Int) + 1)) := (hB5.cell (p := ⟨b3, o3 + fl.length, none⟩) hb3).trans Hcw.out
  obtain ⟨⟨y0, y1, y2, y3⟩, fy0, fy1, fy2, fy3⟩ := hb0.pool
  obtain ⟨x0, x1, x2, x3, x4⟩ := hb1.node5
  have fx0 := hb1.frozen 0
  have ne0 : ¬ (g5 = w.heap.size) := by omega
  have ne0' : ¬ (w.heap.size = g5) := by omega
  have ne1 : ¬ (g5 = w.heap.size + 1) := by omega
  have ne1' : ¬ (w.heap.size + 1 = g5) := by omega
  have hlt50 : w.heap.size < w5.heap.size := by omega
  have hlt51 : w.heap.size + 1 < w5.heap.size := by omega
  have hlt52 : w.heap.size + 1 + 1 < w5.heap.size := by omega
  have Hown := Lib.hid hown
  have Hcap := Lib.hid hcap
  have Hb0 := Lib.hid hb0
  have Hb1 := Lib.hid hb1
  have Hb2 := Lib.hid hb2
  have HB5 := Lib.hid hB5
  clear hown hcap hgrow hat hcell hfro hb0 hb1 hb2 hB5 y0' y1' y2' y3' fy0' fy1' fy2' fy3' Hb0' Hb1' Hb2' HB4
  go_wp2_with (at_builtin; refine Held.in_ ?_)
  refine Held.out ?_
  have g1 : w.heap.size ≤ w.heap.size + 1 := by omega
  have ho6 := ((Hown.out.far (p := ⟨w.heap.size + 1, 0, none⟩) (by simp [Value.ownBlock]; omega) (.int .i64 ((k : Int) + 1))).stored k (.bool true)).far (p := ⟨w.heap.size, 2, none⟩) (by simp [Value.ownBlock]; omega) (.slice (some ⟨g5, 0, none⟩) taken.length c5)
  rw [bools_set] at ho6
  have hb06 := ((Hb0.out.far (p := ⟨w.heap.size + 1, 0, none⟩) (by show w.heap.size ≠ w.heap.size + 1; omega) (.int .i64 ((k : Int) + 1))).far (p := ⟨g5, k, none⟩) ne0' (.bool true)).set_ 2 (.slice (some ⟨g5, 0, none⟩) taken.length c5)
  have hb16 := ((Hb1.out.set_ 0 (.int .i64 ((k : Int) + 1))).far (p := ⟨g5, k, none⟩) ne1' (.bool true)).far (p := ⟨w.heap.size, 2, none⟩) (by show w.heap.size + 1 ≠ w.heap.size; omega) (.slice (some ⟨g5, 0, none⟩) taken.length c5)
  have hb26 := ((Hb2.out.far (p := ⟨w.heap.size + 1, 0, none⟩) (by show w.heap.size + 1 + 1 ≠ w.heap.size + 1; omega) (.int .i64 ((k : Int) + 1))).far (p := ⟨g5, k, none⟩) (by show w.heap.size + 1 + 1 ≠ g5; omega) (.bool true)).far (p := ⟨w.heap.size, 2, none⟩) (by show w.heap.size + 1 + 1 ≠ w.heap.size; omega) (.slice (some ⟨g5, 0, none⟩) taken.length c5)
  have hB6 := ((HB5.out.setCell (p := ⟨w.heap.size + 1, 0, none⟩) g1 (.int .i64 ((k : Int) + 1))).setCell (p := ⟨g5, k, none⟩) hg5 (.bool true)).setCell (p := ⟨w.heap.size, 2, none⟩) (Nat.le_refl _) (.slice (some ⟨g5, 0, none⟩) taken.length c5)
  have hsz6 : (((w5.setCell ⟨w.heap.size + 1, 0, none⟩ (.int .i64 ((k : Int) + 1))).setCell ⟨g5, k, none⟩ (.bool true)).setCell ⟨w.heap.size, 2, none⟩ (.slice (some ⟨g5, 0, none⟩) taken.length c5)).heap.size = w5.heap.size := by simp
  simp only [List.setIfInBounds_toArray, List.set_cons_succ, List.set_cons_zero] at hb06 hb16
  generalize (((w5.setCell ⟨w.heap.size + 1, 0, none⟩ (.int .i64 ((k : Int) + 1))).setCell ⟨g5, k, none⟩ (.bool true)).setCell ⟨w.heap.size, 2, none⟩ (.slice (some ⟨g5, 0, none⟩) taken.length c5)) = w6 at *
  clear d0 f0 dw y0 y1 y2 y3 fy0 fy1 fy2 fy3 x0 x1 x2 x3 x4 fx0 Hown Hb0 Hb1 Hb2 HB5
  have hrq := (((Hh.out.below hB6).fr).cut (m := fl.length) (by simp))
  have hft : (ints (fl ++ [(k : Int) + 1])).take fl.length = ints fl := by simp [ints]
  simp only [hft] at hrq
  refine wpList_append_R _ rfl (.tmp 38) (.tmp 42) _ rfl w.heap.size 3 i2 (.int .i64 0) 1 8 Try.underlying51 hi2 hz2 hs2 hy2 rfl (by omega) (.slice (some ⟨w5.heap.size, 0, none⟩) 0 0) 0 [] rfl (lit_ints hsz6 ?c5) S (some ⟨b3, o3, none⟩) fl.length c3 (ints fl) rfl (hrq.keep ?c2 ?c3) (one_ints _) (by unfold maxLen; omega) (by omega) ?c4 ?_
  case c5 => omega
  case c2 => simp only [World.size_alloc]; omega
  case c3 => exact fun b _ hb => Below.heap_alloc _ _ _ hb
  case c4 => simp only [World.size_alloc]; omega
  intro A7 c7 w7 hown hcap hgrow hat
  have ho7 := (ho6.alloc _).kept hgrow (.inr (by have := (ho6.lt g5 rfl).2; simp [Value.ownBlock]; omega))
  have hb07 := (hb06.alloc _).grown hgrow (by simp [Value.ownBlock]; omega)
  have hb17 := (hb16.alloc _).grown hgrow (by simp [Value.ownBlock]; omega)
  have hb27 := (hb26.alloc _).grown hgrow (by simp [Value.ownBlock]; omega)
  have hB7 := (hB6.alloc (by omega) _).grown hgrow (by simp only [World.size_alloc]; omega) (fun g hg => by simp [Value.ownBlock] at hg; omega)
  have hs7 : w6.heap.size < w7.heap.size := by have := hgrow.size; simp only [World.size_alloc] at this; omega
  have e0 : 0 + fl.length = fl.length := Nat.zero_add _
  rw [e0]
  simp only [List.nil_append, Nat.zero_add] at hown hcap hat
  have fy3 := hb07.frozen 3
  have y3 : w7.cell? ⟨w.heap.size, 3, none⟩ = some (.slice (some ⟨b3, o3, none⟩) (fl.length + 1) c3) := hb07.cell 3
  have Hown := Lib.hid hown
  have Hcap7 := Lib.hid hcap
  have Ho7 := Lib.hid ho7
  have Hb07 := Lib.hid hb07
  have Hb17 := Lib.hid hb17
  have Hb27 := Lib.hid hb27
  have HB7 := Lib.hid hB7
  have hlt70 : w.heap.size < w7.heap.size := by omega
  clear hown hcap hat hgrow ho7 hb07 hb17 hb27 hB7 ho6 hb06 hb16 hb26 hB6 hrq hft e0
  go_wp2_with fail
  have hb08 := Hb07.out.set_ 3 (.slice A7 fl.length c7)
  have hb18 := Hb17.out.far (p := ⟨w.heap.size, 3, none⟩) (by show w.heap.size + 1 ≠ w.heap.size; omega) (.slice A7 fl.length c7)
  have hb28 := Hb27.out.far (p := ⟨w.heap.size, 3, none⟩) (by show w.heap.size + 1 + 1 ≠ w.heap.size; omega) (.slice A7 fl.length c7)
  have hB8 := HB7.out.setCell (p := ⟨w.heap.size, 3, none⟩) (Nat.le_refl _) (.slice A7 fl.length c7)
  have ho8 := Ho7.out.far (p := ⟨w.heap.size, 3, none⟩) (by simp [Value.ownBlock]; omega) (.slice A7 fl.length c7)
  have hn8 := Hown.out.far (p := ⟨w.heap.size, 3, none⟩) (Hown.out.ne_blk Hb07.out (by decide)) (.slice A7 fl.length c7)
  have hne : (Value.slice A7 fl.length c7).ownBlock ≠ some (w.heap.size + 1 + 1) := Hown.out.ne_blk Hb27.out (by decide)
  simp only [List.setIfInBounds_toArray, List.set_cons_succ, List.set_cons_zero] at hb08
  have hs8 : (w7.setCell ⟨w.heap.size, 3, none⟩ (.slice A7 fl.length c7)).heap.size = w7.heap.size := by simp
  generalize (w7.setCell ⟨w.heap.size, 3, none⟩ (.slice A7 fl.length c7)) = w8 at *
  clear y3 fy3 Hown Ho7 Hb07 Hb17 Hb27 HB7
  have href : RefAt w8 (fun b => (S b ∧ b < w.heap.size) ∨ (w.heap.size ≤ b ∧ b ≠ w.heap.size + 1 + 1)) A1 c1 (some ⟨g5, 0, none⟩) c5 A7 c7 ⟨room, nodes, taken.set k true, fl⟩ := by
    refine ⟨(Hh.out.old.below hB8).nd.imp fun b h _ => .inl h, ?_, (RQ.of_ownB hn8).imp fun b h _ => .inr ⟨h.1, fun e => hne (e ▸ h.2)⟩, Hh.out.cn, by simp; exact Hcap.out, Hcap7.out⟩
    simp only [List.length_set]
    exact (RQ.of_ownB ho8).imp fun b h _ => .inr ⟨h.1, fun e => by have := h.2; simp [Value.ownBlock] at this; omega⟩
  have hok : (⟨room, nodes, taken.set k true, fl⟩ : Rf).ok := ⟨by simp [Hn1.out], by simp; exact hn2', by simp; omega⟩
  have C2 := Lib.hid (put_any w8.drew _ A1 c1 (some ⟨g5, 0, none⟩) c5 A7 c7 ⟨room, nodes, taken.set k true, fl⟩ ⟨(k : Int) + 1, n1, n2, n3, n4⟩ href.drew hok k rfl (by rw [Hn1.out]; exact Hk.out))
  unfold Rf.val Nd.val at C2
  simp only [List.length_set] at C2
  obtain ⟨⟨y0, y1, y2, y3⟩, _⟩ := hb08.pool
  obtain ⟨x0, x1, x2, x3, x4⟩ := hb18.node5
  have Hb08 := Lib.hid hb08
  have Hb18 := Lib.hid hb18
  have Hb28 := Lib.hid hb28
  have HB8 := Lib.hid hB8
  have hlt80 : w.heap.size + 1 + 1 < w8.heap.size := hb28.lt
  have Hn2' := Lib.hid hn2'
  clear hb08 hb18 hb28 hB8 ho8 hn8 hne href hok hi1 hz1 hs1 hy1 hi2 hz2 hs2 hy2 hn2 hn3 e1 k0 k1 m0 m1 m2 hcf hb3 hs5 hs7 hs8 hsz6 hlt50 hlt51 hlt52 hlt70 hlt0 hlt1 hlt2 ne0 ne0' ne1 ne1' hg5 hg6 hglt hf hn2' g1
  go_region_held3 (fun w' => (w'.cell? ⟨w.heap.size, 0, none⟩ = some (.int .i64 room) ∧ w'.cell? ⟨w.heap.size, 1, none⟩ = some (.slice A1 nodes.length c1) ∧ w'.cell? ⟨w.heap.size, 2, none⟩ = some (.slice (some ⟨g5, 0, none⟩) taken.length c5) ∧ w'.cell? ⟨w.heap.size, 3, none⟩ = some (.slice A7 fl.length c7)) ∧
      (w'.cell? ⟨w.heap.size + 1, 0, none⟩ = some (.int .i64 ((k : Int) + 1)) ∧ w'.cell? ⟨w.heap.size + 1, 1, none⟩ = some (.int .i64 n1) ∧ w'.cell? ⟨w.heap.size + 1, 2, none⟩ = some (.int .i64 n2) ∧ w'.cell? ⟨w.heap.size + 1, 3, none⟩ = some (.int .i64 n3) ∧ w'.cell? ⟨w.heap.size + 1, 4, none⟩ = some (.int .i64 n4)))
    (first | exact ⟨Hl0.out, Hl1.out⟩ | exact ⟨⟨y0', y1', y2', y3'⟩, x0', x1', x2', x3', x4'⟩ | exact ⟨⟨y0, y1, y2, y3⟩, x0, x1, x2, x3, x4⟩ | go_keep)
    ((go_at_call 57; refine C2.out.mono ?_; rintro e w9 ⟨E1, d1, E2, d2, E3, d3, rfl, hra, hb⟩; simp only [id, Rf.val, List.length_set]; have hb0' := Hb08.out.drew.below hb Hb08.out.lt; have hb1' := Hb18.out.drew.below hb Hb18.out.lt; have hb2' := Hb28.out.drew.below hb Hb28.out.lt; have HB9 := Lib.hid (HB8.out.drew.trans (hb.mono HB8.out.drew.size)); obtain ⟨⟨y0', y1', y2', y3'⟩, _⟩ := hb0'.pool; obtain ⟨x0', x1', x2', x3', x4'⟩ := hb1'.node5; obtain ⟨⟨z0, z1, z2, z3⟩, q0, q1, q2, q3⟩ := hb2'.pool; have hl0 := (show Blk (lay4 w9 (w.heap.size + 1 + 1) (.int .i64 room) (.slice E1 nodes.length d1) (.slice E2 taken.length d2) (.slice E3 fl.length d3)) w.heap.size 53 _ from (lay4_far _ _ _ _ _ _ _ (by omega)).trans hb0').pool; have hl1 := (show Blk (lay4 w9 (w.heap.size + 1 + 1) (.int .i64 room) (.slice E1 nodes.length d1) (.slice E2 taken.length d2) (.slice E3 fl.length d3)) (w.heap.size + 1) 29 _ from (lay4_far _ _ _ _ _ _ _ (by omega)).trans hb1').node5; have Hl0 := Lib.hid hl0.1; have Hl1 := Lib.hid hl1; clear hl0 hl1; have Hra := Lib.hid hra; have hs9 := Lib.hid hb.size; clear hb hb0' hb1' hb2' hra))
  all_goals
    go_wp2
    refine bodyPost_ret (v := .tuple #[.agg #[.int .i64 room, .slice E1 nodes.length d1, .slice E2 taken.length d2, .slice E3 fl.length d3], .int .i64 ((k : Int) + 1), .int .i64 0]) (by simp [results, Try.results50, go_sem, *]) rfl ?_
    have hBe := lay4_below HB9.out (g := w.heap.size + 1 + 1) (by omega) (.int .i64 room) (.slice E1 nodes.length d1) (.slice E2 taken.length d2) (.slice E3 fl.length d3)
    refine ⟨E1, d1, E2, d2, E3, d3, by simp [WithIds, Rf.val], ?_, hBe⟩
    refine (Hra.out.lay4 (g := w.heap.size + 1 + 1) (fun h => ?_) _ _ _ _).imp fun b h _ => ?_
    · rcases h with (h | h) | h
      · have := h.2; omega
      · exact h.2 rfl
      · have h' : w8.heap.size ≤ w.heap.size + 1 + 1 := h
        omega
    · rcases h with (h | h) | h
      · exact .inl h.1
      · exact .inr h.1
      · have h' : w8.heap.size ≤ b := h
        exact .inr (by omega)
end Go.Proofs.Ytcnejokbldohlaa
