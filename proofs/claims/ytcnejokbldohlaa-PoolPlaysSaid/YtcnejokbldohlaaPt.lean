/- The reference's pools: Give. -/
import Derived.Test.YtcnejokbldohlaaPs
namespace Go.Proofs.Ytcnejokbldohlaa
set_option linter.unusedSimpArgs false
set_option linter.unusedVariables false
open Go.ChangeShapes Go.WideShapes Go.ChangeAt Go.RowKit
set_option linter.unusedVariables false
theorem RQ.one (w : World) (v : Value) (t : TypeId) : RQ (w.alloc (.cells #[v] t)) (fun _ => True) 1 (some ⟨w.heap.size, 0, none⟩) 1 [v] :=
  ⟨rfl, fun _ => ⟨w.heap.size, 0, rfl, trivial, by simp, fun k hk => by
    obtain rfl : k = 0 := by omega
    exact (Blk.new w t #[v]).cell 0⟩⟩
theorem ints_snoc (l : List Int) (x : Int) : ints (l ++ [x]) = ints l ++ [.int .i64 x] := by simp [ints]
def Rf.give (r : Rf) (id : Int) : Rf := if r.has id = true then { r with taken := r.taken.set (id - 1).toNat false, free := r.free ++ [id] } else r
set_option maxHeartbeats 2000000 in
theorem rgive_any (w : World) (S : Nat → Prop) (A1 : Option Addr) (c1 : Nat) (A2 : Option Addr) (c2 : Nat) (A3 : Option Addr) (c3 : Nat) (r : Rf) (id : Int) (h : RefAt w S A1 c1 A2 c2 A3 c3 r) (hr : r.ok) :
    Calls Try.prog 48 #[r.val A1 c1 A2 c2 A3 c3, .int .i64 id] w (RPost w S (WithCode (if r.has id = true then 0 else 5)) (r.give id)) := by
  have Hh := Lib.hid h
  have Hr := Lib.hid hr
  have C1 := Lib.hid (fun (w' : World) (hb : Below w.heap.size w w') => rhas_any w' S A1 c1 A2 c2 A3 c3 r id (h.below hb) hr)
  obtain ⟨i1, hi1, hz1, hs1, hy1⟩ := info_parts bool_info
  obtain ⟨i2, hi2, hz2, hs2, hy2⟩ := info_parts int_info
  clear h hr
  cases hv : r.has id
  · rw [show r.give id = r from by unfold Rf.give; rw [hv]; rfl, if_neg (by simp)]
    rw [hv] at C1
    clear hv hi1 hz1 hs1 hy1 hi2 hz2 hs2 hy2
    unfold Rf.val at C1 ⊢
    go_enter Try.func48, Try.ntmps48
    go_wp2_with (go_at_call 51; refine Held.in_ ?_)
    refine Held.out ?_
    have hB := ((Below.refl w.heap.size w).alloc (Nat.le_refl _) (.cells #[.int .i64 r.room, .slice A1 r.nodes.length c1, .slice A2 r.taken.length c2, .slice A3 r.free.length c3] 53)).alloc (by simp only [World.size_alloc]; omega) (.cells #[.int .i64 0, .slice none 0 0, .slice none 0 0, .slice none 0 0] 53)
    refine (C1.out _ hB).mono ?_
    rintro e w1 ⟨rfl, hb⟩
    have hb0 := ((Blk.new w 53 #[.int .i64 r.room, .slice A1 r.nodes.length c1, .slice A2 r.taken.length c2, .slice A3 r.free.length c3]).alloc _).below hb (by simp only [World.size_alloc]; omega)
    have hb2 := (Blk.new (w.alloc (.cells #[.int .i64 r.room, .slice A1 r.nodes.length c1, .slice A2 r.taken.length c2, .slice A3 r.free.length c3] 53)) 53 #[.int .i64 0, .slice none 0 0, .slice none 0 0, .slice none 0 0]).below hb (by simp only [World.size_alloc]; omega)
    have hB1 := Lib.hid (hB.trans (hb.mono hB.size))
    simp only [World.size_alloc] at hb0 hb2
    obtain ⟨⟨y0, y1, y2, y3⟩, _⟩ := hb0.pool
    obtain ⟨⟨z0, z1, z2, z3⟩, q0, q1, q2, q3⟩ := hb2.pool
    clear hb hB hb0 hb2
    go_wp2_with fail
    refine bodyPost_ret (v := .tuple #[.agg #[.int .i64 r.room, .slice A1 r.nodes.length c1, .slice A2 r.taken.length c2, .slice A3 r.free.length c3], .int .i64 5]) (by simp [results, Try.results48, go_sem, *]) rfl ?_
    have hB2 := lay4_below hB1.out (g := w.heap.size + 1) (by omega) (.int .i64 r.room) (.slice A1 r.nodes.length c1) (.slice A2 r.taken.length c2) (.slice A3 r.free.length c3)
    exact ⟨A1, c1, A2, c2, A3, c3, rfl, (Hh.out.below hB2).imp fun b h _ => .inl h, hB2⟩
  · obtain ⟨k, hk1, hk, hkt⟩ := Rf.has_at hv
    rw [show r.give id = { r with taken := r.taken.set k false, free := r.free ++ [id] } from by unfold Rf.give; rw [hv, hk1, if_pos rfl]; simp, if_pos rfl]
    rw [hv] at C1
    subst hk1
    have hn2 : (r.taken.length : Int) ≤ 1000000 := by have := Hr.out.lim; omega
    have hn2' : r.taken.length ≤ 1000000 := by omega
    have hn3 : r.free.length ≤ 1000000 := Hr.out.limf
    have e1 : (k : Int) + 1 - 1 = (k : Int) := by omega
    have k0 : (0 : Int) ≤ (k : Int) := by omega
    have k1 : (k : Int) < (r.taken.length : Int) := by omega
    have Hk := Lib.hid hk
    clear hv hk hkt
    unfold Rf.val at C1 ⊢
    go_enter Try.func48, Try.ntmps48
    go_wp2_with (go_at_call 51; refine Held.in_ ?_)
    refine Held.out ?_
    have hB := ((Below.refl w.heap.size w).alloc (Nat.le_refl _) (.cells #[.int .i64 r.room, .slice A1 r.nodes.length c1, .slice A2 r.taken.length c2, .slice A3 r.free.length c3] 53)).alloc (by simp only [World.size_alloc]; omega) (.cells #[.int .i64 0, .slice none 0 0, .slice none 0 0, .slice none 0 0] 53)
    refine (C1.out _ hB).mono ?_
    rintro e w1 ⟨rfl, hb⟩
    have hb0 := ((Blk.new w 53 #[.int .i64 r.room, .slice A1 r.nodes.length c1, .slice A2 r.taken.length c2, .slice A3 r.free.length c3]).alloc _).below hb (by simp only [World.size_alloc]; omega)
    have hb2 := (Blk.new (w.alloc (.cells #[.int .i64 r.room, .slice A1 r.nodes.length c1, .slice A2 r.taken.length c2, .slice A3 r.free.length c3] 53)) 53 #[.int .i64 0, .slice none 0 0, .slice none 0 0, .slice none 0 0]).below hb (by simp only [World.size_alloc]; omega)
    have hB1 := hB.trans (hb.mono hB.size)
    have hs1w := hb.size
    simp only [World.size_alloc] at hb0 hb2 hs1w
    have HB1 := Lib.hid hB1
    have hlt0 : w.heap.size < w1.heap.size := by omega
    have hlt1 : w.heap.size + 1 < w1.heap.size := by omega
    obtain ⟨⟨y0, y1, y2, y3⟩, fy0, fy1, fy2, fy3⟩ := hb0.pool
    have Hb0 := Lib.hid hb0
    have Hb2 := Lib.hid hb2
    clear hb hB hB1 hb0 hb2
    go_wp2_with (at_builtin; refine Held.in_ ?_)
    refine Held.out ?_
    refine wpList_append_R _ rfl (.tmp 12) (.tmp 14) _ rfl w.heap.size 4 i1 (.bool false) 1 1 Try.underlying50 hi1 hz1 hs1 hy1 rfl (by omega) (.slice (some ⟨w1.heap.size, 0, none⟩) 0 0) 0 [] (by rfl) (lit_bools rfl ?c5) S A2 r.taken.length c2 (bools r.taken) (by rfl) ((Hh.out.below HB1.out).tk.keep ?c2 ?c3) (one_bools _) (by unfold maxLen; omega) (by omega) ?c4 ?_
    case c5 => omega
    case c2 => simp only [World.size_alloc]; omega
    case c3 => exact fun b _ hb => Below.heap_alloc _ _ _ hb
    case c4 => simp only [World.size_alloc]; omega
    intro A4 c4 w2 hown hcap hgrow hat
    have hb0 := (Hb0.out.alloc _).grown hgrow (by simp [Value.ownBlock]; omega)
    have hb2 := (Hb2.out.alloc _).grown hgrow (by simp [Value.ownBlock]; omega)
    have hB2 := (HB1.out.alloc (by omega) _).grown hgrow (by simp only [World.size_alloc]; omega) (fun g hg => by simp [Value.ownBlock] at hg; omega)
    simp only [World.size_alloc, List.nil_append, Nat.zero_add] at hown hcap hat
    obtain ⟨g4, cc, hv, hg4, hglt, _, hcm, hcell, hfro⟩ := hown.form (by omega)
    injection hv with hv1 hv2 hv3
    subst hv1
    subst hv3
    have hg3 : w1.heap.size ≤ g4 := by
      simp [Value.ownBlock] at hat
      omega
    have d0 : w2.cell? ⟨g4, k, none⟩ = some (.bool r.taken[k]) := by rw [hcell _ (by omega), bools_get _ k _ (List.getElem?_eq_getElem Hk.out)]; rfl
    generalize r.taken[k] = tb at *
    have f0 := hfro k
    have y2' : w2.cell? ⟨w.heap.size, 2, none⟩ = some (.slice A2 r.taken.length c2) := hb0.cell 2
    have y3' : w2.cell? ⟨w.heap.size, 3, none⟩ = some (.slice A3 r.free.length c3) := hb0.cell 3
    have q2 := hb0.frozen 2
    have ne0 : ¬ (g4 = w.heap.size) := by omega
    have ne0' : ¬ (w.heap.size = g4) := by omega
    have Hown := Lib.hid hown
    have Hcap := Lib.hid hcap
    have Hb0' := Lib.hid hb0
    have Hb2' := Lib.hid hb2
    have HB2 := Lib.hid hB2
    have hg5 : w.heap.size ≤ g4 := hg4
    have hsz2 : w1.heap.size < w2.heap.size := by have := hgrow.size; simp only [World.size_alloc] at this; omega
    have hlt2 : w.heap.size < w2.heap.size := by omega
    have hlt3 : w.heap.size + 1 < w2.heap.size := by omega
    clear hown hcap hgrow hat hcell hfro hb0 hb2 hB2 hg4 y0 y1 y2 y3 fy0 fy1 fy2 fy3 Hb0 Hb2
    go_wp2_with (at_builtin; refine Held.in_ ?_)
    refine Held.out ?_
    have ho5 := (Hown.out.stored k (.bool false)).far (p := ⟨w.heap.size, 2, none⟩) (by simp [Value.ownBlock]; omega) (.slice (some ⟨g4, 0, none⟩) r.taken.length c4)
    rw [bools_set] at ho5
    have hb05 := (Hb0'.out.far (p := ⟨g4, k, none⟩) ne0' (.bool false)).set_ 2 (.slice (some ⟨g4, 0, none⟩) r.taken.length c4)
    have hb25 := (Hb2'.out.far (p := ⟨g4, k, none⟩) (by show w.heap.size + 1 ≠ g4; omega) (.bool false)).far (p := ⟨w.heap.size, 2, none⟩) (by show w.heap.size + 1 ≠ w.heap.size; omega) (.slice (some ⟨g4, 0, none⟩) r.taken.length c4)
    have hB5 := (HB2.out.setCell (p := ⟨g4, k, none⟩) hg5 (.bool false)).setCell (p := ⟨w.heap.size, 2, none⟩) (Nat.le_refl _) (.slice (some ⟨g4, 0, none⟩) r.taken.length c4)
    have hsz5 : ((w2.setCell ⟨g4, k, none⟩ (.bool false)).setCell ⟨w.heap.size, 2, none⟩ (.slice (some ⟨g4, 0, none⟩) r.taken.length c4)).heap.size = w2.heap.size := by simp
    simp only [List.setIfInBounds_toArray, List.set_cons_succ, List.set_cons_zero] at hb05
    generalize ((w2.setCell ⟨g4, k, none⟩ (.bool false)).setCell ⟨w.heap.size, 2, none⟩ (.slice (some ⟨g4, 0, none⟩) r.taken.length c4)) = w5 at *
    clear d0 f0 y2' y3' q2 Hown Hb0' Hb2' HB2
    have hs5 := hB5.size
    have hlt5 : w.heap.size < w5.heap.size := by omega
    refine wpList_append_R _ rfl (.tmp 22) (.tmp 24) _ rfl w.heap.size 3 i2 (.int .i64 0) 1 8 Try.underlying51 hi2 hz2 hs2 hy2 rfl (by omega) (.slice (some ⟨w2.heap.size, 0, none⟩) 0 0) 0 [] rfl (lit_ints hsz5 ?c5) S A3 r.free.length c3 (ints r.free) rfl ((Hh.out.below hB5).fr.keep ?c2 ?c3) (one_ints _) (by unfold maxLen; omega) (by omega) ?c4 ?_
    case c5 => omega
    case c2 => simp only [World.size_alloc]; omega
    case c3 => exact fun b _ hb => Below.heap_alloc _ _ _ hb
    case c4 => simp only [World.size_alloc]; have := hB5.size; omega
    intro A6 c6 w6 hown hcap hgrow hat
    have ho6 := (ho5.alloc _).kept hgrow (.inr (by simp [Value.ownBlock]; omega))
    have hb06 := (hb05.alloc _).grown hgrow (by simp [Value.ownBlock]; omega)
    have hb26 := (hb25.alloc _).grown hgrow (by simp [Value.ownBlock]; omega)
    have hB6 := (hB5.alloc (by omega) _).grown hgrow (by simp only [World.size_alloc]; omega) (fun g hg => by simp [Value.ownBlock] at hg; omega)
    have hs6 : w5.heap.size < w6.heap.size := by have := hgrow.size; simp only [World.size_alloc] at this; omega
    simp only [List.nil_append, Nat.zero_add] at hown hcap hat
    have Ho6 := Lib.hid ho6
    have Hb06 := Lib.hid hb06
    have Hb26 := Lib.hid hb26
    have HB6 := Lib.hid hB6
    have Hown6 := Lib.hid hown
    have e0 : 0 + r.free.length = r.free.length := Nat.zero_add _
    rw [e0]
    clear ho5 hb05 hb25 hB5 ho6 hb06 hb26 hB6 hown hcap hat hgrow e0
    go_wp2_with (at_builtin; refine Held.in_ ?_)
    refine Held.out ?_
    refine wpList_append_R _ rfl (.tmp 25) (.tmp 27) _ rfl w.heap.size 3 i2 (.int .i64 0) 1 8 Try.underlying51 hi2 hz2 hs2 hy2 rfl (by omega) (.slice A6 r.free.length c6) r.free.length (ints r.free) rfl (Hown6.out.alloc _) (fun _ => True) (some ⟨w6.heap.size, 0, none⟩) 1 1 [.int .i64 ((k : Int) + 1)] rfl (RQ.one _ _ _) ?c1 (by unfold maxLen; omega) (by omega) ?c4 ?_
    case c1 =>
      intro u hu
      simp at hu
      subst hu
      rfl
    case c4 => simp only [World.size_alloc]; omega
    intro A7 c7 w7 hown hcap hgrow hat
    have hne1 : (Value.slice A6 r.free.length c6).ownBlock ≠ some w.heap.size := Hown6.out.ne_blk Hb06.out (by decide)
    have hne2 : (Value.slice A6 r.free.length c6).ownBlock ≠ some (w.heap.size + 1) := Hown6.out.ne_blk Hb26.out (by decide)
    have hne3 : (Value.slice (some ⟨g4, 0, none⟩) r.taken.length c4).ownBlock ≠ (Value.slice A6 r.free.length c6).ownBlock := fun e => Hown6.out.ne_own Ho6.out (by decide) rfl e.symm
    have ho7 := (Ho6.out.alloc _).kept hgrow (.inr hne3)
    have hb07 := (Hb06.out.alloc _).grown hgrow (fun e => hne1 e.symm)
    have hb27 := (Hb26.out.alloc _).grown hgrow (fun e => hne2 e.symm)
    have hB7 := (HB6.out.alloc (by omega) _).grown hgrow (by simp only [World.size_alloc]; omega) (fun g hg => (Hown6.out.lt g hg).1)
    have hs7 : w6.heap.size < w7.heap.size := by have := hgrow.size; simp only [World.size_alloc] at this; omega
    rw [← ints_snoc] at hown
    have hne4 : (Value.slice A7 (r.free.length + 1) c7).ownBlock ≠ some w.heap.size := hown.ne_blk hb07 (by decide)
    have hne5 : (Value.slice A7 (r.free.length + 1) c7).ownBlock ≠ some (w.heap.size + 1) := hown.ne_blk hb27 (by decide)
    obtain ⟨⟨y0, y1, y2, y3⟩, fy0, fy1, fy2, fy3⟩ := hb07.pool
    obtain ⟨⟨z0, z1, z2, z3⟩, q0, q1, q2, q3⟩ := hb27.pool
    have Ho7 := Lib.hid ho7
    have HB7 := Lib.hid hB7
    have Hown7 := Lib.hid hown
    have Hcap7 := Lib.hid hcap
    have Hne4 := Lib.hid hne4
    have Hne5 := Lib.hid hne5
    clear hown hcap hat hgrow ho7 hb07 hb27 hB7 Hown6 Ho6 Hb06 Hb26 HB6 hne1 hne2 hne3 hne4 hne5
    go_wp2_with fail
    refine bodyPost_ret (v := .tuple #[.agg #[.int .i64 r.room, .slice A1 r.nodes.length c1, .slice (some ⟨g4, 0, none⟩) r.taken.length c4, .slice A7 (r.free.length + 1) c7], .int .i64 0]) (by simp [results, Try.results48, go_sem, *]) rfl ?_
    have hB8 := lay4_below (HB7.out.setCell (p := ⟨w.heap.size, 3, none⟩) (Nat.le_refl _) (.slice A7 (r.free.length + 1) c7)) (g := w.heap.size + 1) (by omega) (.int .i64 r.room) (.slice A1 r.nodes.length c1) (.slice (some ⟨g4, 0, none⟩) r.taken.length c4) (.slice A7 (r.free.length + 1) c7)
    have hh := Hh.out.below hB8
    have hx : ∀ {e : TypeId} {size n : Nat} {v : Value} {xs : List Value} (ho : Own w7 w.heap.size e size v n xs), v.ownBlock ≠ some w.heap.size → v.ownBlock ≠ some (w.heap.size + 1) → Own (lay4 (w7.setCell ⟨w.heap.size, 3, none⟩ (.slice A7 (r.free.length + 1) c7)) (w.heap.size + 1) (.int .i64 r.room) (.slice A1 r.nodes.length c1) (.slice (some ⟨g4, 0, none⟩) r.taken.length c4) (.slice A7 (r.free.length + 1) c7)) w.heap.size e size v n xs :=
      fun ho h1 h2 => ((((ho.far (p := ⟨w.heap.size, 3, none⟩) h1 _).far (p := ⟨w.heap.size + 1, 0, none⟩) h2 _).far (p := ⟨w.heap.size + 1, 1, none⟩) h2 _).far (p := ⟨w.heap.size + 1, 2, none⟩) h2 _).far (p := ⟨w.heap.size + 1, 3, none⟩) h2 _
    refine ⟨A1, c1, some ⟨g4, 0, none⟩, c4, A7, c7, by simp [WithCode, Rf.val], ⟨hh.nd.imp fun b h _ => .inl h, ?_, ?_, hh.cn, by simp; exact Hcap.out, by simp; exact Hcap7.out⟩, hB8⟩
    · rw [List.length_set]
      exact (RQ.of_own (hx Ho7.out (by simp [Value.ownBlock]; omega) (by simp [Value.ownBlock]; omega))).imp fun b h _ => .inr h
    · rw [List.length_append]
      exact (RQ.of_own (hx Hown7.out Hne4.out Hne5.out)).imp fun b h _ => .inr h
end Go.Proofs.Ytcnejokbldohlaa
