/- The law's do: one call of the pool and of the reference: Set. -/
import Derived.Test.YtcnejokbldohlaaPza
namespace Go.Proofs.Ytcnejokbldohlaa
set_option linter.unusedSimpArgs false
set_option linter.unusedVariables false
open Go.ChangeShapes Go.WideShapes Go.ChangeAt Go.RowKit
set_option linter.unusedVariables false
attribute [local go_sem ↓] Go.wp_at_zero Go.wp_at_succ
set_option maxHeartbeats 4000000 in
theorem do_set (w0 w : World) (g : Nat) (F : List Nat) (s : Pl) (A1 : Option Addr) (c1 : Nat) (A2 : Option Addr) (c2 : Nat) (A3 : Option Addr) (c3 : Nat) (r : Rf) (kind id : Int) (n : Nd) (h : St w0 w g F s) (T : Nat → Prop) (hr : RefAt w (fun b => b ∉ F ∧ T b) A1 c1 A2 c2 A3 c3 r) (hrel : Rel s r) (hl : s.at_.length ≤ 1000) (hk0 : 0 ≤ kind) (hk1 : kind ≤ 255) (hk : kind % 4 = 3) :
    Calls Try.prog 28 #[.pointer (some ⟨g, 0, none⟩), r.val A1 c1 A2 c2 A3 c3, actVal kind id n] w (DoPost w0 w g F T s) := by
  have hok := hrel.ok h.inv hl
  have Hs := Lib.hid h
  have Hh := Lib.hid hr
  have Hrel := Lib.hid hrel
  have Hl := Lib.hid hl
  obtain ⟨n0, n1, n2, n3, n4⟩ := n
  have C1 := Lib.hid (fun (w' : World) (hb : Below w.heap.size w w') => rset_any w' (fun b => (b ∉ F ∧ T b) ∧ b < w.heap.size) A1 c1 A2 c2 A3 c3 r ⟨n0, n1, n2, n3, n4⟩ ((hr.imp fun b h1 h2 => ⟨h1, h2⟩).below hb) hok)
  rw [hrel.has] at C1
  have C2 := Lib.hid (fun (w2 : World) (h2 : St w0 w2 g F s) => set_st2 h2 ⟨n0, n1, n2, n3, n4⟩)
  have Hrel' := Lib.hid (hrel.set h.inv ⟨n0, n1, n2, n3, n4⟩)
  have Hl' := Lib.hid (Nat.le_trans (Nat.le_of_eq (Pl.set_len s ⟨n0, n1, n2, n3, n4⟩)) (Nat.le_succ s.at_.length))
  have Hfl := Lib.hid h.at_.lt
  generalize (if s.is n0 = true then (0 : Int) else 5) = cd at *
  generalize s.set ⟨n0, n1, n2, n3, n4⟩ = s' at *
  generalize r.set ⟨n0, n1, n2, n3, n4⟩ = r' at *
  clear h hr hrel hok hl
  unfold Rf.val Nd.val at C1
  unfold Nd.val at C2
  unfold Rf.val actVal
  go_enter Try.func28, Try.ntmps28
  go_wp2_with (go_at_call 49; refine Held.in_ ?_)
  refine Held.out ?_
  have hB := ((((Below.refl w.heap.size w).alloc (Nat.le_refl _) (.cells #[.int .i64 r.room, .slice A1 r.nodes.length c1, .slice A2 r.taken.length c2, .slice A3 r.free.length c3] 53)).alloc (by simp only [World.size_alloc]; omega) (.cells #[.int .u8 kind, .int .i64 id, .int .i64 n0, .int .i64 n1, .int .i64 n2, .int .i64 n3, .int .i64 n4] 59)).alloc (by simp only [World.size_alloc]; omega) (.cells #[.int .i64 0, .slice none 0 0, .slice none 0 0, .slice none 0 0] 53))
  refine (C1.out _ hB).mono ?_
  rintro e w1 ⟨E1, d1, E2, d2, E3, d3, rfl, hra, hb⟩
  have hb1 := ((Blk.new (w.alloc (.cells #[.int .i64 r.room, .slice A1 r.nodes.length c1, .slice A2 r.taken.length c2, .slice A3 r.free.length c3] 53)) 59 #[.int .u8 kind, .int .i64 id, .int .i64 n0, .int .i64 n1, .int .i64 n2, .int .i64 n3, .int .i64 n4]).alloc _).below hb (by simp only [World.size_alloc]; omega)
  have hb2 := (Blk.new ((w.alloc (.cells #[.int .i64 r.room, .slice A1 r.nodes.length c1, .slice A2 r.taken.length c2, .slice A3 r.free.length c3] 53)).alloc (.cells #[.int .u8 kind, .int .i64 id, .int .i64 n0, .int .i64 n1, .int .i64 n2, .int .i64 n3, .int .i64 n4] 59)) 53 #[.int .i64 0, .slice none 0 0, .slice none 0 0, .slice none 0 0]).below hb (by simp only [World.size_alloc]; omega)
  have hB1 := hB.trans (hb.mono hB.size)
  have hsz1 := hb.size
  simp only [World.size_alloc] at hb1 hb2 hsz1 hra
  simp only [WithCode, Rf.val]
  have Hra := Lib.hid hra
  have Hb1 := Lib.hid hb1
  have Hb2 := Lib.hid hb2
  have HB1 := Lib.hid hB1
  have Hsz1 := Lib.hid hsz1
  clear hra hb hB hb1 hb2 hB1 hsz1
  go_wp2_with fail
  have hb13 := (Hb1.out.alloc (.cells #[.int .i64 r'.room, .slice E1 r'.nodes.length d1, .slice E2 r'.taken.length d2, .slice E3 r'.free.length d3] 53)).drew
  have hb23 := (Hb2.out.alloc (.cells #[.int .i64 r'.room, .slice E1 r'.nodes.length d1, .slice E2 r'.taken.length d2, .slice E3 r'.free.length d3] 53)).drew
  have hb83 := (Blk.new w1 53 #[.int .i64 r'.room, .slice E1 r'.nodes.length d1, .slice E2 r'.taken.length d2, .slice E3 r'.free.length d3]).drew
  have hB3 := (HB1.out.alloc HB1.out.size (.cells #[.int .i64 r'.room, .slice E1 r'.nodes.length d1, .slice E2 r'.taken.length d2, .slice E3 r'.free.length d3] 53)).drew
  have hr3 := (Hra.out.below ((Below.refl w1.heap.size w1).alloc (Nat.le_refl _) (.cells #[.int .i64 r'.room, .slice E1 r'.nodes.length d1, .slice E2 r'.taken.length d2, .slice E3 r'.free.length d3] 53))).drew
  obtain ⟨a0, a1, a2, a3, a4, a5, a6⟩ := hb13.act
  obtain ⟨⟨v0, v1, v2, v3⟩, _⟩ := hb83.pool
  have Hb13 := Lib.hid hb13
  have Hb23 := Lib.hid hb23
  have Hb83 := Lib.hid hb83
  have HB3 := Lib.hid hB3
  have Hr3 := Lib.hid hr3
  have St3 := Lib.hid (Hs.out.more HB3.out)
  clear hb13 hb23 hb83 hB3 hr3 a0 a1 hk0 hk1 hk Hra Hb1 Hb2 HB1
  go_region_held3 (fun w' => (w'.cell? ⟨w.heap.size + 1, 2, none⟩ = some (.int .i64 n0) ∧ w'.cell? ⟨w.heap.size + 1, 3, none⟩ = some (.int .i64 n1) ∧ w'.cell? ⟨w.heap.size + 1, 4, none⟩ = some (.int .i64 n2) ∧ w'.cell? ⟨w.heap.size + 1, 5, none⟩ = some (.int .i64 n3) ∧ w'.cell? ⟨w.heap.size + 1, 6, none⟩ = some (.int .i64 n4)) ∧ (w'.cell? ⟨w1.heap.size, 0, none⟩ = some (.int .i64 r'.room) ∧ w'.cell? ⟨w1.heap.size, 1, none⟩ = some (.slice E1 r'.nodes.length d1) ∧ w'.cell? ⟨w1.heap.size, 2, none⟩ = some (.slice E2 r'.taken.length d2) ∧ w'.cell? ⟨w1.heap.size, 3, none⟩ = some (.slice E3 r'.free.length d3)))
    (first | exact ⟨Hk1.out, Hk2.out⟩ | exact ⟨⟨b2, b3, b4, b5, b6⟩, v0', v1', v2', v3'⟩ | exact ⟨⟨a2, a3, a4, a5, a6⟩, v0, v1, v2, v3⟩ | go_keep)
    ((go_at_call 34; refine (C2.out _ St3.out).mono ?_; rintro e w5 ⟨F', rfl, hst, hchg⟩; have hnF : ∀ b, w.heap.size ≤ b → b ∉ F := (fun b h1 h2 => absurd (Hfl.out b h2) (by omega)); have hb15 := (hchg.same _ Hb13.out.lt (hnF _ (by omega))).trans Hb13.out; have hb25 := (hchg.same _ Hb23.out.lt (hnF _ (by omega))).trans Hb23.out; have hb85 := (hchg.same _ Hb83.out.lt (hnF _ (by have := Hsz1.out; omega))).trans Hb83.out; have q1 := Blk.act hb15; obtain ⟨⟨z0, z1, z2, z3⟩, q4, q5, q6, q7⟩ := Blk.pool hb25; have q8 := Blk.pool hb85; obtain ⟨_, _, b2, b3, b4, b5, b6⟩ := q1; obtain ⟨⟨v0', v1', v2', v3'⟩, _⟩ := q8; have hl1 := Blk.act (show Blk (lay4 w5 (w.heap.size + 1 + 1) (.int .i64 r'.room) (.slice E1 r'.nodes.length d1) (.slice E2 r'.taken.length d2) (.slice E3 r'.free.length d3)) (w.heap.size + 1) _ _ from (lay4_far _ _ _ _ _ _ _ (by omega)).trans hb15); have hl2 := Blk.pool (show Blk (lay4 w5 (w.heap.size + 1 + 1) (.int .i64 r'.room) (.slice E1 r'.nodes.length d1) (.slice E2 r'.taken.length d2) (.slice E3 r'.free.length d3)) w1.heap.size _ _ from (lay4_far _ _ _ _ _ _ _ (by have := Hsz1.out; omega)).trans hb85); have Hk1 := Lib.hid hl1.2.2; have Hk2 := Lib.hid hl2.1; clear hl1 hl2; have Hst := Lib.hid hst; have Hchg := Lib.hid hchg; clear hst hchg hb15 hb25 hb85 hnF))
  all_goals
    go_wp2
    refine bodyPost_ret (v := .tuple #[.agg #[.int .i64 r'.room, .slice E1 r'.nodes.length d1, .slice E2 r'.taken.length d2, .slice E3 r'.free.length d3], .bool true]) (by simp [results, Try.results28, go_sem, *]) rfl ?_
    obtain ⟨k1, k2, k3⟩ := two_step (B := w.heap.size + 1 + 1) (H := w.heap.size + 1 + 1 + 1) Hs.out T HB3.out (by omega) (by omega) Hb23.out.lt Hr3.out Hst.out Hchg.out (.int .i64 r'.room) (.slice E1 r'.nodes.length d1) (.slice E2 r'.taken.length d2) (.slice E3 r'.free.length d3)
    exact ⟨F', s', r', E1, d1, E2, d2, E3, d3, rfl, k1, k2, Hrel'.out, Hl'.out, k3⟩
end Go.Proofs.Ytcnejokbldohlaa
