/- The reference's pools: Take of a full pool, and of a released slot. -/
import Derived.Test.YtcnejokbldohlaaPt
namespace Go.Proofs.Ytcnejokbldohlaa
set_option linter.unusedSimpArgs false
set_option linter.unusedVariables false
open Go.ChangeShapes Go.WideShapes Go.ChangeAt Go.RowKit
set_option linter.unusedVariables false
attribute [local go_sem ↓] Go.wp_at_zero Go.wp_at_succ
def WithIds (id c : Int) (v : Value) : Value := .tuple #[v, .int .i64 id, .int .i64 c]
set_option maxHeartbeats 2000000 in
theorem rtake_full (w : World) (S : Nat → Prop) (A1 : Option Addr) (c1 : Nat) (A2 : Option Addr) (c2 : Nat) (A3 : Option Addr) (c3 : Nat) (r : Rf) (n : Nd) (h : RefAt w S A1 c1 A2 c2 A3 c3 r) (hr : r.ok) (hf : r.room ≤ (r.len : Int)) :
    Calls Try.prog 50 #[r.val A1 c1 A2 c2 A3 c3, n.val] w (RPost w S (WithIds 0 7) r) := by
  have Hh := Lib.hid h
  have C1 := Lib.hid (fun (w' : World) (hb : Below w.heap.size w w') => rlen_any w' S A1 c1 A2 c2 A3 c3 r (h.below hb) hr)
  clear h hr
  obtain ⟨n0, n1, n2, n3, n4⟩ := n
  unfold Rf.val at C1
  unfold Rf.val Nd.val
  generalize (r.len : Int) = q at *
  go_enter Try.func50, Try.ntmps50
  go_wp2_with fail
  have hB := Lib.hid ((((Below.refl w.heap.size w).alloc (Nat.le_refl _) (.cells #[.int .i64 r.room, .slice A1 r.nodes.length c1, .slice A2 r.taken.length c2, .slice A3 r.free.length c3] 53)).alloc (by simp only [World.size_alloc]; omega) (.cells #[.int .i64 n0, .int .i64 n1, .int .i64 n2, .int .i64 n3, .int .i64 n4] 29)).alloc (by simp only [World.size_alloc]; omega) (.cells #[.int .i64 0, .slice none 0 0, .slice none 0 0, .slice none 0 0] 53))
  have hb0 := ((Blk.new w 53 #[.int .i64 r.room, .slice A1 r.nodes.length c1, .slice A2 r.taken.length c2, .slice A3 r.free.length c3]).alloc (.cells #[.int .i64 n0, .int .i64 n1, .int .i64 n2, .int .i64 n3, .int .i64 n4] 29)).alloc (.cells #[.int .i64 0, .slice none 0 0, .slice none 0 0, .slice none 0 0] 53)
  have hb2 := Blk.new ((w.alloc (.cells #[.int .i64 r.room, .slice A1 r.nodes.length c1, .slice A2 r.taken.length c2, .slice A3 r.free.length c3] 53)).alloc (.cells #[.int .i64 n0, .int .i64 n1, .int .i64 n2, .int .i64 n3, .int .i64 n4] 29)) 53 #[.int .i64 0, .slice none 0 0, .slice none 0 0, .slice none 0 0]
  simp only [World.size_alloc] at hb2
  generalize (((w.alloc (.cells #[.int .i64 r.room, .slice A1 r.nodes.length c1, .slice A2 r.taken.length c2, .slice A3 r.free.length c3] 53)).alloc (.cells #[.int .i64 n0, .int .i64 n1, .int .i64 n2, .int .i64 n3, .int .i64 n4] 29)).alloc (.cells #[.int .i64 0, .slice none 0 0, .slice none 0 0, .slice none 0 0] 53)) = w3 at *
  obtain ⟨⟨y0, y1, y2, y3⟩, fy0, fy1, fy2, fy3⟩ := hb0.pool
  have Hb2 := Lib.hid hb2
  have Hb0 := Lib.hid hb0
  clear hb2 hb0
  go_region_held3 (fun w' => w'.cell? ⟨w.heap.size, 0, none⟩ = some (.int .i64 r.room) ∧ w'.cell? ⟨w.heap.size, 1, none⟩ = some (.slice A1 r.nodes.length c1) ∧ w'.cell? ⟨w.heap.size, 2, none⟩ = some (.slice A2 r.taken.length c2) ∧ w'.cell? ⟨w.heap.size, 3, none⟩ = some (.slice A3 r.free.length c3)) (go_keep)
    ((go_at_call 30; refine (C1.out _ hB.out.drew).mono ?_; rintro e w4 ⟨rfl, hb⟩; have hb0' := Hb0.out.drew.below hb Hb0.out.lt; have hb2' := Hb2.out.drew.below hb Hb2.out.lt; have HB4 := Lib.hid (hB.out.drew.trans (hb.mono hB.out.drew.size)); obtain ⟨⟨y0', y1', y2', y3'⟩, fy0', fy1', fy2', fy3'⟩ := hb0'.pool; obtain ⟨⟨z0, z1, z2, z3⟩, q0, q1, q2, q3⟩ := hb2'.pool; have Hb0' := Lib.hid hb0'; have Hb2' := Lib.hid hb2'; clear hb hb0' hb2'))
  clear y0 y1 y2 y3 fy0 fy1 fy2 fy3 Hb0 Hb2
  go_wp2_with fail
  refine bodyPost_ret (v := .tuple #[.agg #[.int .i64 r.room, .slice A1 r.nodes.length c1, .slice A2 r.taken.length c2, .slice A3 r.free.length c3], .int .i64 0, .int .i64 7]) (by simp [results, Try.results50, go_sem, *]) rfl ?_
  have hB2 := lay4_below HB4.out (g := w.heap.size + 1 + 1) (by omega) (.int .i64 r.room) (.slice A1 r.nodes.length c1) (.slice A2 r.taken.length c2) (.slice A3 r.free.length c3)
  exact ⟨A1, c1, A2, c2, A3, c3, rfl, (Hh.out.below hB2).imp fun b h _ => .inl h, hB2⟩
end Go.Proofs.Ytcnejokbldohlaa
