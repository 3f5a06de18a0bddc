/- The reference's pools: Set, Give. -/
import Derived.Test.YtcnejokbldohlaaPr
namespace Go.Proofs.Ytcnejokbldohlaa
set_option linter.unusedSimpArgs false
set_option linter.unusedVariables false
open Go.ChangeShapes Go.WideShapes Go.ChangeAt Go.RowKit
set_option linter.unusedVariables false
theorem Blk.pool {w : World} {b t : Nat} {v0 v1 v2 v3 : Value} (h : Blk w b t #[v0, v1, v2, v3]) :
    (w.cell? ⟨b, 0, none⟩ = some v0 ∧ w.cell? ⟨b, 1, none⟩ = some v1 ∧ w.cell? ⟨b, 2, none⟩ = some v2 ∧ w.cell? ⟨b, 3, none⟩ = some v3) ∧
    w.frozen? ⟨b, 0, none⟩ = false ∧ w.frozen? ⟨b, 1, none⟩ = false ∧ w.frozen? ⟨b, 2, none⟩ = false ∧ w.frozen? ⟨b, 3, none⟩ = false :=
  ⟨⟨h.cell 0, h.cell 1, h.cell 2, h.cell 3⟩, h.frozen 0, h.frozen 1, h.frozen 2, h.frozen 3⟩
theorem Blk.node5 {w : World} {b t : Nat} {v0 v1 v2 v3 v4 : Value} (h : Blk w b t #[v0, v1, v2, v3, v4]) :
    w.cell? ⟨b, 0, none⟩ = some v0 ∧ w.cell? ⟨b, 1, none⟩ = some v1 ∧ w.cell? ⟨b, 2, none⟩ = some v2 ∧ w.cell? ⟨b, 3, none⟩ = some v3 ∧ w.cell? ⟨b, 4, none⟩ = some v4 :=
  ⟨h.cell 0, h.cell 1, h.cell 2, h.cell 3, h.cell 4⟩
/-- A pool's value is laid into block g. -/
def lay4 (w : World) (g : Nat) (v0 v1 v2 v3 : Value) : World := (((w.setCell ⟨g, 0, none⟩ v0).setCell ⟨g, 1, none⟩ v1).setCell ⟨g, 2, none⟩ v2).setCell ⟨g, 3, none⟩ v3
theorem lay4_below {B g : Nat} {w w' : World} (h : Below B w w') (hg : B ≤ g) (v0 v1 v2 v3 : Value) : Below B w (lay4 w' g v0 v1 v2 v3) :=
  (((h.setCell (p := ⟨g, 0, none⟩) hg _).setCell (p := ⟨g, 1, none⟩) hg _).setCell (p := ⟨g, 2, none⟩) hg _).setCell (p := ⟨g, 3, none⟩) hg _
theorem lay4_size (w : World) (g : Nat) (v0 v1 v2 v3 : Value) : (lay4 w g v0 v1 v2 v3).heap.size = w.heap.size := by simp [lay4]
theorem lay4_far (w : World) (g : Nat) (v0 v1 v2 v3 : Value) (b : Nat) (hb : b ≠ g) : (lay4 w g v0 v1 v2 v3).heap[b]? = w.heap[b]? := by
  unfold lay4
  rw [Below.heap_setCell _ _ _ _ hb, Below.heap_setCell _ _ _ _ hb, Below.heap_setCell _ _ _ _ hb, Below.heap_setCell _ _ _ _ hb]
theorem RefAt.lay4 {w : World} {S : Nat → Prop} {A1 : Option Addr} {c1 : Nat} {A2 : Option Addr} {c2 : Nat} {A3 : Option Addr} {c3 : Nat} {r : Rf} (h : RefAt w S A1 c1 A2 c2 A3 c3 r) {g : Nat} (hg : ¬ S g) (v0 v1 v2 v3 : Value) :
    RefAt (lay4 w g v0 v1 v2 v3) S A1 c1 A2 c2 A3 c3 r :=
  h.keep (by rw [lay4_size]; exact Nat.le_refl _) fun b hs _ => lay4_far _ _ _ _ _ _ _ (fun e => hg (e ▸ hs))
def Rf.set (r : Rf) (n : Nd) : Rf := if r.has n.id = true then { r with nodes := r.nodes.set (n.id - 1).toNat n } else r
def WithCode (c : Int) (v : Value) : Value := .tuple #[v, .int .i64 c]
/-- The old rows, in old blocks. -/
def Old (w : World) (S : Nat → Prop) : Nat → Prop := fun b => S b ∧ b < w.heap.size
theorem RefAt.old {w : World} {S : Nat → Prop} {A1 : Option Addr} {c1 : Nat} {A2 : Option Addr} {c2 : Nat} {A3 : Option Addr} {c3 : Nat} {r : Rf} (h : RefAt w S A1 c1 A2 c2 A3 c3 r) : RefAt w (Old w S) A1 c1 A2 c2 A3 c3 r := h.imp fun b h1 h2 => ⟨h1, h2⟩
set_option maxHeartbeats 1000000 in
theorem rset_any (w : World) (S : Nat → Prop) (A1 : Option Addr) (c1 : Nat) (A2 : Option Addr) (c2 : Nat) (A3 : Option Addr) (c3 : Nat) (r : Rf) (n : Nd) (h : RefAt w S A1 c1 A2 c2 A3 c3 r) (hr : r.ok) :
    Calls Try.prog 49 #[r.val A1 c1 A2 c2 A3 c3, n.val] w (RPost w S (WithCode (if r.has n.id = true then 0 else 5)) (r.set n)) := by
  have Hh := Lib.hid h
  have Hr := Lib.hid hr
  have C1 := Lib.hid (fun (w' : World) (hb : Below w.heap.size w w') => rhas_any w' S A1 c1 A2 c2 A3 c3 r n.id (h.below hb) hr)
  clear h hr
  cases hv : r.has n.id
  · rw [show r.set n = r from by unfold Rf.set; rw [hv]; rfl, if_neg (by simp)]
    rw [hv] at C1
    clear hv
    obtain ⟨n0, n1, n2, n3, n4⟩ := n
    unfold Rf.val at C1 ⊢
    unfold Nd.val
    go_enter Try.func49, Try.ntmps49
    go_wp2_with (go_at_call 51; refine Held.in_ ?_)
    refine Held.out ?_
    have hB := ((((Below.refl w.heap.size w).alloc (Nat.le_refl _) (.cells #[.int .i64 r.room, .slice A1 r.nodes.length c1, .slice A2 r.taken.length c2, .slice A3 r.free.length c3] 53)).alloc (by simp only [World.size_alloc]; omega) (.cells #[.int .i64 n0, .int .i64 n1, .int .i64 n2, .int .i64 n3, .int .i64 n4] 29)).alloc (by simp only [World.size_alloc]; omega) (.cells #[.int .i64 0, .slice none 0 0, .slice none 0 0, .slice none 0 0] 53))
    refine (C1.out _ hB).mono ?_
    rintro e w1 ⟨rfl, hb⟩
    have hb0 := (((Blk.new w 53 #[.int .i64 r.room, .slice A1 r.nodes.length c1, .slice A2 r.taken.length c2, .slice A3 r.free.length c3]).alloc _).alloc _).below hb (by simp only [World.size_alloc]; omega)
    have hb2 := (Blk.new ((w.alloc (.cells #[.int .i64 r.room, .slice A1 r.nodes.length c1, .slice A2 r.taken.length c2, .slice A3 r.free.length c3] 53)).alloc (.cells #[.int .i64 n0, .int .i64 n1, .int .i64 n2, .int .i64 n3, .int .i64 n4] 29)) 53 #[.int .i64 0, .slice none 0 0, .slice none 0 0, .slice none 0 0]).below hb (by simp only [World.size_alloc]; omega)
    have hB1 := Lib.hid (hB.trans (hb.mono hB.size))
    simp only [World.size_alloc] at hb0 hb2
    obtain ⟨⟨y0, y1, y2, y3⟩, _⟩ := hb0.pool
    obtain ⟨⟨z0, z1, z2, z3⟩, q0, q1, q2, q3⟩ := hb2.pool
    clear hb hB hb0 hb2
    go_wp2_with fail
    refine bodyPost_ret (v := .tuple #[.agg #[.int .i64 r.room, .slice A1 r.nodes.length c1, .slice A2 r.taken.length c2, .slice A3 r.free.length c3], .int .i64 5]) (by simp [results, Try.results49, go_sem, *]) rfl ?_
    have hB2 := lay4_below hB1.out (g := w.heap.size + 1 + 1) (by omega) (.int .i64 r.room) (.slice A1 r.nodes.length c1) (.slice A2 r.taken.length c2) (.slice A3 r.free.length c3)
    exact ⟨A1, c1, A2, c2, A3, c3, rfl, (Hh.out.below hB2).imp fun b h _ => .inl h, hB2⟩
  · obtain ⟨k, hk1, hk2, _⟩ := Rf.has_at hv
    have hkn : k < r.nodes.length := by rw [Hr.out.len]; exact hk2
    have C2 := Lib.hid (fun (w' : World) (hb : Below w.heap.size w w') => put_any w' (Old w S) A1 c1 A2 c2 A3 c3 r n (Hh.out.old.below hb) Hr.out k hk1 hkn)
    rw [show r.set n = { r with nodes := r.nodes.set k n } from by unfold Rf.set; rw [hv, hk1, if_pos rfl]; simp, if_pos rfl]
    rw [hv] at C1
    clear hv hk1 hkn hk2
    obtain ⟨n0, n1, n2, n3, n4⟩ := n
    unfold Rf.val at C1 C2
    unfold Nd.val at C2
    unfold Rf.val Nd.val
    go_enter Try.func49, Try.ntmps49
    go_wp2_with (go_at_call 51; refine Held.in_ ?_)
    refine Held.out ?_
    have hB := ((((Below.refl w.heap.size w).alloc (Nat.le_refl _) (.cells #[.int .i64 r.room, .slice A1 r.nodes.length c1, .slice A2 r.taken.length c2, .slice A3 r.free.length c3] 53)).alloc (by simp only [World.size_alloc]; omega) (.cells #[.int .i64 n0, .int .i64 n1, .int .i64 n2, .int .i64 n3, .int .i64 n4] 29)).alloc (by simp only [World.size_alloc]; omega) (.cells #[.int .i64 0, .slice none 0 0, .slice none 0 0, .slice none 0 0] 53))
    refine (C1.out _ hB).mono ?_
    rintro e w1 ⟨rfl, hb⟩
    have hb0 := (((Blk.new w 53 #[.int .i64 r.room, .slice A1 r.nodes.length c1, .slice A2 r.taken.length c2, .slice A3 r.free.length c3]).alloc _).alloc _).below hb (by simp only [World.size_alloc]; omega)
    have hb1 := ((Blk.new (w.alloc (.cells #[.int .i64 r.room, .slice A1 r.nodes.length c1, .slice A2 r.taken.length c2, .slice A3 r.free.length c3] 53)) 29 #[.int .i64 n0, .int .i64 n1, .int .i64 n2, .int .i64 n3, .int .i64 n4]).alloc _).below hb (by simp only [World.size_alloc]; omega)
    have hb2 := (Blk.new ((w.alloc (.cells #[.int .i64 r.room, .slice A1 r.nodes.length c1, .slice A2 r.taken.length c2, .slice A3 r.free.length c3] 53)).alloc (.cells #[.int .i64 n0, .int .i64 n1, .int .i64 n2, .int .i64 n3, .int .i64 n4] 29)) 53 #[.int .i64 0, .slice none 0 0, .slice none 0 0, .slice none 0 0]).below hb (by simp only [World.size_alloc]; omega)
    have hB1 := Lib.hid (hB.trans (hb.mono hB.size))
    simp only [World.size_alloc] at hb0 hb1 hb2
    obtain ⟨⟨y0, y1, y2, y3⟩, _⟩ := hb0.pool
    obtain ⟨x0, x1, x2, x3, x4⟩ := hb1.node5
    have Hb2 := Lib.hid hb2
    clear hb hB hb0 hb1 hb2
    go_wp2_with (go_at_call 57; refine Held.in_ ?_)
    refine Held.out ?_
    refine (C2.out _ hB1.out).mono ?_
    rintro e w2 ⟨E1, d1, E2, d2, E3, d3, rfl, hra, hb⟩
    have hb2 := Hb2.out.below hb Hb2.out.lt
    have Hz := Lib.hid Hb2.out.lt
    have hB2 := Lib.hid (hB1.out.trans (hb.mono hB1.out.size))
    have Hra := Lib.hid hra
    obtain ⟨⟨z0, z1, z2, z3⟩, q0, q1, q2, q3⟩ := hb2.pool
    have hl : (r.nodes.set k ⟨n0, n1, n2, n3, n4⟩).length = r.nodes.length := List.length_set
    simp only [id, Rf.val, hl]
    clear hb hb2 hra y0 y1 y2 y3 x0 x1 x2 x3 x4 Hb2
    go_wp2_with fail
    refine bodyPost_ret (v := .tuple #[.agg #[.int .i64 r.room, .slice E1 r.nodes.length d1, .slice E2 r.taken.length d2, .slice E3 r.free.length d3], .int .i64 0]) (by simp [results, Try.results49, go_sem, *]) rfl ?_
    have hB3 := lay4_below hB2.out (g := w.heap.size + 1 + 1) (by omega) (.int .i64 r.room) (.slice E1 r.nodes.length d1) (.slice E2 r.taken.length d2) (.slice E3 r.free.length d3)
    refine ⟨E1, d1, E2, d2, E3, d3, by simp [WithCode, Rf.val], ?_, hB3⟩
    refine (Hra.out.lay4 (g := w.heap.size + 1 + 1) (fun h => ?_) _ _ _ _).imp fun b h _ => ?_
    · rcases h with h | h
      · have := h.2; omega
      · have := Hz.out; omega
    · rcases h with h | h
      · exact .inl h.1
      · exact .inr (by have := hB1.out.size; omega)
end Go.Proofs.Ytcnejokbldohlaa
