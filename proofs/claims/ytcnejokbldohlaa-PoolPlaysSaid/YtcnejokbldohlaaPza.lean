/- The law's do: one call of the pool and of the reference: Give. -/
import Derived.Test.YtcnejokbldohlaaPy
namespace Go.Proofs.Ytcnejokbldohlaa
set_option linter.unusedSimpArgs false
set_option linter.unusedVariables false
open Go.ChangeShapes Go.WideShapes Go.ChangeAt Go.RowKit
set_option linter.unusedVariables false
attribute [local go_sem ↓] Go.wp_at_zero Go.wp_at_succ
section
variable {w0 w w' : World} {g : Nat} {F : List Nat} {s : Pl}
theorem give_st2 (h : St w0 w g F s) (id : Int) :
    Calls Try.prog 20 #[.pointer (some ⟨g, 0, none⟩), .int .i64 id] w (fun e w' => ∃ F', e = .returned (.int .i64 (if s.is id = true then 0 else 5)) ∧ St w0 w' g F' (s.give id) ∧ Chg F F' w w') :=
  (give_any w w0.heap.size g F s id h.at_ h.inv.ok h.chg.size (h.inv.m1 id) h.inv.m2).mono fun _ _ ⟨F', he, ha, hc⟩ => ⟨F', he, ⟨ha, h.chg.trans hc, h.inv.give id⟩, hc⟩
theorem set_st2 (h : St w0 w g F s) (n : Nd) :
    Calls Try.prog 34 #[.pointer (some ⟨g, 0, none⟩), n.val] w (fun e w' => ∃ F', e = .returned (.int .i64 (if s.is n.id = true then 0 else 5)) ∧ St w0 w' g F' (s.set n) ∧ Chg F F' w w') :=
  (set_any w w0.heap.size g F s n h.at_ h.inv.ok).mono fun _ _ ⟨he, ha, hc⟩ => ⟨F, he, ⟨ha, h.chg.trans hc, h.inv.set n⟩, hc⟩
theorem take_st2 (h : St w0 w g F s) (n : Nd) :
    Calls Try.prog 12 #[.pointer (some ⟨g, 0, none⟩), n.val] w (fun e w' => ∃ F', e = .returned (TakeV s) ∧ St w0 w' g F' (s.take n) ∧ Chg F F' w w') :=
  (take_any w w0.heap.size g F s n h.at_ h.inv.ok (fun x hx => ⟨(h.inv.free x hx).1, (h.inv.free x hx).2.1⟩) h.chg.size h.inv.m0 h.inv.m2).mono fun _ _ ⟨F', he, ha, hc⟩ => ⟨F', he, ⟨ha, h.chg.trans hc, h.inv.take n⟩, hc⟩
theorem st_lay4 (h : St w0 w g F s) {B : Nat} (hb : B ∉ F) (hB : w0.heap.size ≤ B) (v0 v1 v2 v3 : Value) : St w0 (lay4 w B v0 v1 v2 v3) g F s := by
  have c4 : Chg [B] [B] w (lay4 w B v0 v1 v2 v3) :=
    ((((Chg.refl [B] w).setCell (p := ⟨B, 0, none⟩) (by simp) v0).setCell (p := ⟨B, 1, none⟩) (by simp) v1).setCell (p := ⟨B, 2, none⟩) (by simp) v2).setCell (p := ⟨B, 3, none⟩) (by simp) v3
  refine ⟨h.at_.chg c4 (fun b hb' hm => hb (by simp at hm; exact hm ▸ hb')), ?_, h.inv⟩
  exact ((((h.chg.setNew (p := ⟨B, 0, none⟩) hB v0).setNew (p := ⟨B, 1, none⟩) hB v1).setNew (p := ⟨B, 2, none⟩) hB v2).setNew (p := ⟨B, 3, none⟩) hB v3)
end
/-- The end of do: both have gone on alike. -/
def DoPost (w0 w : World) (g : Nat) (F : List Nat) (T : Nat → Prop) (s : Pl) (e : Ending) (w' : World) : Prop :=
  ∃ (F' : List Nat) (s' : Pl) (r' : Rf) (A1 : Option Addr) (c1 : Nat) (A2 : Option Addr) (c2 : Nat) (A3 : Option Addr) (c3 : Nat), e = .returned (.tuple #[r'.val A1 c1 A2 c2 A3 c3, .bool true]) ∧ St w0 w' g F' s' ∧ RefAt w' (fun b => b ∉ F' ∧ (T b ∨ w.heap.size ≤ b)) A1 c1 A2 c2 A3 c3 r' ∧ Rel s' r' ∧ s'.at_.length ≤ s.at_.length + 1 ∧ Chg F F' w w'
theorem two_step {w0 w w2 w3 : World} {g B H : Nat} {F F' : List Nat} {s s' : Pl} {r' : Rf} {A1 : Option Addr} {c1 : Nat} {A2 : Option Addr} {c2 : Nat} {A3 : Option Addr} {c3 : Nat} (hs : St w0 w g F s) (T : Nat → Prop) (hb : Below w.heap.size w w2) (hB : w.heap.size ≤ B) (hBH : B < H) (hB2 : B < w2.heap.size)
    (href : RefAt w2 (fun b => ((b ∉ F ∧ T b) ∧ b < w.heap.size) ∨ H ≤ b) A1 c1 A2 c2 A3 c3 r') (hst : St w0 w3 g F' s') (hc : Chg F F' w2 w3) (v0 v1 v2 v3 : Value) :
    St w0 (lay4 w3 B v0 v1 v2 v3) g F' s' ∧ RefAt (lay4 w3 B v0 v1 v2 v3) (fun b => b ∉ F' ∧ (T b ∨ w.heap.size ≤ b)) A1 c1 A2 c2 A3 c3 r' ∧ Chg F F' w (lay4 w3 B v0 v1 v2 v3) := by
  have hlt := hs.at_.lt
  have hnF : ∀ b, w.heap.size ≤ b → b ∉ F := fun b h1 h2 => by have := hlt b h2; omega
  have hnB : B ∉ F' := hc.apart hB2 (hnF B hB)
  refine ⟨st_lay4 hst hnB (by have := hs.chg.size; omega) _ _ _ _, ?_, ?_⟩
  · have h1 : RefAt w2 (fun b => b ∉ F ∧ (b < w2.heap.size ∧ b ≠ B) ∧ (T b ∨ w.heap.size ≤ b)) A1 c1 A2 c2 A3 c3 r' := href.imp fun b h hlt2 => by
      rcases h with h | h
      · exact ⟨h.1.1, ⟨hlt2, by omega⟩, .inl h.1.2⟩
      · exact ⟨hnF b (by omega), ⟨hlt2, by omega⟩, .inr (by omega)⟩
    have h2 := h1.keep (w' := w3) hc.size fun b h _ => hc.same b h.2.1.1 h.1
    exact (h2.lay4 (g := B) (fun h => h.2.1.2 rfl) v0 v1 v2 v3).imp fun b h _ => ⟨hc.apart h.2.1.1 h.1, h.2.2⟩
  · have h3 := (Chg.of_below (F := F) hb).trans hc
    exact (((h3.setNew (p := ⟨B, 0, none⟩) hB v0).setNew (p := ⟨B, 1, none⟩) hB v1).setNew (p := ⟨B, 2, none⟩) hB v2).setNew (p := ⟨B, 3, none⟩) hB v3
theorem Blk.act {w : World} {b t : Nat} {v0 v1 v2 v3 v4 v5 v6 : Value} (h : Blk w b t #[v0, v1, v2, v3, v4, v5, v6]) :
    w.cell? ⟨b, 0, none⟩ = some v0 ∧ w.cell? ⟨b, 1, none⟩ = some v1 ∧ w.cell? ⟨b, 2, none⟩ = some v2 ∧ w.cell? ⟨b, 3, none⟩ = some v3 ∧ w.cell? ⟨b, 4, none⟩ = some v4 ∧ w.cell? ⟨b, 5, none⟩ = some v5 ∧ w.cell? ⟨b, 6, none⟩ = some v6 :=
  ⟨h.cell 0, h.cell 1, h.cell 2, h.cell 3, h.cell 4, h.cell 5, h.cell 6⟩
def actVal (kind id : Int) (n : Nd) : Value := .agg #[.int .u8 kind, .int .i64 id, .int .i64 n.id, .int .i64 n.var, .int .i64 n.lo, .int .i64 n.hi, .int .i64 n.refs]
set_option maxHeartbeats 4000000 in
theorem do_give (w0 w : World) (g : Nat) (F : List Nat) (s : Pl) (A1 : Option Addr) (c1 : Nat) (A2 : Option Addr) (c2 : Nat) (A3 : Option Addr) (c3 : Nat) (r : Rf) (kind id : Int) (n : Nd) (h : St w0 w g F s) (T : Nat → Prop) (hr : RefAt w (fun b => b ∉ F ∧ T b) A1 c1 A2 c2 A3 c3 r) (hrel : Rel s r) (hl : s.at_.length ≤ 1000) (hk0 : 0 ≤ kind) (hk1 : kind ≤ 255) (hk : kind % 4 = 2) :
    Calls Try.prog 28 #[.pointer (some ⟨g, 0, none⟩), r.val A1 c1 A2 c2 A3 c3, actVal kind id n] w (DoPost w0 w g F T s) := by
  have hok := hrel.ok h.inv hl
  have Hs := Lib.hid h
  have Hh := Lib.hid hr
  have Hrel := Lib.hid hrel
  have Hl := Lib.hid hl
  obtain ⟨n0, n1, n2, n3, n4⟩ := n
  have C1 := Lib.hid (fun (w' : World) (hb : Below w.heap.size w w') => rgive_any w' (fun b => (b ∉ F ∧ T b) ∧ b < w.heap.size) A1 c1 A2 c2 A3 c3 r id ((hr.imp fun b h1 h2 => ⟨h1, h2⟩).below hb) hok)
  rw [hrel.has id] at C1
  have C2 := Lib.hid (fun (w2 : World) (h2 : St w0 w2 g F s) => give_st2 h2 id)
  have Hrel' := Lib.hid (hrel.give h.inv id)
  have Hl' := Lib.hid (Nat.le_trans (Nat.le_of_eq (Pl.give_len s id)) (Nat.le_succ s.at_.length))
  have Hfl := Lib.hid h.at_.lt
  generalize (if s.is id = true then (0 : Int) else 5) = cd at *
  generalize s.give id = s' at *
  generalize r.give id = r' at *
  clear h hr hrel hok hl
  unfold Rf.val at C1
  unfold Rf.val actVal
  go_enter Try.func28, Try.ntmps28
  go_wp2_with (go_at_call 48; refine Held.in_ ?_)
  refine Held.out ?_
  have hB := ((((Below.refl w.heap.size w).alloc (Nat.le_refl _) (.cells #[.int .i64 r.room, .slice A1 r.nodes.length c1, .slice A2 r.taken.length c2, .slice A3 r.free.length c3] 53)).alloc (by simp only [World.size_alloc]; omega) (.cells #[.int .u8 kind, .int .i64 id, .int .i64 n0, .int .i64 n1, .int .i64 n2, .int .i64 n3, .int .i64 n4] 59)).alloc (by simp only [World.size_alloc]; omega) (.cells #[.int .i64 0, .slice none 0 0, .slice none 0 0, .slice none 0 0] 53))
  refine (C1.out _ hB).mono ?_
  rintro e w1 ⟨E1, d1, E2, d2, E3, d3, rfl, hra, hb⟩
  have hb1 := ((Blk.new (w.alloc (.cells #[.int .i64 r.room, .slice A1 r.nodes.length c1, .slice A2 r.taken.length c2, .slice A3 r.free.length c3] 53)) 59 #[.int .u8 kind, .int .i64 id, .int .i64 n0, .int .i64 n1, .int .i64 n2, .int .i64 n3, .int .i64 n4]).alloc _).below hb (by simp only [World.size_alloc]; omega)
  have hb2 := (Blk.new ((w.alloc (.cells #[.int .i64 r.room, .slice A1 r.nodes.length c1, .slice A2 r.taken.length c2, .slice A3 r.free.length c3] 53)).alloc (.cells #[.int .u8 kind, .int .i64 id, .int .i64 n0, .int .i64 n1, .int .i64 n2, .int .i64 n3, .int .i64 n4] 59)) 53 #[.int .i64 0, .slice none 0 0, .slice none 0 0, .slice none 0 0]).below hb (by simp only [World.size_alloc]; omega)
  have hB1 := hB.trans (hb.mono hB.size)
  have hsz1 := hb.size
  simp only [World.size_alloc] at hb1 hb2 hsz1 hra
  simp only [WithCode, Rf.val]
  have Hra := Lib.hid hra
  have Hb1 := Lib.hid hb1
  have Hb2 := Lib.hid hb2
  have HB1 := Lib.hid hB1
  have Hsz1 := Lib.hid hsz1
  clear hra hb hB hb1 hb2 hB1 hsz1
  go_wp2_with fail
  have hb13 := (Hb1.out.alloc (.cells #[.int .i64 r'.room, .slice E1 r'.nodes.length d1, .slice E2 r'.taken.length d2, .slice E3 r'.free.length d3] 53)).drew
  have hb23 := (Hb2.out.alloc (.cells #[.int .i64 r'.room, .slice E1 r'.nodes.length d1, .slice E2 r'.taken.length d2, .slice E3 r'.free.length d3] 53)).drew
  have hb83 := (Blk.new w1 53 #[.int .i64 r'.room, .slice E1 r'.nodes.length d1, .slice E2 r'.taken.length d2, .slice E3 r'.free.length d3]).drew
  have hB3 := (HB1.out.alloc HB1.out.size (.cells #[.int .i64 r'.room, .slice E1 r'.nodes.length d1, .slice E2 r'.taken.length d2, .slice E3 r'.free.length d3] 53)).drew
  have hr3 := (Hra.out.below ((Below.refl w1.heap.size w1).alloc (Nat.le_refl _) (.cells #[.int .i64 r'.room, .slice E1 r'.nodes.length d1, .slice E2 r'.taken.length d2, .slice E3 r'.free.length d3] 53))).drew
  obtain ⟨a0, a1, a2, a3, a4, a5, a6⟩ := hb13.act
  obtain ⟨⟨v0, v1, v2, v3⟩, _⟩ := hb83.pool
  have Hb13 := Lib.hid hb13
  have Hb23 := Lib.hid hb23
  have Hb83 := Lib.hid hb83
  have HB3 := Lib.hid hB3
  have Hr3 := Lib.hid hr3
  have St3 := Lib.hid (Hs.out.more HB3.out)
  clear hb13 hb23 hb83 hB3 hr3 a0 a2 a3 a4 a5 a6 hk0 hk1 hk Hra Hb1 Hb2 HB1
  go_region_held3 (fun w' => (w'.cell? ⟨w.heap.size + 1, 1, none⟩ = some (.int .i64 id)) ∧ (w'.cell? ⟨w1.heap.size, 0, none⟩ = some (.int .i64 r'.room) ∧ w'.cell? ⟨w1.heap.size, 1, none⟩ = some (.slice E1 r'.nodes.length d1) ∧ w'.cell? ⟨w1.heap.size, 2, none⟩ = some (.slice E2 r'.taken.length d2) ∧ w'.cell? ⟨w1.heap.size, 3, none⟩ = some (.slice E3 r'.free.length d3)))
    (first | exact ⟨Hk1.out, Hk2.out⟩ | exact ⟨a1', v0', v1', v2', v3'⟩ | exact ⟨a1, v0, v1, v2, v3⟩ | go_keep)
    ((go_at_call 20; refine (C2.out _ St3.out).mono ?_; rintro e w5 ⟨F', rfl, hst, hchg⟩; have hnF : ∀ b, w.heap.size ≤ b → b ∉ F := (fun b h1 h2 => absurd (Hfl.out b h2) (by omega)); have hb15 := (hchg.same _ Hb13.out.lt (hnF _ (by omega))).trans Hb13.out; have hb25 := (hchg.same _ Hb23.out.lt (hnF _ (by omega))).trans Hb23.out; have hb85 := (hchg.same _ Hb83.out.lt (hnF _ (by have := Hsz1.out; omega))).trans Hb83.out; have q1 := Blk.act hb15; obtain ⟨⟨z0, z1, z2, z3⟩, q4, q5, q6, q7⟩ := Blk.pool hb25; have q8 := Blk.pool hb85; obtain ⟨_, a1', _⟩ := q1; obtain ⟨⟨v0', v1', v2', v3'⟩, _⟩ := q8; have hl1 := Blk.act (show Blk (lay4 w5 (w.heap.size + 1 + 1) (.int .i64 r'.room) (.slice E1 r'.nodes.length d1) (.slice E2 r'.taken.length d2) (.slice E3 r'.free.length d3)) (w.heap.size + 1) _ _ from (lay4_far _ _ _ _ _ _ _ (by omega)).trans hb15); have hl2 := Blk.pool (show Blk (lay4 w5 (w.heap.size + 1 + 1) (.int .i64 r'.room) (.slice E1 r'.nodes.length d1) (.slice E2 r'.taken.length d2) (.slice E3 r'.free.length d3)) w1.heap.size _ _ from (lay4_far _ _ _ _ _ _ _ (by have := Hsz1.out; omega)).trans hb85); have Hk1 := Lib.hid hl1.2.1; have Hk2 := Lib.hid hl2.1; clear hl1 hl2; have Hst := Lib.hid hst; have Hchg := Lib.hid hchg; clear hst hchg hb15 hb25 hb85 hnF))
  all_goals
    go_wp2
    refine bodyPost_ret (v := .tuple #[.agg #[.int .i64 r'.room, .slice E1 r'.nodes.length d1, .slice E2 r'.taken.length d2, .slice E3 r'.free.length d3], .bool true]) (by simp [results, Try.results28, go_sem, *]) rfl ?_
    obtain ⟨k1, k2, k3⟩ := two_step (B := w.heap.size + 1 + 1) (H := w.heap.size + 1 + 1 + 1) Hs.out T HB3.out (by omega) (by omega) Hb23.out.lt Hr3.out Hst.out Hchg.out (.int .i64 r'.room) (.slice E1 r'.nodes.length d1) (.slice E2 r'.taken.length d2) (.slice E3 r'.free.length d3)
    exact ⟨F', s', r', E1, d1, E2, d2, E3, d3, rfl, k1, k2, Hrel'.out, Hl'.out, k3⟩
end Go.Proofs.Ytcnejokbldohlaa
