/- PoolPlays: the pool and the reference, call by call. -/
import Derived.Test.YtcnejokbldohlaaPzd
import Derived.Test.YtcnejokbldohlaaPzg
namespace Go.Proofs.Ytcnejokbldohlaa
set_option linter.unusedSimpArgs false
set_option linter.unusedVariables false
open Go.ChangeShapes Go.WideShapes Go.ChangeAt Go.RowKit
set_option linter.unusedVariables false
attribute [local go_sem ↓] Go.wp_at_zero Go.wp_at_succ
/-- What stands before a round: both pools, and the box that holds the reference's. -/
def PI (w : World) (B : Nat) (wr : World) (g m : Nat) : Prop :=
  ∃ (F : List Nat) (s : Pl) (r : Rf) (A1 : Option Addr) (c1 : Nat) (A2 : Option Addr) (c2 : Nat) (A3 : Option Addr) (c3 : Nat), St w wr g F s ∧ RefAt wr (fun b => b ∉ F ∧ b ≠ B) A1 c1 A2 c2 A3 c3 r ∧ Rel s r ∧ s.at_.length ≤ m + 1 ∧
    Blk wr B 53 #[.int .i64 r.room, .slice A1 r.nodes.length c1, .slice A2 r.taken.length c2, .slice A3 r.free.length c3] ∧ B ∉ F
/-- Behind the call: the reference's new pool lies in box X, not yet in box B. -/
def PJ (w : World) (B X : Nat) (wx : World) (g m : Nat) : Prop :=
  ∃ (F : List Nat) (s : Pl) (r : Rf) (A1 : Option Addr) (c1 : Nat) (A2 : Option Addr) (c2 : Nat) (A3 : Option Addr) (c3 : Nat) (u0 u1 u2 u3 : Value), St w wx g F s ∧ RefAt wx (fun b => b ∉ F ∧ b ≠ B) A1 c1 A2 c2 A3 c3 r ∧ Rel s r ∧ s.at_.length ≤ m + 1 ∧
    Blk wx X 53 #[.int .i64 r.room, .slice A1 r.nodes.length c1, .slice A2 r.taken.length c2, .slice A3 r.free.length c3] ∧ Blk wx B 53 #[u0, u1, u2, u3] ∧ B ∉ F
theorem lay4_blk {w : World} {B t : Nat} {u0 u1 u2 u3 : Value} (h : Blk w B t #[u0, u1, u2, u3]) (v0 v1 v2 v3 : Value) : Blk (lay4 w B v0 v1 v2 v3) B t #[v0, v1, v2, v3] := by
  unfold lay4
  have hh := (((h.set_ 0 v0).set_ 1 v1).set_ 2 v2).set_ 3 v3
  simpa only [List.setIfInBounds_toArray, List.set_cons_succ, List.set_cons_zero] using hh
def lay5 (w : World) (g : Nat) (v0 v1 v2 v3 v4 : Value) : World := ((((w.setCell ⟨g, 0, none⟩ v0).setCell ⟨g, 1, none⟩ v1).setCell ⟨g, 2, none⟩ v2).setCell ⟨g, 3, none⟩ v3).setCell ⟨g, 4, none⟩ v4
theorem lay5_below {B g : Nat} {w w' : World} (h : Below B w w') (hg : B ≤ g) (v0 v1 v2 v3 v4 : Value) : Below B w (lay5 w' g v0 v1 v2 v3 v4) :=
  ((((h.setCell (p := ⟨g, 0, none⟩) hg _).setCell (p := ⟨g, 1, none⟩) hg _).setCell (p := ⟨g, 2, none⟩) hg _).setCell (p := ⟨g, 3, none⟩) hg _).setCell (p := ⟨g, 4, none⟩) hg _
theorem lay5_blk {w : World} {B t : Nat} {u0 u1 u2 u3 u4 : Value} (h : Blk w B t #[u0, u1, u2, u3, u4]) (v0 v1 v2 v3 v4 : Value) : Blk (lay5 w B v0 v1 v2 v3 v4) B t #[v0, v1, v2, v3, v4] := by
  unfold lay5
  have hh := ((((h.set_ 0 v0).set_ 1 v1).set_ 2 v2).set_ 3 v3).set_ 4 v4
  simpa only [List.setIfInBounds_toArray, List.set_cons_succ, List.set_cons_zero] using hh
theorem PJ.next {w wx : World} {B g m : Nat} {F : List Nat} {s : Pl} {r : Rf} {A1 : Option Addr} {c1 : Nat} {A2 : Option Addr} {c2 : Nat} {A3 : Option Addr} {c3 : Nat} {u0 u1 u2 u3 : Value} (hwB : w.heap.size ≤ B) (h1 : St w wx g F s) (h2 : RefAt wx (fun b => b ∉ F ∧ b ≠ B) A1 c1 A2 c2 A3 c3 r) (h3 : Rel s r) (h4 : s.at_.length ≤ m + 1) (h5 : Blk wx B 53 #[u0, u1, u2, u3]) (h6 : B ∉ F) :
    PI w B (lay4 wx B (.int .i64 r.room) (.slice A1 r.nodes.length c1) (.slice A2 r.taken.length c2) (.slice A3 r.free.length c3)) g m :=
  ⟨F, s, r, A1, c1, A2, c2, A3, c3, st_lay4 h1 h6 hwB _ _ _ _, h2.lay4 (fun h => h.2 rfl) _ _ _ _, h3, h4, lay4_blk h5 _ _ _ _, h6⟩
set_option maxRecDepth 100000 in
set_option maxHeartbeats 8000000 in
theorem plays_any (room at_ : Int) (A : Option Addr) (L c : Nat) (l : List Ac) (hl : l.length = L) (hk : ∀ a ∈ l, 0 ≤ a.kind ∧ a.kind ≤ 255) (w : World) (hR : RL w w.heap.size 7 A L (acs l)) (hL : L ≤ 9223372036854775807) :
    Calls Try.prog 8 #[.int .i64 room, .slice A L c, .int .i64 at_] w fun e w' => e = .returned (.bool true) ∧ Below w.heap.size w w' := by
  have Hl := Lib.hid hl
  have Hk := Lib.hid hk
  have HR := Lib.hid hR
  clear hl hk hR
  by_cases h60 : 60 < L
  · have h60' : (60 : Int) < (L : Int) := by omega
    go_enter Try.func8, Try.ntmps8
    go_wp2_with (go_at_call 14; refine Held.in_ ?_)
    refine Held.out ?_
    refine (lives_any _).mono ?_
    rintro e w1 ⟨rfl, hb⟩
    have HB := Lib.hid hb
    clear hb
    go_wp2
    go_ret
    exact ⟨rfl, HB.out⟩
  have h60' : (L : Int) ≤ 60 := by omega
  by_cases hrm : room < 1 ∨ 1048576 < room
  · have e1 : ¬ (1 ≤ room ∧ room ≤ 1048576) := by omega
    have C1 := Lib.hid (fun w' => new_bad room w' hrm)
    have C2 := Lib.hid (fun w' => rnew_any w' room)
    rw [if_neg e1, if_neg e1] at C2
    unfold Rf.val Rf.new at C2
    clear hrm e1
    go_enter Try.func8, Try.ntmps8
    go_wp2_with (go_at_call 11; refine Held.in_ ?_)
    refine Held.out ?_
    refine (C1.out _).mono ?_
    rintro e w1 ⟨rfl, hb1⟩
    have HB1 := Lib.hid hb1
    clear hb1
    go_wp2_with (go_at_call 27; refine Held.in_ ?_)
    refine Held.out ?_
    refine (C2.out _).mono ?_
    rintro e w2 ⟨rfl, hb2⟩
    have HB2 := Lib.hid (HB1.out.trans (hb2.mono HB1.out.size))
    clear hb2
    go_wp2_with (go_at_call 14; refine Held.in_ ?_)
    refine Held.out ?_
    refine (lives_any _).mono ?_
    rintro e w3 ⟨rfl, hb⟩
    have HB3 := Lib.hid ((HB2.out.alloc HB2.out.size _).trans (hb.mono (by simp only [World.size_alloc]; have := HB2.out.size; omega)))
    clear hb
    go_wp2
    go_ret
    exact ⟨rfl, HB3.out⟩
  have hr1 : 1 ≤ room ∧ room ≤ 1048576 := by omega
  have C1 := Lib.hid (fun w' => new_st room w' hr1.1 hr1.2)
  have C2 := Lib.hid (fun w' => rnew_any w' room)
  rw [if_pos hr1, if_pos hr1] at C2
  unfold Rf.val Rf.new at C2
  clear hrm hr1 h60
  go_enter Try.func8, Try.ntmps8
  go_wp2_with (go_at_call 11; refine Held.in_ ?_)
  refine Held.out ?_
  refine (C1.out _).mono ?_
  rintro e w1 ⟨g, F, rfl, hst⟩
  have Hst := Lib.hid hst
  clear hst
  go_wp2_with (go_at_call 27; refine Held.in_ ?_)
  refine Held.out ?_
  refine (C2.out _).mono ?_
  rintro e w2 ⟨rfl, hb2⟩
  have Hst2 := Lib.hid (Hst.out.more hb2)
  clear hb2 Hst
  simp only [List.length_nil]
  go_wp2_with fail
  have Hst3 := Lib.hid (Hst2.out.more ((Below.refl w2.heap.size w2).alloc (Nat.le_refl _) (.cells #[.int .i64 room, .slice none 0 0, .slice none 0 0, .slice none 0 0] 53)))
  have Hbx := Lib.hid (Blk.new w2 53 #[.int .i64 room, .slice none 0 0, .slice none 0 0, .slice none 0 0])
  have HBF := Lib.hid (fun h => Nat.lt_irrefl _ (Hst2.out.at_.lt w2.heap.size h))
  have HsB := Lib.hid Hst2.out.below.size
  generalize w2.heap.size = B at *
  generalize w2.alloc (.cells #[.int .i64 room, .slice none 0 0, .slice none 0 0, .slice none 0 0] 53) = w3 at *
  clear Hst2
  have Hpi := Lib.hid (show PI w B w3 g 0 from ⟨F, Pl.new room, Rf.new room, none, 0, none, 0, none, 0, Hst3.out, ⟨RQ.nil, RQ.nil, RQ.nil, Nat.le_refl _, Nat.le_refl _, Nat.le_refl _⟩, Rel.start, by simp [Pl.new], Hbx.out, HBF.out⟩)
  clear Hst3 Hbx HBF
  go_loopw [11] (fun i wr => ∃ k : Nat, k ≤ L ∧ i = .int .i64 k ∧ PI w B wr g k) (fun i _ => (L - intOf i).toNat)
  case atStart => exact ⟨0, by omega, rfl, Hpi.out⟩
  case round =>
    obtain ⟨k, hk, rfl, F1, s, r, A1, c1, A2, c2, A3, c3, hst, href, hrel, hlen, hbx, hBF⟩ := hrel
    clear Hpi
    have Hst := Lib.hid hst
    have Href := Lib.hid href
    have Hrel := Lib.hid hrel
    have Hbx := Lib.hid hbx
    have HBF := Lib.hid hBF
    have Hlen := Lib.hid hlen
    by_cases hlt : k < L
    · have hBlt := hbx.lt
      have DC := Lib.hid (fun (w' : World) (a : Ac) (ha : a ∈ l) (h1 : St w w' g F1 s) (h2 : RefAt w' (fun b => b ∉ F1 ∧ (b ≠ B ∧ b < wr.heap.size)) A1 c1 A2 c2 A3 c3 r) => do_any w w' g F1 s A1 c1 A2 c2 A3 c3 r a.kind a.id a.n h1 (fun b => b ≠ B ∧ b < wr.heap.size) h2 hrel (by omega) (Hk.out a ha).1 (Hk.out a ha).2)
      have StA := Lib.hid (hst.more ((Below.refl wr.heap.size wr).drew))
      have StB := Lib.hid (hst.more (((Below.refl wr.heap.size wr).alloc (Nat.le_refl _) (.cells #[.int .i64 0, .slice none 0 0, .slice none 0 0, .slice none 0 0] 53)).drew))
      have hr0 := href.imp (S' := fun b => b ∉ F1 ∧ (b ≠ B ∧ b < wr.heap.size)) fun b h hlt' => ⟨h.1, h.2, hlt'⟩
      have RA := Lib.hid (hr0.drew)
      have RB := Lib.hid ((hr0.below ((Below.refl wr.heap.size wr).alloc (Nat.le_refl _) (.cells #[.int .i64 0, .slice none 0 0, .slice none 0 0, .slice none 0 0] 53))).drew)
      have hinp := fun (w' : World) (hb : Below w.heap.size w w') => (HR.out.below hb).at_ (by omega)
      obtain ⟨b, o, rfl, hb, hc⟩ := HR.out.at_ (by omega)
      have hkl : k < l.length := by rw [Hl.out]; exact hlt
      have hcell : ∀ (w' : World), Below w.heap.size w w' → ∀ j, j < 7 → w'.cell? ⟨b, o + k * 7 + j, none⟩ = l[k].cells[j]? := fun w' hbl j hj => by
        rw [Nat.add_assoc]
        refine (hbl.cell (p := ⟨b, o + (k * 7 + j), none⟩) hb).trans ?_
        rw [hc _ (by omega), acs_get l k j _ (List.getElem?_eq_getElem hkl) hj]
      have hmem : l[k] ∈ l := List.getElem_mem hkl
      generalize l[k] = a at *
      have hcells : ∀ (w' : World), Below w.heap.size w w' → w'.cell? ⟨b, o + k * 7, none⟩ = some (.int .u8 a.kind) ∧ w'.cell? ⟨b, o + k * 7 + 1, none⟩ = some (.int .i64 a.id) ∧ w'.cell? ⟨b, o + k * 7 + 2, none⟩ = some (.int .i64 a.n.id) ∧ w'.cell? ⟨b, o + k * 7 + 3, none⟩ = some (.int .i64 a.n.var) ∧ w'.cell? ⟨b, o + k * 7 + 4, none⟩ = some (.int .i64 a.n.lo) ∧ w'.cell? ⟨b, o + k * 7 + 5, none⟩ = some (.int .i64 a.n.hi) ∧ w'.cell? ⟨b, o + k * 7 + 6, none⟩ = some (.int .i64 a.n.refs) :=
        fun w' hbl => ⟨hcell w' hbl 0 (by omega), hcell w' hbl 1 (by omega), hcell w' hbl 2 (by omega), hcell w' hbl 3 (by omega), hcell w' hbl 4 (by omega), hcell w' hbl 5 (by omega), hcell w' hbl 6 (by omega)⟩
      have Hcells := Lib.hid hcells
      have hbw : b < wr.heap.size := by have := hst.below.size; omega
      have DC2 := Lib.hid (fun w' => DC.out w' a hmem)
      unfold Rf.val actVal at DC2
      obtain ⟨i0, i1, i2, i3, i4, i5, i6⟩ := hcells wr hst.below
      obtain ⟨⟨y0, y1, y2, y3⟩, _⟩ := hbx.pool
      have k0 : (0 : Int) ≤ (k : Int) := by omega
      have k1 : (k : Int) < (L : Int) := by omega
      clear hst href hrel hbx hBF hlen hr0 hc hcell hcells hmem DC
      have HXF := Lib.hid (fun h => Nat.lt_irrefl _ (StA.out.at_.lt wr.heap.size h))
      have K0 := Lib.hid (fun (o' : Obj) => And.intro (Hbx.out.alloc o').pool.1 (Hcells.out (wr.alloc o') ((Hst.out.below.alloc Hst.out.below.size o'))))
      go_wp2_with fail
      go_cut [12, 13] from 49 to 119 (fun p q wx => ∃ X : Nat, p = .pointer (some ⟨X, 0, none⟩) ∧ q = .bool true ∧ PJ w B X wx g (k + 1))
      case first =>
        go_region_held3 (fun w' => (w'.cell? ⟨B, 0, none⟩ = some (.int .i64 r.room) ∧ w'.cell? ⟨B, 1, none⟩ = some (.slice A1 r.nodes.length c1) ∧ w'.cell? ⟨B, 2, none⟩ = some (.slice A2 r.taken.length c2) ∧ w'.cell? ⟨B, 3, none⟩ = some (.slice A3 r.free.length c3)) ∧ (w'.cell? ⟨b, o + k * 7, none⟩ = some (.int .u8 a.kind) ∧ w'.cell? ⟨b, o + k * 7 + 1, none⟩ = some (.int .i64 a.id) ∧ w'.cell? ⟨b, o + k * 7 + 2, none⟩ = some (.int .i64 a.n.id) ∧ w'.cell? ⟨b, o + k * 7 + 3, none⟩ = some (.int .i64 a.n.var) ∧ w'.cell? ⟨b, o + k * 7 + 4, none⟩ = some (.int .i64 a.n.lo) ∧ w'.cell? ⟨b, o + k * 7 + 5, none⟩ = some (.int .i64 a.n.hi) ∧ w'.cell? ⟨b, o + k * 7 + 6, none⟩ = some (.int .i64 a.n.refs)))
          (first | exact K5.out | exact K7.out | exact K6.out _ | exact K0.out _ | exact ⟨⟨y0, y1, y2, y3⟩, i0, i1, i2, i3, i4, i5, i6⟩ | go_keep)
          (first
            | (go_at_call 28; refine (DC2.out _ StA.out RA.out).mono ?_; rintro e w5 ⟨F5, s5, r5, E1, d1, E2, d2, E3, d3, rfl, hst5, href5, hrel5, hlen5, hchg5⟩; simp only [Rf.val]; have hb5 := (hchg5.same B hBlt HBF.out).trans Hbx.out; have K5 := Lib.hid (And.intro (Blk.pool hb5).1 (Hcells.out w5 hst5.below)); have K6 := Lib.hid (fun (o' : Obj) => And.intro (Blk.pool (Blk.alloc hb5 o')).1 (Hcells.out (w5.alloc o') (hst5.below.alloc hst5.below.size o'))); have Hb5 := Lib.hid hb5; have Hst5 := Lib.hid hst5; have Href5 := Lib.hid href5; have Hrel5 := Lib.hid hrel5; have Hlen5 := Lib.hid hlen5; have HBF5 := Lib.hid (hchg5.apart hBlt HBF.out); have Hz5 := Lib.hid hchg5.size; have Way := Lib.hid (show True from trivial); clear hb5 hst5 href5 hrel5 hlen5 hchg5)
            | (go_at_call 28; refine (DC2.out _ StB.out RB.out).mono ?_; rintro e w5 ⟨F5, s5, r5, E1, d1, E2, d2, E3, d3, rfl, hst5, href5, hrel5, hlen5, hchg5⟩; simp only [Rf.val]; have hb5 := (hchg5.same B (Nat.lt_succ_of_lt hBlt |> fun h => by simpa using h) HBF.out).trans (Hbx.out.alloc (.cells #[.int .i64 0, .slice none 0 0, .slice none 0 0, .slice none 0 0] 53)); have hx5 := (hchg5.same wr.heap.size (by show wr.heap.size < (wr.alloc _).heap.size; simp) HXF.out).trans (Blk.new wr 53 #[.int .i64 0, .slice none 0 0, .slice none 0 0, .slice none 0 0]); have hlx : w.heap.size ≤ wr.heap.size := Nat.le_trans HsB.out (Nat.le_of_lt hBlt); have K5 := Lib.hid (And.intro (Blk.pool hb5).1 (Hcells.out w5 hst5.below)); have K7 := Lib.hid (And.intro (Blk.pool (show Blk (lay4 w5 wr.heap.size (.int .i64 r5.room) (.slice E1 r5.nodes.length d1) (.slice E2 r5.taken.length d2) (.slice E3 r5.free.length d3)) B _ _ from (lay4_far _ _ _ _ _ _ _ (Nat.ne_of_lt hBlt)).trans hb5)).1 (Hcells.out (lay4 w5 wr.heap.size (.int .i64 r5.room) (.slice E1 r5.nodes.length d1) (.slice E2 r5.taken.length d2) (.slice E3 r5.free.length d3)) (lay4_below hst5.below hlx _ _ _ _))); obtain ⟨⟨z0, z1, z2, z3⟩, q0, q1, q2, q3⟩ := Blk.pool hx5; have Hb5 := Lib.hid hb5; have Hx5 := Lib.hid hx5; have Hst5 := Lib.hid hst5; have Href5 := Lib.hid href5; have Hrel5 := Lib.hid hrel5; have Hlen5 := Lib.hid hlen5; have HBF5 := Lib.hid (hchg5.apart (by simpa using Nat.lt_succ_of_lt hBlt) HBF.out); have HXF5 := Lib.hid (hchg5.apart (g := wr.heap.size) (by show wr.heap.size < (wr.alloc _).heap.size; simp) HXF.out); clear hb5 hx5 hst5 href5 hrel5 hlen5 hchg5 hlx))
        · go_wp2_with fail
          go_meet
          refine ⟨w5.heap.size, rfl, rfl, F5, s5, r5, E1, d1, E2, d2, E3, d3, _, _, _, _, Hst5.out.more ((Below.refl _ _).alloc (Nat.le_refl _) _), ?_, Hrel5.out, Nat.le_trans Hlen5.out (Nat.succ_le_succ Hlen.out), Blk.new w5 _ _, Blk.alloc Hb5.out _, HBF5.out⟩
          refine (Href5.out.imp fun b h _ => ⟨h.1, ?_⟩).below ((Below.refl _ _).alloc (Nat.le_refl _) _)
          rcases h.2 with h2 | h2
          · exact h2.1
          · have h3 : wr.heap.size ≤ b := h2
            omega
        · go_wp2_with fail
          go_meet
          refine ⟨wr.heap.size, rfl, rfl, F5, s5, r5, E1, d1, E2, d2, E3, d3, _, _, _, _, st_lay4 Hst5.out HXF5.out (Nat.le_trans HsB.out (Nat.le_of_lt hBlt)) _ _ _ _, ?_, Hrel5.out, Nat.le_trans Hlen5.out (Nat.succ_le_succ Hlen.out), lay4_blk Hx5.out _ _ _ _, (lay4_far _ _ _ _ _ _ _ (Nat.ne_of_lt hBlt)).trans Hb5.out, HBF5.out⟩
          refine ((Href5.out.imp (S' := fun b => (b ∉ F5 ∧ b ≠ B) ∧ b ≠ wr.heap.size) fun b h _ => ⟨⟨h.1, ?_⟩, ?_⟩).lay4 (fun h => h.2 rfl) _ _ _ _).imp fun b h _ => h.1
          · rcases h.2 with h2 | h2
            · exact h2.1
            · have h3 : (wr.alloc _).heap.size ≤ b := h2
              simp at h3
              omega
          · rcases h.2 with h2 | h2
            · have := h2.2; omega
            · have h3 : (wr.alloc _).heap.size ≤ b := h2
              simp at h3
              omega
      case rest =>
        obtain ⟨X, rfl, rfl, F2, s2, r2, E1, d1, E2, d2, E3, d3, u0, u1, u2, u3, hst, href, hrel, hlen, hx, hbx2, hBF2⟩ := hcut
        clear DC2 StA StB RA RB K0 HXF hinp Hst Href Hrel Hbx HBF Hlen y0 y1 y2 y3 i0 i1 i2 i3 i4 i5 i6 hBlt hbw
        obtain ⟨⟨v0, v1, v2, v3⟩, _⟩ := hx.pool
        obtain ⟨⟨y0, y1, y2, y3⟩, fy0, fy1, fy2, fy3⟩ := hbx2.pool
        obtain ⟨i0, i1, i2, i3, i4, i5, i6⟩ := Hcells.out wc hst.below
        have hBw := HsB.out
        have nb : ¬ (b = B) := by omega
        have nb' : ¬ (B = b) := by omega
        have Hnext := Lib.hid (PJ.next HsB.out hst href hrel hlen hbx2 hBF2)
        clear hst href hrel hlen hx hbx2 hBF2 i0 i2 i3 i4 i5 i6
        go_wp2_with (go_at_call 21; refine Held.in_ ?_)
        refine Held.out ?_
        have hn := Hnext.out
        unfold lay4 at hn
        clear Hnext
        generalize ((((wc.setCell ⟨B, 0, none⟩ (.int .i64 r2.room)).setCell ⟨B, 1, none⟩ (.slice E1 r2.nodes.length d1)).setCell ⟨B, 2, none⟩ (.slice E2 r2.taken.length d2)).setCell ⟨B, 3, none⟩ (.slice E3 r2.free.length d3)) = w9 at *
        clear v0 v1 v2 v3 y0 y1 y2 y3 fy0 fy1 fy2 fy3 i1
        obtain ⟨F3, s3, r3, G1, e1, G2, e2, G3, e3, hst, href, hrel, hlen, hbx, hBF⟩ := hn
        have hok := hrel.ok hst.inv (by omega)
        have CA := Lib.hid (fun (w' : World) (hb : Below w9.heap.size w9 w') => rat_any w' _ G1 e1 G2 e2 G3 e3 r3 a.id (href.below hb) hok)
        rw [hrel.node, hrel.has] at CA
        unfold Rf.val Nd.val at CA
        have Hst9 := Lib.hid hst
        have Href9 := Lib.hid href
        have Hrel9 := Lib.hid hrel
        have Hlen9 := Lib.hid hlen
        have Hbx9 := Lib.hid hbx
        have HBF9 := Lib.hid hBF
        have Hok9 := Lib.hid hok
        have HB9 := Lib.hid hbx.lt
        refine (at_any w9 w.heap.size g F3 s3 a.id hst.at_ hst.inv.ok).mono ?_
        rintro e w10 ⟨rfl, hb10⟩
        have Hb10 := Lib.hid hb10
        obtain ⟨⟨y0, y1, y2, y3⟩, _⟩ := (hbx.below hb10 hbx.lt).pool
        obtain ⟨_, i1, _⟩ := Hcells.out w10 (hst.more hb10).below
        have hw10 : B < w10.heap.size := (hbx.below hb10 hbx.lt).lt
        have hb10' : b < w10.heap.size := by omega
        unfold Nd.val
        generalize s3.node a.id = nd at *
        generalize s3.is a.id = isv at *
        clear hst href hrel hlen hbx hBF hok hb10
        go_wp2_with fail
        have hB911 := Hb10.out.alloc Hb10.out.size (.cells #[.int .i64 nd.id, .int .i64 nd.var, .int .i64 nd.lo, .int .i64 nd.hi, .int .i64 nd.refs] 29)
        have hQ := Blk.new w10 29 #[.int .i64 nd.id, .int .i64 nd.var, .int .i64 nd.lo, .int .i64 nd.hi, .int .i64 nd.refs]
        have hQ9 := Hb10.out.size
        generalize w10.heap.size = Q at *
        generalize (w10.alloc (.cells #[.int .i64 nd.id, .int .i64 nd.var, .int .i64 nd.lo, .int .i64 nd.hi, .int .i64 nd.refs] 29)) = w11 at *
        have HQ := Lib.hid hQ
        have H911 := Lib.hid hB911
        have hw11 : B < w11.heap.size := Nat.lt_of_lt_of_le HB9.out hB911.size
        have hpool : Cells (heapOf w11) B 0 [.int .i64 r3.room, .slice G1 r3.nodes.length e1, .slice G2 r3.taken.length e2, .slice G3 r3.free.length e3] := cells_blk (Hbx9.out.below hB911 HB9.out)
        have hidc := at_cell (Hcells.out w11 (Hst9.out.more hB911).below).2.1
        have CA2 := Lib.hid (fun (w' : World) (hb : Below w11.heap.size w11 w') => CA.out w' (hB911.trans (hb.mono hB911.size)))
        have hkL := hlt
        refine region_as (opsOf Try.f8 15) (by kernel_rfl) ?_
        refine r15 w11 B b o L c k a.id _ _ _ _ [.int .i64 nd.id, .int .i64 nd.var, .int .i64 nd.lo, .int .i64 nd.hi, .int .i64 nd.refs] isv _ _ _ _ _ _ _ _ _ _ _ _ _ _ _ _ _ _ _ _ _ _ _ _ _ _ _ _ _ _ _ _ _ _ _ _ _ _ _ _ _ _ _ _ _ _ _ _ _ _ _ _ _ _ _ _ _ _ _ _ _ _ _ _ _ _ _ _ _ _ _ _ _ _ _ _ _ _ _ _ _ _ _ _ _ _ _ _ _ _ _ _ _ _ _ _ _ _ _ _ _ _ _ _ _ _ _ _ _ _ _ _ _ _ _ _ _ _ _ _ _ _ _ _ _ _ _ _ _ _ _ _ _ _ _ _ _ _ _ _ _ _ hkL rfl rfl hpool hidc CA2 ?_
        intro vals w12 Y h0 hb12 hY hv10 hv12
        have HB12 := Lib.hid (hB911.trans (hb12.mono hB911.size))
        have hl15 : opsOf Try.f8 15 = opsOf Try.f8 15 := rfl
        conv at hl15 => rhs; simp [opsOf, Try.f8, regionIn]
        rw [hl15]
        clear hl15
        simp only [textL, actL, dstAt, List.length_cons, List.length_nil, Nat.reduceAdd, List.getElem?_cons_succ, List.getElem?_cons_zero, Option.bind_some, if_true, Act.put, List.setIfInBounds_toArray, List.set_cons_succ, List.set_cons_zero, hv10, hv12]
        have HQ12 := Lib.hid (hQ.below hb12 (hQ.lt))
        have HY := Lib.hid hY
        clear hv10 hv12 h0 hpool hidc CA2 y0 y1 y2 y3 i1 hY hb12 hB911
        go_wp2_with fail
        have B12 := HB12.out
        have hst12 := Hst9.out.more B12
        have href12 := Href9.out.below B12
        have hbx12 := Hbx9.out.below B12 HB9.out
        have hnl : s3.nodes.length ≤ 99 := by
          have h9 := Hlen9.out
          unfold Pl.nodes Pl.ids Pl.upto
          rw [List.length_map]
          have h1 := List.length_filter_le (fun i => s3.taken.getD i false) (List.range s3.taken.length)
          rw [List.length_range] at h1
          have := Hst9.out.inv.ok.1
          omega
        have htk : s3.nodes.take (99 : Int).toNat = s3.nodes := List.take_of_length_le (by simpa using hnl)
        have CL := Lib.hid (fun (w' : World) (hb : Below w12.heap.size w12 w') => len_any w' w.heap.size g F3 s3 (hst12.more hb).at_)
        have CR := Lib.hid (fun (w' : World) (hb : Below w12.heap.size w12 w') => room_any w' w.heap.size g F3 s3 (hst12.more hb).at_)
        rw [← Hrel9.out.room] at CR
        have RLn := Lib.hid (fun (w' : World) (hb : Below w12.heap.size w12 w') => rlen_any w' _ G1 e1 G2 e2 G3 e3 r3 (href12.below hb) Hok9.out)
        rw [Hrel9.out.many Hst9.out.inv] at RLn
        have CA0 := fun (w' : World) (hb : Below w12.heap.size w12 w') => all_any w' w.heap.size g F3 s3 99 (hst12.more hb).at_ Hst9.out.inv.ok ((hst12.more hb).at_.lt)
        rw [htk] at CA0
        have RA0 := fun (w' : World) (hb : Below w12.heap.size w12 w') => rall_any w' _ G1 e1 G2 e2 G3 e3 r3 (href12.below hb) Hok9.out
        rw [Hrel9.out.all] at RA0
        refine region_as (opsOf Try.f8 16) (by kernel_rfl) ?_
        refine r16 w12 g B Q Y s3.many isv nd r3 G1 e1 G2 e2 G3 e3 s3.nodes _ _ _ _ _ _ _ _ _ _ _ _ _ _ _ _ _ _ _ _ _ _ _ _ _ _ _ _ _ _ _ _ _ _ _ _ _ _ _ _ _ _ _ _ _ _ _ _ _ _ _ _ _ _ _ _ _ _ _ _ _ _ _ _ _ _ _ _ _ _ _ _ _ _ _ _ _ _ _ _ _ _ _ _ _ _ _ _ _ _ _ _ _ _ _ _ _ _ _ _ _ _ _ _ _ _ _ _ _ _ _ _ _ _ _ _ _ _ _ _ _ _ _ _ _ _ _ _ _ _ _ _ _ _ _ _ _ _ (cells_blk HQ12.out) (cells_blk HY.out) (by omega) (cells_blk hbx12) CL CR RLn CA0 RA0 ?_
        intro vals2 w13 hv33 hb13
        have hPI : PI w B w13 g (k + 1) := ⟨F3, s3, r3, G1, e1, G2, e2, G3, e3, hst12.more hb13, href12.below hb13, Hrel9.out, Hlen9.out, hbx12.below hb13 hbx12.lt, HBF9.out⟩
        have HPI := Lib.hid hPI
        have hl16 : opsOf Try.f8 16 = opsOf Try.f8 16 := rfl
        conv at hl16 => rhs; simp [opsOf, Try.f8, regionIn]
        rw [hl16]
        clear hl16
        simp only [textL, actL, dstAt, List.length_cons, List.length_nil, Nat.reduceAdd, List.getElem?_cons_succ, List.getElem?_cons_zero, Option.bind_some, if_true, Act.put, List.setIfInBounds_toArray, List.set_cons_succ, List.set_cons_zero, hv33]
        clear hPI hv33 CL CR RLn CA0 RA0 hst12 href12 hbx12 hb13 htk
        go_wp2_with fail
        exact ⟨⟨k + 1, hlt, by go_num, HPI.out⟩, by simp [intOf]; omega⟩
    · obtain rfl : k = L := by omega
      have hok := hrel.ok hst.inv (by omega)
      have hS := Sat.start wr
      have hpool : Cells (heapOf wr) B 0 [.int .i64 r.room, .slice A1 r.nodes.length c1, .slice A2 r.taken.length c2, .slice A3 r.free.length c3] := cells_blk hbx
      have AP := Lib.hid (fun (w' : World) (ns : List PH) (h : Sat wr (heapOf wr) ns w') => (at_any w' w.heap.size g F1 s at_ (hst.more (h.end_ (PH.le.refl _))).at_ hst.inv.ok).mono fun e w'' he => (And.intro he.1 (h.below_ he.2) : _ ∧ Sat wr (heapOf wr) ns w''))
      have RP := Lib.hid (fun (w' : World) (ns : List PH) (h : Sat wr (heapOf wr) ns w') => (rat_any w' _ A1 c1 A2 c2 A3 c3 r at_ (href.below (h.end_ (PH.le.refl _))) hok).mono fun e w'' he => (And.intro he.1 (h.below_ he.2) : _ ∧ Sat wr (heapOf wr) ns w''))
      rw [hrel.node, hrel.has] at RP
      have LV := Lib.hid (fun (w' : World) (ns : List PH) (h : Sat wr (heapOf wr) ns w') => (lives_any w').mono fun e w'' he => (And.intro he.1 (h.below_ he.2) : _ ∧ Sat wr (heapOf wr) ns w''))
      unfold Nd.val at AP RP
      unfold Rf.val at RP
      generalize s.node at_ = nd at *
      generalize s.is at_ = isv at *
      have HE := Lib.hid hst.below
      have hi : (isv == isv) = true := by cases isv <;> rfl
      clear Hst Href Hrel Hbx HBF Hlen hst href hrel hlen hbx hBF hok
      go_wp2_with (first | ((with_reducible refine atList ?_); first | ((with_reducible refine isBoxD 18 ?_); refine bx hS rfl rfl rfl ?_; clear hS; intro XM w hS; (try simp only [Act.eval, Array.getD_eq_getD_getElem?, List.getElem?_toArray, List.getElem?_cons_succ, List.getElem?_cons_zero, Option.getD_some, Value.cells] at hS); (try simp only [Act.put, List.setIfInBounds_toArray, List.set_cons_succ, List.set_cons_zero])) | ((with_reducible refine isAllocD 18 ?_); (refine' al (z := _) hS rfl rfl ?ha ?_); (case ha => first | exact ty_z29 | exact ty_z3 | exact ty_z53); clear hS; intro XM w hS; (try simp only [Act.eval, Array.getD_eq_getD_getElem?, List.getElem?_toArray, List.getElem?_cons_succ, List.getElem?_cons_zero, Option.getD_some, Value.cells] at hS); (try simp only [Act.put, List.setIfInBounds_toArray, List.set_cons_succ, List.set_cons_zero])) | ((with_reducible refine isBoxD 20 ?_); refine bx hS rfl rfl rfl ?_; clear hS; intro XN w hS; (try simp only [Act.eval, Array.getD_eq_getD_getElem?, List.getElem?_toArray, List.getElem?_cons_succ, List.getElem?_cons_zero, Option.getD_some, Value.cells] at hS); (try simp only [Act.put, List.setIfInBounds_toArray, List.set_cons_succ, List.set_cons_zero])) | ((with_reducible refine isAllocD 20 ?_); (refine' al (z := _) hS rfl rfl ?ha ?_); (case ha => first | exact ty_z29 | exact ty_z3 | exact ty_z53); clear hS; intro XN w hS; (try simp only [Act.eval, Array.getD_eq_getD_getElem?, List.getElem?_toArray, List.getElem?_cons_succ, List.getElem?_cons_zero, Option.getD_some, Value.cells] at hS); (try simp only [Act.put, List.setIfInBounds_toArray, List.set_cons_succ, List.set_cons_zero])) | ((with_reducible refine isGuard ?_); first | go_skip | (refine guarded_yes ?hw ?_; case hw => (simp only [Region.wanted, yielded, List.getElem?_toArray, List.getElem?_cons_succ, List.getElem?_cons_zero, Option.bind_some, beq_self_eq_true]; done)) | ((refine' guarded_cases (b := _) ?hy ?_ ?_); (case hy => (simp only [yielded, List.getElem?_toArray, List.getElem?_cons_succ, List.getElem?_cons_zero, Option.bind_some]; exact rfl)); all_goals (intro hb; (try simp only [Bool.not_true, Bool.not_false] at hb); (try simp only [hb]); (try simp only [Act.put, List.setIfInBounds_toArray, List.set_cons_succ, List.set_cons_zero]); first | ((have hf : False := by (simp at hb; done)); cases hf) | ((have hf : False := by (simp at hb; omega)); cases hf) | skip))) | ((with_reducible refine isLoad ?_); first | (refine ld1 0 hS rfl rfl ?ha rfl rfl rfl ?_; (case ha => first | exact ty_agg3); (try simp only [Act.put, List.setIfInBounds_toArray, List.set_cons_succ, List.set_cons_zero])) | (refine ld1 1 hS rfl rfl ?ha rfl rfl rfl ?_; (case ha => first | exact ty_agg3); (try simp only [Act.put, List.setIfInBounds_toArray, List.set_cons_succ, List.set_cons_zero])) | (refine ld1 2 hS rfl rfl ?ha rfl rfl rfl ?_; (case ha => first | exact ty_agg3); (try simp only [Act.put, List.setIfInBounds_toArray, List.set_cons_succ, List.set_cons_zero])) | (refine ldN 0 hS rfl rfl ?ha rfl rfl ?hb ?_; (case ha => first | exact ty_agg29 | exact ty_agg53); (case hb => first | exact ty_sz29 | exact ty_sz53); (try simp only [Act.put, List.setIfInBounds_toArray, List.set_cons_succ, List.set_cons_zero])) | (refine ldN 1 hS rfl rfl ?ha rfl rfl ?hb ?_; (case ha => first | exact ty_agg29 | exact ty_agg53); (case hb => first | exact ty_sz29 | exact ty_sz53); (try simp only [Act.put, List.setIfInBounds_toArray, List.set_cons_succ, List.set_cons_zero])) | (refine ldN 2 hS rfl rfl ?ha rfl rfl ?hb ?_; (case ha => first | exact ty_agg29 | exact ty_agg53); (case hb => first | exact ty_sz29 | exact ty_sz53); (try simp only [Act.put, List.setIfInBounds_toArray, List.set_cons_succ, List.set_cons_zero])) | ((refine' ldI1 (v := _) hS rfl rfl ?ha rfl ?hb ?_); (case ha => first | exact ty_agg3); (case hb => assumption); (try simp only [Act.put, List.setIfInBounds_toArray, List.set_cons_succ, List.set_cons_zero])) | ((refine' ldIN (vs := _) hS rfl rfl ?ha rfl ?hc ?hb ?_); (case ha => first | exact ty_agg29 | exact ty_agg53); (case hc => assumption); (case hb => first | exact ty_sz29 | exact ty_sz53); (try simp only [Act.put, List.setIfInBounds_toArray, List.set_cons_succ, List.set_cons_zero]))) | ((with_reducible refine isStore ?_); first | (refine st1 0 hS rfl rfl rfl rfl rfl ?ha rfl rfl ?hb ?_; (case ha => first | exact ty_sz3); (case hb => (simp; done)); clear hS; intro w hS; (try simp only [List.set_cons_succ, List.set_cons_zero, List.setIfInBounds_toArray, Act.eval, Array.getD_eq_getD_getElem?, List.getElem?_toArray, List.getElem?_cons_succ, List.getElem?_cons_zero, Option.getD_some, Value.cells] at hS); (try simp only [Act.put, List.setIfInBounds_toArray, List.set_cons_succ, List.set_cons_zero])) | (refine st1 1 hS rfl rfl rfl rfl rfl ?ha rfl rfl ?hb ?_; (case ha => first | exact ty_sz3); (case hb => (simp; done)); clear hS; intro w hS; (try simp only [List.set_cons_succ, List.set_cons_zero, List.setIfInBounds_toArray, Act.eval, Array.getD_eq_getD_getElem?, List.getElem?_toArray, List.getElem?_cons_succ, List.getElem?_cons_zero, Option.getD_some, Value.cells] at hS); (try simp only [Act.put, List.setIfInBounds_toArray, List.set_cons_succ, List.set_cons_zero])) | (refine st1 2 hS rfl rfl rfl rfl rfl ?ha rfl rfl ?hb ?_; (case ha => first | exact ty_sz3); (case hb => (simp; done)); clear hS; intro w hS; (try simp only [List.set_cons_succ, List.set_cons_zero, List.setIfInBounds_toArray, Act.eval, Array.getD_eq_getD_getElem?, List.getElem?_toArray, List.getElem?_cons_succ, List.getElem?_cons_zero, Option.getD_some, Value.cells] at hS); (try simp only [Act.put, List.setIfInBounds_toArray, List.set_cons_succ, List.set_cons_zero])) | (refine stN 0 hS rfl rfl rfl rfl rfl ?ha rfl rfl ?_; (case ha => first | exact ty_sz29 | exact ty_sz53); clear hS; intro w hS; (try simp only [List.set_cons_succ, List.set_cons_zero, List.setIfInBounds_toArray, Act.eval, Array.getD_eq_getD_getElem?, List.getElem?_toArray, List.getElem?_cons_succ, List.getElem?_cons_zero, Option.getD_some, Value.cells] at hS); (try simp only [Act.put, List.setIfInBounds_toArray, List.set_cons_succ, List.set_cons_zero])) | (refine stN 1 hS rfl rfl rfl rfl rfl ?ha rfl rfl ?_; (case ha => first | exact ty_sz29 | exact ty_sz53); clear hS; intro w hS; (try simp only [List.set_cons_succ, List.set_cons_zero, List.setIfInBounds_toArray, Act.eval, Array.getD_eq_getD_getElem?, List.getElem?_toArray, List.getElem?_cons_succ, List.getElem?_cons_zero, Option.getD_some, Value.cells] at hS); (try simp only [Act.put, List.setIfInBounds_toArray, List.set_cons_succ, List.set_cons_zero])) | (refine stN 2 hS rfl rfl rfl rfl rfl ?ha rfl rfl ?_; (case ha => first | exact ty_sz29 | exact ty_sz53); clear hS; intro w hS; (try simp only [List.set_cons_succ, List.set_cons_zero, List.setIfInBounds_toArray, Act.eval, Array.getD_eq_getD_getElem?, List.getElem?_toArray, List.getElem?_cons_succ, List.getElem?_cons_zero, Option.getD_some, Value.cells] at hS); (try simp only [Act.put, List.setIfInBounds_toArray, List.set_cons_succ, List.set_cons_zero]))) | ((with_reducible refine isBox ?_); refine bx hS rfl rfl rfl ?_; clear hS; intro X w hS; (try simp only [Act.eval, Array.getD_eq_getD_getElem?, List.getElem?_toArray, List.getElem?_cons_succ, List.getElem?_cons_zero, Option.getD_some, Value.cells] at hS); (try simp only [Act.put, List.setIfInBounds_toArray, List.set_cons_succ, List.set_cons_zero])) | ((with_reducible refine isAlloc ?_); (refine' al (z := _) hS rfl rfl ?ha ?_); (case ha => first | exact ty_z29 | exact ty_z3 | exact ty_z53); clear hS; intro X w hS; (try simp only [Act.eval, Array.getD_eq_getD_getElem?, List.getElem?_toArray, List.getElem?_cons_succ, List.getElem?_cons_zero, Option.getD_some, Value.cells] at hS); (try simp only [Act.put, List.setIfInBounds_toArray, List.set_cons_succ, List.set_cons_zero]))) | (go_at_call 21; ((with_reducible refine Calls.mono (AP.out _ _ hS) ?_); clear hS; rintro e w2 ⟨rfl, hS⟩)) | (go_at_call 29; ((with_reducible refine Calls.mono (RP.out _ _ hS) ?_); clear hS; rintro e w2 ⟨rfl, hS⟩)) | (go_at_call 14; ((with_reducible refine Calls.mono (LV.out _ _ hS) ?_); clear hS; rintro e w2 ⟨rfl, hS⟩)))
      go_ret
      exact ⟨rfl, HE.out.trans ((hS.end_ (PH.le.refl _)).mono HE.out.size)⟩
end Go.Proofs.Ytcnejokbldohlaa
