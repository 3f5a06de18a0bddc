/- The law's All: the nodes that Each hands over, at most so many. -/
import Derived.Test.YtcnejokbldohlaaPg
namespace Go.Proofs.Ytcnejokbldohlaa
set_option linter.unusedSimpArgs false
set_option linter.unusedVariables false
open Go.ChangeShapes Go.WideShapes Go.ChangeAt Go.RowKit Go.Shelf
set_option linter.unusedVariables false
attribute [local go_sem] Oper.semAt_some
attribute [local go_sem ↓] wpIn_at_zero wpIn_at_succ
/-- The end of a call that hands back a new list of nodes. -/
def NewNL (w : World) (l : List Nd) (e : Ending) (w' : World) : Prop := ∃ A c, e = .returned (.slice A l.length c) ∧ l.length ≤ c ∧ Own w' w.heap.size 29 5 (.slice A l.length c) l.length (nds l) ∧ Below w.heap.size w w'
theorem nds_snoc (l : List Nd) (n : Nd) : nds (l ++ [n]) = nds l ++ n.cells := by simp [nds]
/-- What All knows of its own between two rounds: its box holds the nodes of l. -/
def AllI (w : World) (most : Int) (l : List Nd) (W' : World) (S : Nat → Prop) : Prop :=
  ∃ v, Blk W' (w.heap.size + 1 + 1) 30 #[v] ∧ Own W' w.heap.size 29 5 v l.length (nds l) ∧ (∀ b, v.ownBlock = some b → ¬ S b) ∧ ¬ S (w.heap.size + 1 + 1) ∧ Below w.heap.size w W' ∧ Blk W' w.heap.size 3 #[.int .i64 most]
theorem AllI.turn {w W W' : World} {most : Int} {l : List Nd} {S : Nat → Prop} {row : Option Nat} (h : AllI w most l W S) (hg : W.grownBy W' row) (hr : ∀ r, row = some r → w.heap.size ≤ r ∧ ∃ o : Obj, W.heap[r]? = some o ∧ o.isCells = false) : AllI w most l W' S := by
  obtain ⟨v, h1, h2, h3, h4, h5, h6⟩ := h
  exact ⟨v, h1.turn hg (fun r e => (hr r e).2), h2.turn hg (fun r e => (hr r e).2), h3, h4, h5.grown hg h5.size (fun r e => (hr r e).1), h6.turn hg (fun r e => (hr r e).2)⟩
theorem AllI.own (w : World) (most : Int) (f : List Nd → List Nd) (S : Nat → Prop) {B : Nat} (hB : w.heap.size ≤ B) : OwnFrom B (fun pre W => AllI w most (f pre) W S) :=
  fun _ _ _ _ h hg hr => h.turn hg (fun r e => ⟨by have := (hr r e).1; omega, (hr r e).2⟩)
theorem AllI.below {w W W' : World} {most : Int} {l : List Nd} {S : Nat → Prop} (h : AllI w most l W S) (hb : Below W.heap.size W W') : AllI w most l W' S :=
  h.turn (row := none) ⟨hb.os, hb.tape, hb.output, hb.size, fun k hk _ => hb.block k hk⟩ (fun r e => by cases e)
theorem most_stop {most : Int} {n : Nat} (h1 : n ≤ most.toNat) (h2 : most ≤ (n : Int)) : n = most.toNat := by omega
set_option maxHeartbeats 2000000 in
theorem all_gen (w : World) (p : Option Addr) (F : List Nat) (xs : List Nd) (most : Int) (hF : ∀ b ∈ F, b < w.heap.size) (hxl : xs.length ≤ 2000000)
    (hit : ∀ W Bp, Below w.heap.size w W → Blk W Bp 22 #[.pointer p] → Iter Try.prog 54 #[.pointer (some ⟨Bp, 0, none⟩)] Nd.enc (fun b => b = Bp ∨ b ∈ F) xs W) :
    Calls Try.prog 13 #[.pointer p, .int .i64 most] w (NewNL w (xs.take most.toNat)) := by
  obtain ⟨i1, hi1, hz1, hs1, hy1⟩ := info_parts node_info
  refine (callsIn_wide (n := 0)).1 ?_
  refine callsIn_of_wp_marks (n := 0) Try.func13 rfl trivial ?_ rfl
  simp only [Try.ntmps13, List.size_toArray, List.length_cons, List.length_nil, Nat.reduceAdd, Nat.reduceSub, Array.replicate_succ, Array.replicate_zero, List.push_toArray, List.append_toArray, List.nil_append, List.cons_append]
  have hnf : ∀ (W : World) (a : Array Value), (binOp BinOp.eql 71 (Value.func (Fn.func 54) #[] a) Value.nilFunc).run Try.prog W = .ok (.bool false) W := fun _ _ => by kernel_rfl
  gi_wp2_with (refine wide_call (each_any _ _) ?_; rintro e w' ⟨rfl, rfl⟩)
  have b0 : Below w.heap.size w ((((w.alloc (Obj.cells #[Value.int IntKind.i64 most] 3)).alloc (Obj.cells #[] 29)).alloc (Obj.cells #[Value.slice (some { block := w.heap.size + 1, off := 0 }) 0 0] 30)).alloc (Obj.cells #[Value.pointer p] 22)) :=
    ((((Below.refl _ _).alloc (Nat.le_refl _) _).alloc (by simp) _).alloc (by simp; omega) _).alloc (by simp; omega) _
  have b1 := (((Blk.new w 3 #[Value.int IntKind.i64 most]).alloc (Obj.cells #[] 29)).alloc (Obj.cells #[Value.slice (some { block := w.heap.size + 1, off := 0 }) 0 0] 30)).alloc (Obj.cells #[Value.pointer p] 22)
  have b2 := ((Own.ofRow (World.ownsRow_lit (base := w.heap.size) (size := 5) (e := 29) (w.alloc (Obj.cells #[Value.int IntKind.i64 most] 3)) #[] 0 (by simp) (by unfold maxLen; omega) rfl)).alloc (Obj.cells #[Value.slice (some { block := w.heap.size + 1, off := 0 }) 0 0] 30)).alloc (Obj.cells #[Value.pointer p] 22)
  have b3 := (Blk.new ((w.alloc (Obj.cells #[Value.int IntKind.i64 most] 3)).alloc (Obj.cells #[] 29)) 30 #[Value.slice (some { block := w.heap.size + 1, off := 0 }) 0 0]).alloc (Obj.cells #[Value.pointer p] 22)
  have b4 := Blk.new (((w.alloc (Obj.cells #[Value.int IntKind.i64 most] 3)).alloc (Obj.cells #[] 29)).alloc (Obj.cells #[Value.slice (some { block := w.heap.size + 1, off := 0 }) 0 0] 30)) 22 #[Value.pointer p]
  simp only [World.size_alloc] at b2 b3 b4
  have hz4 : ((((w.alloc (Obj.cells #[Value.int IntKind.i64 most] 3)).alloc (Obj.cells #[] 29)).alloc (Obj.cells #[Value.slice (some { block := w.heap.size + 1, off := 0 }) 0 0] 30)).alloc (Obj.cells #[Value.pointer p] 22)).heap.size = w.heap.size + 4 := by simp
  generalize ((((w.alloc (Obj.cells #[Value.int IntKind.i64 most] 3)).alloc (Obj.cells #[] 29)).alloc (Obj.cells #[Value.slice (some { block := w.heap.size + 1, off := 0 }) 0 0] 30)).alloc (Obj.cells #[Value.pointer p] 22)) = W4 at *
  have hKlt : ∀ b, (b = w.heap.size + 1 + 1 + 1 ∨ b ∈ F) → b < W4.heap.size := fun b hb => by
    rcases hb with rfl | hb
    · omega
    · have := hF b hb; omega
  refine rangeFunc_law (K := fun b => b = w.heap.size + 1 + 1 + 1 ∨ b ∈ F) (gf := 54) (lb := #[.pointer (some ⟨w.heap.size + 1 + 1 + 1, 0, none⟩)]) (w0 := W4) rfl (enters_of Try.func54 (by kernel_rfl) rfl)
    (hit W4 _ b0 b4) (Keeps.refl _ _) hKlt (fun _ => rfl)
    (fun S pre W' => pre.length ≤ most.toNat ∧ AllI w most pre W' S)
    (fun S c _ W' => c = .exit 0 ∧ AllI w most (xs.take most.toNat) W' S) ?hI ?hIx ?start
    (fun x a' W' => ∃ Bx, Blk W' Bx 29 x.cells.toArray ∧ a' = ⟨#[Value.pointer p, Value.int IntKind.i64 most, undef,
          Value.pointer (some { block := w.heap.size, off := 0 }), Value.slice none 0 0,
          Value.pointer (some { block := w.heap.size + 1 + 1, off := 0 }),
          Value.func (Fn.func 54) #[] #[Value.pointer (some { block := w.heap.size + 1 + 1 + 1, off := 0 })], Value.pointer (some ⟨Bx, 0, none⟩),
          Value.slice (some { block := w.heap.size + 1, off := 0 }) 0 0, Value.pointer p,
          Value.func (Fn.func 54) #[] #[Value.pointer (some { block := w.heap.size + 1 + 1 + 1, off := 0 })],
          Value.func (Fn.func 54) #[] #[Value.pointer (some { block := w.heap.size + 1 + 1 + 1, off := 0 })],
          Value.bool false, undef,
          Value.func (Fn.func 54) #[] #[Value.pointer (some { block := w.heap.size + 1 + 1 + 1, off := 0 })], x.val,
          undef, undef, undef, undef, undef, undef, undef, undef, undef], []⟩) ?hAx ?assign ?body ?done ?stop
  case hI => exact fun S => OwnFrom.and (ownFrom_pure _ _) (AllI.own w most id S (by omega))
  case hIx => exact fun S c => OwnFrom.and (ownFrom_pure _ _) (AllI.own w most (fun _ => xs.take most.toNat) S (by omega))
  case start =>
    intro S W' hb hst
    have hS : ∀ b, w.heap.size ≤ b → b < w.heap.size + 3 → ¬ S b := fun b h1 h2 hs => by
      rcases hst.2 b hs with (rfl | h) | h
      · omega
      · have := hF b h; omega
      · omega
    exact ⟨Nat.zero_le _, AllI.below ⟨_, b3, b2, fun b hb' => hS b (by simp [Value.ownBlock] at hb'; omega) (by simp [Value.ownBlock] at hb'; omega), hS _ (by omega) (by omega), b0, b1⟩ hb⟩
  case hAx =>
    rintro x a' s X Y row ⟨Bx, h1, h2⟩ hg hr
    exact ⟨Bx, h1.turn hg (fun r e => (hr r e).2), h2⟩
  case assign =>
    rintro l' S pre x suf W' K' hxs hSl hKS hi hK
    have HK := Lib.hid hK
    have Hi := Lib.hid hi
    clear hK hi
    unfold Nd.enc Nd.val
    gi_wp2
    exact HK.out _ _ ((Keeps.refl S W').alloc hSl _) ⟨Hi.out.1, Hi.out.2.below ((Below.refl _ _).alloc (Nat.le_refl _) _)⟩ ⟨_, Blk.new W' _ _, rfl⟩
  case body =>
    rintro l' S pre x suf a' W' hxs hSl hKS ⟨hlen, v, h1, h2, h3, h4, h5, h6⟩ ⟨Bx, hbx, rfl⟩
    obtain ⟨A, c, rfl, hcap⟩ := h2.shape
    have hpl : pre.length < xs.length := by rw [hxs]; simp
    have c0 : W'.cell? ⟨w.heap.size + 1 + 1, 0, none⟩ = some (.slice A pre.length c) := h1.cell 0
    have c1 : W'.cell? ⟨w.heap.size, 0, none⟩ = some (.int .i64 most) := h6.cell 0
    have H1 := Lib.hid h1
    have H2 := Lib.hid h2
    have H3 := Lib.hid h3
    have H4 := Lib.hid h4
    have H5 := Lib.hid h5
    have H6 := Lib.hid h6
    have Hxs := Lib.hid hxs
    have HSl := Lib.hid hSl
    have hp : (pre.length : Int) ≤ 2000000 := by omega
    clear h1 h2 h3 h4 h6 hxs hKS hSl hit b0 b1 b2 b3 b4 hnf
    by_cases hge : most ≤ (pre.length : Int)
    · have Hlen := Lib.hid (most_stop hlen hge)
      clear h5 hlen hbx
      gi_wp2
      refine ⟨Keeps.refl _ _, rfl, ?_⟩
      have : xs.take most.toNat = pre := by rw [Hxs.out, ← Hlen.out]; simp
      rw [this]
      exact ⟨_, H1.out, H2.out, H3.out, H4.out, H5.out, H6.out⟩
    · have hlt : (pre.length : Int) < most := by omega
      have hlen' : pre.length + 1 ≤ most.toNat := by omega
      have d0 : W'.cell? ⟨Bx, 0, none⟩ = some (.int .i64 x.id) := hbx.cell 0
      have d1 : W'.cell? ⟨Bx, 1, none⟩ = some (.int .i64 x.var) := hbx.cell 1
      have d2 : W'.cell? ⟨Bx, 2, none⟩ = some (.int .i64 x.lo) := hbx.cell 2
      have d3 : W'.cell? ⟨Bx, 3, none⟩ = some (.int .i64 x.hi) := hbx.cell 3
      have d4 : W'.cell? ⟨Bx, 4, none⟩ = some (.int .i64 x.refs) := hbx.cell 4
      have hsz := h5.size
      have Hlen := Lib.hid hlen'
      clear h5 hlen hbx hge hlen'
      gi_wp2_with (gi_at_builtin; refine wpListIn_append_Own _ rfl (.tmp 20) (.tmp 22) _ rfl w.heap.size 29 i1 (.agg #[.int .i64 0, .int .i64 0, .int .i64 0, .int .i64 0, .int .i64 0]) 5 40 Try.underlying30 hi1 hz1 hs1 hy1 rfl (by omega) (.slice A pre.length c) pre.length (nds pre) rfl (H2.out.alloc _) ⟨W'.heap.size, 0, none⟩ 1 1 x.cells rfl rfl (cells_new W' _ _) (by intro u hu; simp [Nd.cells] at hu; rcases hu with rfl | rfl | rfl | rfl | rfl <;> rfl) (by unfold maxLen; omega) (by omega) (by simp; omega) ?_; intro v' w1 hown hgrow hat; obtain ⟨A1, cap1, rfl, _⟩ := hown.shape; have hb1 := (H1.out.alloc (.cells #[.int .i64 x.id, .int .i64 x.var, .int .i64 x.lo, .int .i64 x.hi, .int .i64 x.refs] 29)).grown hgrow (fun e => H2.out.ne_blk H1.out (by decide) e.symm); have e1 : w1.cell? ⟨w.heap.size + 1 + 1, 0, none⟩ = some (.slice A pre.length c) := hb1.cell 0; have g1 := hb1.frozen 0; have Hb1 := Lib.hid hb1; have Hown := Lib.hid hown; have Hgrow := Lib.hid hgrow; have Hat := Lib.hid hat; clear hown hgrow hat hb1)
      have hKp : Keeps S W' (w1.setCell ⟨w.heap.size + 1 + 1, 0, none⟩ (.slice A1 (pre.length + 1) cap1)) :=
        ((((Keeps.refl S W').alloc HSl.out _).grown HSl.out Hgrow.out (fun r e => H3.out r e))).setCell H4.out _
      have hsz' := H5.out.size
      refine ⟨hKp, by simp; omega, ?_⟩
      have hbel := ((H5.out.alloc hsz' _).grown Hgrow.out (by simp; omega) (fun r e => (H2.out.lt r e).1)).setCell (p := ⟨w.heap.size + 1 + 1, 0, none⟩) (by show w.heap.size ≤ w.heap.size + 1 + 1; omega) (.slice A1 (pre.length + 1) cap1)
      refine ⟨_, Hb1.out.set_ 0 _, ?_, ?_, H4.out, hbel, ?_⟩
      · rw [nds_snoc, List.length_append, List.length_singleton]
        exact Hown.out.far (Hown.out.ne_blk Hb1.out (by decide)) _
      · intro b hb hs
        rcases Hat.out with h7 | h7
        · rw [h7] at hb; exact H3.out b hb hs
        · rw [h7] at hb
          simp only [World.size_alloc, Option.some.injEq] at hb
          have := HSl.out b hs
          omega
      · exact ((H6.out.alloc _).grown Hgrow.out (fun e => H2.out.ne_blk H6.out (by decide) e.symm)).far (by show w.heap.size ≠ w.heap.size + 1 + 1; omega) _
  case done =>
    rintro D S W3 hD hSS ⟨hlen, v, h1, h2, h3, h4, h5, h6⟩ hd
    obtain ⟨A, c, rfl, hcap⟩ := h2.shape
    have c0 : W3.cell? ⟨w.heap.size + 1 + 1, 0, none⟩ = some (.slice A xs.length c) := h1.cell 0
    have H2 := Lib.hid h2
    have H5 := Lib.hid h5
    have Hd := Lib.hid hd
    have Hl := Lib.hid hlen
    clear h1 h2 h3 h4 h5 h6 hd hSS hit b0 b1 b2 b3 b4 hnf hlen
    gi_wp2
    refine ⟨by simp, .inl ⟨_, _, rfl, run_takeDeferred Hd.out, ?_⟩⟩
    refine ⟨_, results_tmp rfl _ _ _, ?_⟩
    rw [List.take_of_length_le Hl.out]
    exact ⟨A, c, rfl, hcap, H2.out.turn (grownBy_putObj' W3 D _) (fun r e => by cases e; exact ⟨_, Hd.out, rfl⟩), H5.out.grown (grownBy_putObj' W3 D _) H5.out.size (fun r e => by cases e; omega)⟩
  case stop =>
    rintro D S c pre W3 hD hSS hpre ⟨rfl, v, h1, h2, h3, h4, h5, h6⟩ hd
    obtain ⟨A, c, rfl, hcap⟩ := h2.shape
    have c0 : W3.cell? ⟨w.heap.size + 1 + 1, 0, none⟩ = some (.slice A (xs.take most.toNat).length c) := h1.cell 0
    have H2 := Lib.hid h2
    have H5 := Lib.hid h5
    have Hd := Lib.hid hd
    generalize xs.take most.toNat = ys at *
    clear h1 h2 h3 h4 h5 h6 hd hSS hit b0 b1 b2 b3 b4 hnf
    gi_wp2
    refine ⟨by simp, .inl ⟨_, _, rfl, run_takeDeferred Hd.out, ?_⟩⟩
    refine ⟨_, results_tmp rfl _ _ _, ?_⟩
    exact ⟨A, c, rfl, hcap, H2.out.turn (grownBy_putObj' W3 D _) (fun r e => by cases e; exact ⟨_, Hd.out, rfl⟩), H5.out.grown (grownBy_putObj' W3 D _) H5.out.size (fun r e => by cases e; omega)⟩
theorem all_any (w : World) (base g : Nat) (F : List Nat) (s : Pl) (most : Int) (h : PoolAt w base g F s) (hs : s.ok) (hF : ∀ b ∈ F, b < w.heap.size) :
    Calls Try.prog 13 #[.pointer (some ⟨g, 0, none⟩), .int .i64 most] w (NewNL w (s.nodes.take most.toNat)) := by
  refine all_gen w _ F s.nodes most hF ?_ ?_
  · unfold Pl.nodes Pl.ids Pl.upto
    rw [List.length_map]
    have h1 := List.length_filter_le (fun i => s.taken.getD i false) (List.range s.taken.length)
    rw [List.length_range] at h1
    have := hs.1; have := hs.2.2.1; omega
  · intro W Bp hb hbx
    exact each1_iter W base g Bp F s hbx (h.keeps (Keeps.of_below (S := fun b => b ∈ F) hb hF) (fun b hb => hb)) hs (fun b hb' => Nat.lt_of_lt_of_le (hF b hb') hb.size)
end Go.Proofs.Ytcnejokbldohlaa
