/- BitsAll: the lists that All hands over. -/
import Derived.Test.YtaeifbkimagpdaaBm
namespace Go.Proofs.Ytaeifbkimagpdaa
open Go.ChangeShapes Go.WideShapes Go.ChangeAt Go.RowKit Go.Shelf
set_option linter.unusedVariables false
attribute [local go_sem] Oper.semAt_some
attribute [local go_sem ↓] wpIn_at_zero wpIn_at_succ
/-- What the law knows of its own between two rounds, k of which have gone by. -/
structure BI (w : World) (q m most N : Nat) (A : Option Addr) (c : Nat) (xs : List (Option Addr × Nat)) (k : Nat) (W : World) (S : Nat → Prop) : Prop where
  below : Below w.heap.size w W
  bm : Blk W w.heap.size 37 #[.int .u16 (most : Int)]
  br : Blk W (w.heap.size + 1) 4 #[.bool false]
  bl : Blk W (q + 1) 38 #[.slice A N c]
  bn : Blk W (q + 1 + 1) 3 #[.int .i64 (k : Int)]
  rl : RL W W.heap.size 1 A N (vals m xs)
  al : AllL m xs W
  n1 : ¬ S (w.heap.size + 1)
  n2 : ¬ S (q + 1 + 1)
theorem BI.turn {w W W' : World} {q m most N c k : Nat} {A : Option Addr} {xs : List (Option Addr × Nat)} {S : Nat → Prop} {row : Option Nat} (h : BI w q m most N A c xs k W S) (hg : W.grownBy W' row) (hr : ∀ r, row = some r → w.heap.size ≤ r ∧ ∃ o : Obj, W.heap[r]? = some o ∧ o.isCells = false) : BI w q m most N A c xs k W' S := by
  have hr2 := fun r e => (hr r e).2
  exact ⟨h.below.grown hg h.below.size (fun r e => (hr r e).1), h.bm.turn hg hr2, h.br.turn hg hr2, h.bl.turn hg hr2, h.bn.turn hg hr2, h.rl.turn hg hr2, fun i x hx => (h.al i x hx).turn hg hr2, h.n1, h.n2⟩
theorem BI.next {w W W' : World} {q m most N c k : Nat} {A : Option Addr} {xs : List (Option Addr × Nat)} {S : Nat → Prop} (h : BI w q m most N A c xs k W S) (hb : Below W.heap.size W W') : BI w q m most N A c xs k W' S :=
  h.turn (row := none) ⟨hb.os, hb.tape, hb.output, hb.size, fun b hb' _ => hb.block b hb'⟩ (fun r e => by cases e)
/-- The count is raised. -/
theorem BI.count {w W : World} {q m most N c k : Nat} {A : Option Addr} {xs : List (Option Addr × Nat)} {S : Nat → Prop} (h : BI w q m most N A c xs k W S) (hq : w.heap.size + 1 < q + 1) (hA : ∀ b o, A = some ⟨b, o, none⟩ → b < q + 1 + 1) (hx : ∀ (i : Nat) (x : Option Addr × Nat), xs[i]? = some x → ∀ b o, x.1 = some ⟨b, o, none⟩ → 0 < m → b < q + 1 + 1) :
    BI w q m most N A c xs (k + 1) (W.setCell ⟨q + 1 + 1, 0, none⟩ (.int .i64 ((k : Int) + 1))) S := by
  have far : ∀ {size n : Nat} {A : Option Addr} {ys : List Value}, RL W W.heap.size size A n ys → (∀ b o, 0 < n → A = some ⟨b, o, none⟩ → b < q + 1 + 1) → RL (W.setCell ⟨q + 1 + 1, 0, none⟩ (.int .i64 ((k : Int) + 1))) (W.setCell ⟨q + 1 + 1, 0, none⟩ (.int .i64 ((k : Int) + 1))).heap.size size A n ys := fun hr hb => by
    refine ⟨hr.1, fun hn => ?_⟩
    obtain ⟨b, o, e, hbl, hc⟩ := hr.2 hn
    have hs : (W.setCell ⟨q + 1 + 1, 0, none⟩ (.int .i64 ((k : Int) + 1))).heap.size = W.heap.size := by simp [World.setCell]
    refine ⟨b, o, e, by rw [hs]; exact hbl, fun j hj => ?_⟩
    rw [← hc j hj]
    exact World.cell?_of_block (w := W) (a := ⟨b, o + j, none⟩) (Below.heap_setCell W _ _ b (by have := hb b o hn e; show b ≠ q + 1 + 1; omega))
  refine ⟨h.below.setCell (by show w.heap.size ≤ q + 1 + 1; omega) _, h.bm.far (by show w.heap.size ≠ q + 1 + 1; omega) _, h.br.far (by show w.heap.size + 1 ≠ q + 1 + 1; omega) _, h.bl.far (by show q + 1 ≠ q + 1 + 1; omega) _, ?_, far h.rl (fun b o _ => hA b o), fun i x hx' => far (h.al i x hx') (fun b o hn e => hx i x hx' b o e hn), h.n1, h.n2⟩
  have := h.bn.set_ 0 (.int .i64 ((k : Int) + 1))
  exact this
/-- The function's return: the block of deferred calls is shut, the result is read. -/
theorem ball_end {w W3 w5 : World} {D : Nat} {a : Act} (hD : w.heap.size + 1 < D) (hd : W3.heap[D]? = some (.deferred (some []))) (hb : Below W3.heap.size W3 w5) (hB : Below w.heap.size w W3) (hr : Blk w5 (w.heap.size + 1) 4 #[.bool false])
    (hdf : a.defers = [{ target := Target.collected D, args := #[] }]) (ht : a.tmps[4]?.getD undef = .pointer (some ⟨w.heap.size + 1, 0, none⟩)) :
    bodyPostM Fence.wide 0 Try.prog Try.f6 (fun e w' => e = Ending.returned (Value.bool true) ∧ Below w.heap.size w w') Exit.ret a (w5.setCell ⟨w.heap.size + 1, 0, none⟩ (.bool true)) := by
  have hlt := (Array.getElem?_eq_some_iff.1 hd).1
  have hdE : (w5.setCell ⟨w.heap.size + 1, 0, none⟩ (.bool true)).heap[D]? = some (.deferred (some [])) :=
    (Below.heap_setCell w5 _ _ D (by show D ≠ w.heap.size + 1; omega)).trans ((hb.block D hlt).trans hd)
  have hB5 : Below w.heap.size w (w5.setCell ⟨w.heap.size + 1, 0, none⟩ (.bool true)) := (hB.trans (hb.mono hB.size)).setCell (by show w.heap.size ≤ w.heap.size + 1; omega) _
  have hbr : Blk (w5.setCell ⟨w.heap.size + 1, 0, none⟩ (.bool true)) (w.heap.size + 1) 4 #[.bool true] := hr.set_ 0 _
  generalize w5.setCell ⟨w.heap.size + 1, 0, none⟩ (.bool true) = We at *
  have hc : (We.putObj D (.deferred none)).cell? ⟨w.heap.size + 1, 0, none⟩ = some (.bool true) := (hbr.turn (grownBy_putObj' We D _) (fun r e => by cases e; exact ⟨_, hdE, rfl⟩)).cell 0
  show LeavesInM Fence.wide 0 Try.prog _ a.tmps _ a.defers .returning _
  rw [hdf]
  refine ⟨by simp, .inl ⟨_, _, rfl, run_takeDeferred hdE, ?_⟩⟩
  refine ⟨_, (by simp [results, Try.results6, go_sem, ht, hc] : (results Try.f6 a.tmps).run Try.prog (We.putObj D (.deferred none)) = .ok (.bool true) _), rfl, hB5.grown (grownBy_putObj' We D _) hB5.size (fun r e => by cases e; omega)⟩
set_option maxHeartbeats 2000000 in
theorem ball_any (m0 : Int) (most : Nat) (hmost : most ≤ 65535) (w : World) :
    Calls Try.prog 6 #[.int .i64 m0, .int .u16 (most : Int)] w fun e w' => e = .returned (.bool true) ∧ Below w.heap.size w w' := by
  obtain ⟨m, hm⟩ : ∃ m : Nat, min (max m0 0) 12 = (m : Int) := Int.eq_ofNat_of_zero_le (by omega)
  have hm12 : m ≤ 12 := by omega
  have Hm := Lib.hid hm
  clear hm
  refine (callsIn_wide (n := 0)).1 ?_
  refine callsIn_of_wp_marks (n := 0) Try.func6 rfl trivial ?_ rfl
  simp only [Try.ntmps6, List.size_toArray, List.length_cons, List.length_nil, Nat.reduceAdd, Nat.reduceSub, Array.replicate_succ, Array.replicate_zero, List.push_toArray, List.append_toArray, List.nil_append, List.cons_append]
  have hnf : ∀ (W : World) (a : Array Value), (binOp BinOp.eql 41 (Value.func (Fn.func 50) #[] a) Value.nilFunc).run Try.prog W = .ok (.bool false) W := fun _ _ => by kernel_rfl
  have b1 := (Blk.new w 37 #[Value.int IntKind.u16 (most : Int)]).alloc (.cells #[.bool false] 4)
  have b2 := Blk.new (w.alloc (.cells #[Value.int IntKind.u16 (most : Int)] 37)) 4 #[Value.bool false]
  simp only [World.size_alloc] at b2
  have bw : Below w.heap.size w ((w.alloc (.cells #[Value.int IntKind.u16 (most : Int)] 37)).alloc (.cells #[.bool false] 4)) := ((Below.refl _ _).alloc (Nat.le_refl _) _).alloc (by simp) _
  have hz : ((w.alloc (.cells #[Value.int IntKind.u16 (most : Int)] 37)).alloc (.cells #[.bool false] 4)).heap.size = w.heap.size + 2 := by simp
  have B1 := Lib.hid b1
  have B2 := Lib.hid b2
  have Bw := Lib.hid bw
  have Hz := Lib.hid hz
  clear b1 b2 bw hz
  gi_wp2_with fail
  generalize ((w.alloc (.cells #[Value.int IntKind.u16 (most : Int)] 37)).alloc (.cells #[.bool false] 4)) = W0 at *
  refine wide_call (rall_any m0 m Hm.out W0) ?_
  rintro e w1 ⟨A, c, xs, rfl, hxl, hr, hal, hb⟩
  have hz1 := hb.size
  have B1' := Lib.hid (B1.out.below hb (by have := Hz.out; omega))
  have B2' := Lib.hid (B2.out.below hb (by have := Hz.out; omega))
  have Bw' := Lib.hid (Bw.out.trans (hb.mono (by have := Hz.out; omega)))
  have Hz1 := Lib.hid (show w.heap.size + 2 ≤ w1.heap.size from by have := Hz.out; omega)
  have Hxl := Lib.hid hxl
  have Hr := Lib.hid hr
  have Hal := Lib.hid hal
  clear hz1 hb hxl hr hal B1 B2 Bw Hz
  gi_wp2_with fail
  refine wide_call (all_makes m0 w1) ?_
  rintro e w' ⟨rfl, rfl⟩
  rw [Hm.out]
  gi_wp2
  have hz4 : (((w1.alloc (Obj.cells #[Value.int IntKind.i64 ↑m] 3)).alloc (Obj.cells #[Value.slice A (2 ^ m) c] 38)).alloc (Obj.cells #[Value.int IntKind.i64 0] 3)).heap.size = w1.heap.size + 3 := by simp
  have b4 : Below w1.heap.size w1 (((w1.alloc (Obj.cells #[Value.int IntKind.i64 ↑m] 3)).alloc (Obj.cells #[Value.slice A (2 ^ m) c] 38)).alloc (Obj.cells #[Value.int IntKind.i64 0] 3)) := (((Below.refl _ _).alloc (Nat.le_refl _) _).alloc (by simp) _).alloc (by simp; omega) _
  have c1 := ((Blk.new w1 3 #[Value.int IntKind.i64 (m : Int)]).alloc (Obj.cells #[Value.slice A (2 ^ m) c] 38)).alloc (Obj.cells #[Value.int IntKind.i64 0] 3)
  have c2 := (Blk.new (w1.alloc (Obj.cells #[Value.int IntKind.i64 (m : Int)] 3)) 38 #[Value.slice A (2 ^ m) c]).alloc (Obj.cells #[Value.int IntKind.i64 0] 3)
  have c3 := Blk.new ((w1.alloc (Obj.cells #[Value.int IntKind.i64 (m : Int)] 3)).alloc (Obj.cells #[Value.slice A (2 ^ m) c] 38)) 3 #[Value.int IntKind.i64 0]
  simp only [World.size_alloc] at c2 c3
  generalize (((w1.alloc (Obj.cells #[Value.int IntKind.i64 ↑m] 3)).alloc (Obj.cells #[Value.slice A (2 ^ m) c] 38)).alloc (Obj.cells #[Value.int IntKind.i64 0] 3)) = W4 at *
  have hzz := Hz1.out
  have hAlt : ∀ b o, 0 < 2 ^ m → A = some ⟨b, o, none⟩ → b < w1.heap.size + 1 + 1 := fun b o hn e => by
    obtain ⟨b', o', e', hb', _⟩ := Hr.out.2 hn
    rw [e] at e'; injection e' with e'; injection e' with e'; omega
  have hxlt : ∀ (i : Nat) (x : Option Addr × Nat), xs[i]? = some x → ∀ b o, x.1 = some ⟨b, o, none⟩ → 0 < m → b < w1.heap.size + 1 + 1 := fun i x hx b o e hm0 => by
    obtain ⟨b', o', e', hb', _⟩ := (Hal.out i x hx).2 hm0
    rw [e] at e'; injection e' with e'; injection e' with e'; omega
  have hNpos : 0 < 2 ^ m := Nat.pos_of_ne_zero (by simp)
  have hN : 2 ^ m ≤ 4096 := Nat.le_trans (Nat.pow_le_pow_right (by omega) hm12) (by decide)
  have hall := all1_iter W4 w1.heap.size m hm12 c1
  have hst0 : ∀ S, ¬ S (w.heap.size + 1) → ¬ S (w1.heap.size + 1 + 1) → BI w w1.heap.size m most (2 ^ m) A c xs 0 W4 S := fun S h1 h2 =>
    ⟨Bw'.out.trans (b4.mono (by omega)), B1'.out.below b4 (by omega), B2'.out.below b4 (by omega), c2, c3, (Hr.out.below b4).more b4.size, Hal.out.below b4, h1, h2⟩
  have Hstart := Lib.hid hst0
  have HA := Lib.hid (fun b o => hAlt b o hNpos)
  have HX := Lib.hid hxlt
  clear hst0 c2 c3 b4 hAlt hxlt c1
  generalize hNN : (2 : Nat) ^ m = N at *
  clear hNN
  refine rangeFunc_lawG (K := fun b => b = w1.heap.size) (gf := 50) (lb := #[.pointer (some ⟨w1.heap.size, 0, none⟩)]) (w0 := W4) rfl (enters_of Try.func50 (by kernel_rfl) rfl)
    hall (Keeps.refl _ _) (by rintro b rfl; omega) (fun _ => rfl)
    (fun S pre W' => pre.length ≤ most ∧ BI w w1.heap.size m most N A c xs pre.length W' S)
    (fun S cd _ W' => cd = .exit 0 ∧ BI w w1.heap.size m most N A c xs most W' S) ?hI ?hIx ?start
    (fun i x a' W' => isL m i x W' ∧ a' = ⟨#[Value.int IntKind.i64 m0, Value.int IntKind.u16 ↑most, undef,
          Value.pointer (some { block := w.heap.size, off := 0 }),
          Value.pointer (some { block := w.heap.size + 1, off := 0 }),
          Value.pointer (some { block := w1.heap.size + 1, off := 0 }),
          Value.func (Fn.func 50) #[] #[Value.pointer (some { block := w1.heap.size, off := 0 })],
          Value.pointer (some { block := w1.heap.size + 1 + 1, off := 0 }), .slice x.1 m x.2, Value.int IntKind.i64 m0,
          Value.slice A N c, Value.int IntKind.i64 m0,
          Value.func (Fn.func 50) #[] #[Value.pointer (some { block := w1.heap.size, off := 0 })],
          Value.func (Fn.func 50) #[] #[Value.pointer (some { block := w1.heap.size, off := 0 })], Value.bool false,
          Value.func (Fn.func 50) #[] #[Value.pointer (some { block := w1.heap.size, off := 0 })], .slice x.1 m x.2, undef, undef,
          undef, undef, undef, undef, undef, undef, undef, undef, undef, undef, undef, undef, undef, undef, undef,
          undef, undef, undef, undef, undef, undef, undef, undef, undef, undef, undef, undef, undef, undef, undef], []⟩) ?hAx ?assign ?body ?done ?stop
  case hI => exact fun S => OwnFrom.and (ownFrom_pure _ _) (fun pre X Y row h hg hr => h.turn hg (fun r e => ⟨by have := (hr r e).1; omega, (hr r e).2⟩))
  case hIx => exact fun S cd => OwnFrom.and (ownFrom_pure _ _) (fun pre X Y row h hg hr => h.turn hg (fun r e => ⟨by have := (hr r e).1; omega, (hr r e).2⟩))
  case start =>
    intro S W' hb hst
    have hS : ∀ b, b ≠ w1.heap.size → b < W4.heap.size → ¬ S b := fun b h1 h2 hs => by
      rcases hst.2 b hs with h | h
      · exact h1 h
      · omega
    exact ⟨Nat.zero_le _, (Hstart.out S (hS _ (by omega) (by omega)) (hS _ (by omega) (by omega))).next hb⟩
  case hAx =>
    rintro i x a' s X Y row ⟨h1, h2⟩ hg hr
    exact ⟨h1.turn hg (fun r e => (hr r e).2), h2⟩
  case assign =>
    intro l' S pre x W' K' hlt hG hSl hKS hi hK
    have HK := hK
    clear hK
    unfold encL
    gi_wp2
    exact HK _ _ (Keeps.refl _ _) hi ⟨hG, rfl⟩
  case body =>
    rintro l' S pre x a' W' hpl hSl hKS ⟨hlen, hi⟩ ⟨hx, rfl⟩
    have hA1 := hi.bn.cell 0
    have c0 : W'.cell? ⟨w1.heap.size + 1 + 1, 0, none⟩ = some (.int .i64 (pre.length : Int)) := hi.bn.cell 0
    have c1 : W'.cell? ⟨w.heap.size, 0, none⟩ = some (.int .u16 (most : Int)) := hi.bm.cell 0
    have c2 : W'.cell? ⟨w1.heap.size + 1, 0, none⟩ = some (.slice A N c) := hi.bl.cell 0
    have Hi := Lib.hid hi
    have HSl := Lib.hid hSl
    have hp : (pre.length : Int) ≤ 4096 := by omega
    have hm2 : (most : Int) ≤ 65535 := by omega
    clear hA1 hSl hKS
    generalize hpk : pre.length = k at *
    have Hpk := Lib.hid hpk
    clear hpk
    by_cases hge : most ≤ k
    · obtain rfl : k = most := by omega
      clear hi hx
      gi_wp2
      exact ⟨Keeps.refl _ _, rfl, Hi.out⟩
    · obtain ⟨b, o, rfl, hbw, hc⟩ := hi.rl.2 (by omega)
      have hkx : k < xs.length := by rw [Hxl.out]; exact hpl
      have e1 := hc k (by omega)
      have hxk : xs[k]? = some xs[k] := List.getElem?_eq_getElem hkx
      rw [show (vals m xs)[k]? = some (.slice xs[k].1 m xs[k].2) from by unfold vals; rw [List.getElem?_map, hxk]; rfl] at e1
      have hxa := hi.al k _ hxk
      have C1 := Lib.hid (same_any W' W'.heap.size x.1 xs[k].1 m m x.2 xs[k].2 (bitsOf k m) (bitsOf k m) (bitsOf_length k m) (bitsOf_length k m) hx hxa (by omega) (by omega))
      rw [decide_eq_true rfl] at C1
      generalize xs[k] = xk at *
      have ki : (k : Int) < (N : Int) := by omega
      have k0 : (0 : Int) ≤ (k : Int) := by omega
      have klt : (k : Int) < (most : Int) := by omega
      have f0 := hi.bn.frozen 0
      clear hi hx hxa hc hkx hxk hbw
      gi_wp2_with (refine wide_callR C1.out ?_; rintro e w' ⟨rfl, q, rfl⟩)
      refine ⟨((Keeps.refl S W').drewN q).setCell Hi.out.n2 _, by rw [List.length_append, Hpk.out]; simp; omega, ?_⟩
      have h5 := (Hi.out.next (bdrewN (Below.refl _ _) q)).count (by omega) HA.out HX.out
      rw [List.length_append, Hpk.out]
      exact h5
  case done =>
    rintro D S ys W3 hD hSS hyl ⟨hlen, hi⟩ hd
    rw [hyl] at hi hlen
    have c0 : W3.cell? ⟨w1.heap.size + 1 + 1, 0, none⟩ = some (.int .i64 (N : Int)) := hi.bn.cell 0
    have c1 : W3.cell? ⟨w.heap.size, 0, none⟩ = some (.int .u16 (most : Int)) := hi.bm.cell 0
    have c2 : W3.cell? ⟨w1.heap.size + 1, 0, none⟩ = some (.slice A N c) := hi.bl.cell 0
    have Hi := Lib.hid hi
    have Hd := Lib.hid hd
    clear hi hd hSS
    gi_wp2_with (refine wide_call (lives_any _) ?_; rintro e w5 ⟨rfl, hb5⟩; have hblk := Hi.out.br.below hb5 Hi.out.br.lt; have c5 : w5.cell? ⟨w.heap.size + 1, 0, none⟩ = some (.bool false) := hblk.cell 0; have g5 := hblk.frozen 0; have Hblk := Lib.hid hblk; have Hb5 := Lib.hid hb5; clear hb5 hblk)
    exact ball_end (by omega) Hd.out Hb5.out Hi.out.below Hblk.out rfl rfl
  case stop =>
    rintro D S cd pre W3 hD hSS hpre ⟨rfl, hi⟩ hd
    have c0 : W3.cell? ⟨w1.heap.size + 1 + 1, 0, none⟩ = some (.int .i64 (most : Int)) := hi.bn.cell 0
    have c1 : W3.cell? ⟨w.heap.size, 0, none⟩ = some (.int .u16 (most : Int)) := hi.bm.cell 0
    have c2 : W3.cell? ⟨w1.heap.size + 1, 0, none⟩ = some (.slice A N c) := hi.bl.cell 0
    have hm2 : (most : Int) ≤ 65535 := by omega
    have Hi := Lib.hid hi
    have Hd := Lib.hid hd
    clear hi hd hSS
    by_cases hmn : (most : Int) = (N : Int)
    · have h1 : ((most : Int) == (N : Int)) = true := by rw [beq_iff_eq]; exact hmn
      clear hmn
      gi_wp2_with (refine wide_call (lives_any _) ?_; rintro e w5 ⟨rfl, hb5⟩; have hblk := Hi.out.br.below hb5 Hi.out.br.lt; have c5 : w5.cell? ⟨w.heap.size + 1, 0, none⟩ = some (.bool false) := hblk.cell 0; have g5 := hblk.frozen 0; have Hblk := Lib.hid hblk; have Hb5 := Lib.hid hb5; clear hb5 hblk)
      exact ball_end (by omega) Hd.out Hb5.out Hi.out.below Hblk.out rfl rfl
    · have h1 : ((most : Int) == (N : Int)) = false := by rw [beq_eq_false_iff_ne]; exact hmn
      clear hmn
      gi_wp2_with (refine wide_call (lives_any _) ?_; rintro e w5 ⟨rfl, hb5⟩; have hblk := Hi.out.br.below hb5 Hi.out.br.lt; have c5 : w5.cell? ⟨w.heap.size + 1, 0, none⟩ = some (.bool false) := hblk.cell 0; have g5 := hblk.frozen 0; have Hblk := Lib.hid hblk; have Hb5 := Lib.hid hb5; clear hb5 hblk)
      exact ball_end (by omega) Hd.out Hb5.out Hi.out.below Hblk.out rfl rfl
end Go.Proofs.Ytaeifbkimagpdaa
