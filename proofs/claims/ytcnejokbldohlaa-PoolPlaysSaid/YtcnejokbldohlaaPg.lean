/- Package pool: Each. -/
import Derived.Test.YtcnejokbldohlaaPf
import Derived.Test.YtcnejokbldohlaaTail
namespace Go.Proofs.Ytcnejokbldohlaa
set_option linter.unusedSimpArgs false
set_option linter.unusedVariables false
open Go.ChangeShapes Go.WideShapes Go.ChangeAt Go.RowKit Go.Shelf
set_option linter.unusedVariables false
attribute [local go_sem] Oper.semAt_some
attribute [local go_sem ↓] wpIn_at_zero wpIn_at_succ
theorem ids_any (p : Option Addr) (w : World) :
    Calls Try.prog 55 #[.pointer p] w fun e w' => e = .returned (.func (.func 58) #[] #[.pointer (some ⟨w.heap.size, 0, none⟩)]) ∧ w' = w.alloc (.cells #[.pointer p] 22) := by
  go_enter Try.func55, Try.ntmps55
  go_wp2
  go_ret
  exact ⟨rfl, rfl⟩
theorem each_any (p : Option Addr) (w : World) :
    Calls Try.prog 41 #[.pointer p] w fun e w' => e = .returned (.func (.func 54) #[] #[.pointer (some ⟨w.heap.size, 0, none⟩)]) ∧ w' = w.alloc (.cells #[.pointer p] 22) := by
  go_enter Try.func41, Try.ntmps41
  go_wp2
  go_ret
  exact ⟨rfl, rfl⟩
def Pl.nodes (s : Pl) : List Nd := s.ids.map fun k => s.at_.getD k Nd.zero
def Nd.enc (n : Nd) : Array Value := #[n.val]
set_option maxHeartbeats 1000000 in
theorem each1_iter (w : World) (base g Bp : Nat) (F : List Nat) (s : Pl) (hbox : Blk w Bp 22 #[.pointer (some ⟨g, 0, none⟩)]) (h : PoolAt w base g F s) (hs : s.ok) (hF : ∀ b ∈ F, b < w.heap.size) :
    Iter Try.prog 54 #[.pointer (some ⟨Bp, 0, none⟩)] Nd.enc (fun b => b = Bp ∨ b ∈ F) s.nodes w := by
  intro l J Jx W hk hJ hJx hY h0
  have hbx := (hk.2 _ (.inl rfl)).trans hbox
  have hp := h.keeps hk (fun b hb => .inr hb)
  have c0 := box_cell hbx
  have hBl : Bp < W.heap.size := Blk.lt hbx
  refine callsIn_of_wp_marks Try.func54 rfl trivial ?_ rfl
  simp only [Try.ntmps54, List.size_toArray, List.length_cons, List.length_nil, Nat.reduceAdd, Nat.reduceSub, Array.replicate_succ, Array.replicate_zero, List.push_toArray, List.append_toArray, List.nil_append, List.cons_append]
  gi_wp2_with (refine wide_call (ids_any _ _) ?_; rintro e w' ⟨rfl, rfl⟩)
  have hb1 : Below W.heap.size W (W.alloc (Obj.cells #[Value.func (Fn.yield l) #[] #[]] 86)) := (Below.refl _ _).alloc (Nat.le_refl _) _
  have hby := Blk.new W 86 #[Value.func (Fn.yield l) #[] #[]]
  generalize hy1 : W.alloc (Obj.cells #[Value.func (Fn.yield l) #[] #[]] 86) = W1 at *
  have hb2 : Below W1.heap.size W1 (W1.alloc (Obj.cells #[Value.pointer (some ⟨g, 0, none⟩)] 22)) := (Below.refl _ _).alloc (Nat.le_refl _) _
  have hbq := Blk.new W1 22 #[Value.pointer (some ⟨g, 0, none⟩)]
  have hby2 := hby.alloc (Obj.cells #[Value.pointer (some ⟨g, 0, none⟩)] 22)
  generalize hy2 : W1.alloc (Obj.cells #[Value.pointer (some ⟨g, 0, none⟩)] 22) = W2 at *
  have z1 : W1.heap.size = W.heap.size + 1 := by rw [← hy1]; simp
  have z2 : W2.heap.size = W.heap.size + 2 := by rw [← hy2]; simp [z1]
  have hbp2 := (hb2.block Bp (by omega)).trans ((hb1.block Bp hBl).trans hbx)
  have hbW : Below W.heap.size W W2 := hb1.trans (hb2.mono (by omega))
  have hFW : ∀ b ∈ F, b < W.heap.size := fun b hb => Nat.lt_of_lt_of_le (hF b hb) hk.1
  have hp2 : PoolAt W2 base g F s := hp.keeps (Keeps.of_below (S := fun b => b ∈ F) hbW hFW) (fun b hb => hb)
  rw [z1] at hbq
  clear hb1 hb2 hy1 hy2 z1 hby c0 hbx hp hbox h hF
  have hKlt : ∀ b, (b = W.heap.size + 1 ∨ b = Bp ∨ b = W.heap.size ∨ b ∈ F) → b < W2.heap.size := by
    rintro b (rfl | rfl | rfl | hb)
    · omega
    · omega
    · omega
    · have := hFW b hb; omega
  have hkeepW : ∀ W', Keeps (fun b => b = W.heap.size + 1 ∨ b = Bp ∨ b = W.heap.size ∨ b ∈ F) W2 W' → Blk W' Bp 22 #[.pointer (some ⟨g, 0, none⟩)] ∧ Blk W' W.heap.size 86 #[Value.func (Fn.yield l) #[] #[]] ∧ PoolAt W' base g F s := fun W' hk' =>
    ⟨(hk'.2 _ (.inr (.inl rfl))).trans hbp2, (hk'.2 _ (.inr (.inr (.inl rfl)))).trans hby2, hp2.keeps hk' (fun b hb => .inr (.inr (.inr hb)))⟩
  have hstays : ∀ S W3, Stays (fun b => b = W.heap.size + 1 ∨ b = Bp ∨ b = W.heap.size ∨ b ∈ F) S W2 W3 → W2.heap.size ≤ W3.heap.size → Stays (fun b => b = Bp ∨ b ∈ F) S W W3 := fun S W3 h1 h2 =>
    stays_in h1 (by omega) (fun b hb => hb.elim (fun h => .inr (.inl h)) (fun h => .inr (.inr (.inr h)))) (fun b hb => by
      rcases hb with rfl | rfl | rfl | h
      · exact .inr (by omega)
      · exact .inl (.inl rfl)
      · exact .inr (by omega)
      · exact .inl (.inr h)) hKlt h2
  refine rangeFunc_law (K := fun b => b = W.heap.size + 1 ∨ b = Bp ∨ b = W.heap.size ∨ b ∈ F) (gf := 58) (lb := #[.pointer (some ⟨W.heap.size + 1, 0, none⟩)]) (w0 := W2) rfl (enters_of Try.func58 (by kernel_rfl) rfl)
    ((ids1_iter W2 base g (W.heap.size + 1) F s hbq hp2 hs).mono (fun b hb => hb.elim .inl (fun h => .inr (.inr (.inr h)))) (Keeps.refl _ _)) (Keeps.refl _ _) hKlt (fun _ => rfl)
    (fun S pre W' => J S (pre.map fun k => s.at_.getD k Nd.zero) W' ∧ Keeps (fun b => b = W.heap.size + 1 ∨ b = Bp ∨ b = W.heap.size ∨ b ∈ F) W2 W')
    (fun S c pre W' => c = .ret ∧ Jx S (pre.map fun k => s.at_.getD k Nd.zero) W') ?hI ?hIx ?start (fun k a' _ => a' = ⟨#[Value.func (Fn.yield l) #[] #[], Value.pointer (some { block := Bp, off := 0 }),
          Value.pointer (some { block := W.heap.size, off := 0 }), .int .i64 (k : Int), Value.pointer (some { block := g, off := 0 }),
          Value.func (Fn.func 58) #[] #[Value.pointer (some { block := W.heap.size + 1, off := 0 })], .int .i64 (k : Int), undef,
          undef, undef, undef, undef, undef, undef, undef, undef, undef], []⟩) ?hAx ?assign ?body ?done ?stop
  case hI => 
    intro S
    exact OwnFrom.and (fun pre A B row hs hg hr => hJ S _ A B row hs hg (fun r e => ⟨by have := (hr r e).1; omega, (hr r e).2⟩)) (ownFrom_keeps fun b hb => ⟨hKlt b hb, hKlt b hb⟩)
  case hIx =>
    intro S c pre A B row hs hg hr
    exact ⟨hs.1, hJx S _ A B row hs.2 hg (fun r e => ⟨by have := (hr r e).1; omega, (hr r e).2⟩)⟩
  case start =>
    intro S W' hb hst
    exact ⟨h0 S W' (hbW.trans (hb.mono (by omega))) ⟨fun b hb' => hst.1 b (hb'.elim (fun e => .inr (.inl e)) (fun e => .inr (.inr (.inr e)))), fun b hb' => by
      have := hb.size
      rcases hst.2 b hb' with (rfl | rfl | rfl | h) | h
      · exact .inr ⟨by omega, by omega⟩
      · exact .inl (.inl rfl)
      · exact .inr ⟨by omega, by omega⟩
      · exact .inl (.inr h)
      · exact .inr ⟨by omega, h.2⟩⟩, Keeps.of_below hb hKlt⟩
  case hAx => exact fun x a' s X Y row hs _ _ => hs
  case assign =>
    intro l' S pre x suf W' K' hxs hSl hKS hi hK
    have HK := fun a' => hK a' W' (Keeps.refl _ _) hi
    clear hK
    gi_wp2
    exact rfl
  case body =>
    rintro l' S pre x suf a' W' hxs hSl hKS ⟨hj, hkp⟩ rfl
    obtain ⟨q1, q2, q3⟩ := hkeepW W' hkp
    have hx : x < s.at_.length := by
      have hm : x ∈ s.ids := by rw [hxs]; simp
      unfold Pl.ids Pl.upto at hm
      rw [hs.1]
      simpa using (List.mem_filter.1 hm).1
    have hjd : J S (pre.map fun k => s.at_.getD k Nd.zero) W'.drew := hJ S _ W' _ none hj ⟨rfl, rfl, rfl, Nat.le_refl _, fun _ _ _ => rfl⟩ (fun r e => by cases e)
    obtain ⟨fn, tmps, assign, body, hy, hR⟩ := YieldAt.wide 0 (hY S (pre.map fun k => s.at_.getD k Nd.zero) (s.at_.getD x Nd.zero) (suf.map fun k => s.at_.getD k Nd.zero) W'.drew (by unfold Pl.nodes; rw [hxs]; simp) hjd)
    have hget : s.at_.getD x Nd.zero = s.at_[x] := by simp [hx]
    obtain ⟨a, ac, t, tc, fv, ho⟩ := q3.toOpen hs
    obtain ⟨_, c1, _, _, _⟩ := ho.cell
    obtain ⟨d0, d1, d2, d3, d4⟩ := ho.cellsA x hx
    rw [hget] at hy hR
    have c0 := box_cell q1
    have cy := box_cell q2
    have ki : (x : Int) < (s.at_.length : Int) := by omega
    have k0 : (0 : Int) ≤ (x : Int) := by omega
    have hn2 : (s.at_.length : Int) ≤ 2000000 := by have := hs.2.2.1; omega
    have Hget := Lib.hid hget
    have Hkp := Lib.hid hkp
    have HR := Lib.hid (hR.mono (R' := fun e w3 => ∃ b : Bool, e = .returned (.bool b) ∧ Hid ((if b = true then J S ((pre.map fun k => s.at_.getD k Nd.zero) ++ [s.at_[x]]) w3 else Jx S ((pre.map fun k => s.at_.getD k Nd.zero) ++ [s.at_[x]]) w3) ∧ Keeps S W'.drew w3)) (by
      rintro e w3 (⟨rfl, h1⟩ | ⟨rfl, h1⟩)
      · exact ⟨true, rfl, by rw [if_pos rfl]; exact h1⟩
      · exact ⟨false, rfl, by rw [if_neg (by simp)]; exact h1⟩))
    generalize s.at_[x] = nd at *
    generalize s.at_.length = n at *
    dsimp only [Nd.enc, Nd.val] at hy
    have hmx : Try.prog.follows .mixedOrders = true := by kernel_rfl
    clear hjd hget hR ho q1 q2 q3 hkp hxs hj hkeepW hp2 hbW hbp2 hby2 hbq hY h0 hk
    gi_wp2
    refine round_tail 8 (by kernel_rfl) (by kernel_rfl) ?_
    simp only [List.take_succ_cons, List.take_zero, List.drop_succ_cons, List.drop_zero]
    repeat still_step
    refine wpStill_nil ?_
    clear d0 d1 d2 d3 d4 c0 cy c1
    gi_wp2
    refine ⟨rfl, ?_⟩
    refine HR.out.mono ?_
    clear HR hy
    rintro e w3 ⟨b, rfl, HJ3⟩
    cases b
    · have HJ4 := HJ3.out
      rw [if_neg (by simp)] at HJ4
      have HJ5 := Lib.hid HJ4
      clear HJ4 HJ3
      gi_wp2
      exact ⟨⟨HJ5.out.2.1, HJ5.out.2.2⟩, rfl, by rw [List.map_append, List.map_singleton, Hget.out]; exact HJ5.out.1⟩
    · have HJ4 := HJ3.out
      rw [if_pos rfl] at HJ4
      have HJ5 := Lib.hid HJ4
      clear HJ4 HJ3
      gi_wp2
      exact ⟨⟨HJ5.out.2.1, HJ5.out.2.2⟩, by rw [List.map_append, List.map_singleton, Hget.out]; exact HJ5.out.1, Hkp.out.trans (Keeps.sub ⟨HJ5.out.2.1, HJ5.out.2.2⟩ hKS)⟩
  case done =>
    rintro D S W3 hD hSS ⟨hj, hkp⟩ hd
    gi_wp2
    refine ⟨by simp, .inl ⟨_, _, rfl, run_takeDeferred hd, ?_⟩⟩
    refine ⟨_, results_none rfl _ _ _, ⟨_, rfl⟩, S, ?_, .inl ?_⟩
    · exact hstays S _ (hSS.putObj _ _) (by rw [World.putObj_size]; have := (Array.getElem?_eq_some_iff.1 hd).1; omega)
    · exact (hJ S).putObj _ hj (by omega) hd rfl
  case stop =>
    rintro D S c pre W3 hD hSS hpre ⟨rfl, hj⟩ hd
    gi_wp2
    refine ⟨by simp, .inl ⟨_, _, rfl, run_takeDeferred hd, ?_⟩⟩
    refine ⟨_, results_none rfl _ _ _, ⟨_, rfl⟩, S, ?_, .inr ⟨pre.map fun k => s.at_.getD k Nd.zero, hpre.map _, (hJx S).putObj _ hj (by omega) hd rfl⟩⟩
    · exact hstays S _ (hSS.putObj _ _) (by rw [World.putObj_size]; have := (Array.getElem?_eq_some_iff.1 hd).1; omega)
end Go.Proofs.Ytcnejokbldohlaa
