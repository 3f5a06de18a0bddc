import Derived.Test.YtdhkkkhnjooioaaJa
import Derived.Test.YtdhkkkhnjooioaaTail
import Derived.Test.YtdhkkkhnjooioaaSm
namespace Go.Proofs.Ytdhkkkhnjooioaa
set_option linter.unusedSimpArgs false
set_option linter.unusedVariables false
open Go.ChangeShapes Go.WideShapes Go.ChangeAt Go.RowKit Go.Shelf
set_option linter.unusedVariables false
attribute [local go_sem] Oper.semAt_some
attribute [local go_sem ↓] wpIn_at_zero wpIn_at_succ
theorem pids_any (p : Option Addr) (w : World) :
    Calls Try.prog 77 #[.pointer p] w fun e w' => e = .returned (.func (.func 84) #[] #[.pointer (some ⟨w.heap.size, 0, none⟩)]) ∧ w' = w.alloc (.cells #[.pointer p] 67) := by
  go_enter Try.func77, Try.ntmps77
  go_wp2
  go_ret
  exact ⟨rfl, rfl⟩
theorem peach_any (p : Option Addr) (w : World) :
    Calls Try.prog 67 #[.pointer p] w fun e w' => e = .returned (.func (.func 76) #[] #[.pointer (some ⟨w.heap.size, 0, none⟩)]) ∧ w' = w.alloc (.cells #[.pointer p] 67) := by
  go_enter Try.func67, Try.ntmps67
  go_wp2
  go_ret
  exact ⟨rfl, rfl⟩
def encNd (x : Nat × G.Nd) : Array Value := #[ndA x.1 x.2]
set_option maxRecDepth 100000 in
set_option maxHeartbeats 4000000 in
theorem peach1_iter (w : World) (I0 : PH) (P Bp : Nat) (p : G.Pl) (hI : I0.le (heapOf w)) (hbox : I0.at Bp 0 = some (vPt P)) (hR : PoolR I0 P p) :
    Iter Try.prog 76 #[.pointer (some ⟨Bp, 0, none⟩)] encNd (Kof I0) p.all w := by
  intro l J Jx W hk hJ hJx hY h0
  have hIW := Kof.le hk hI
  have c0 := heap_at hIW hbox
  have hBl : Bp < W.heap.size := Kof.lt hIW (fun h => by unfold PH.at at hbox; rw [h] at hbox; cases hbox)
  refine callsIn_of_wp_marks Try.func76 rfl trivial ?_ rfl
  simp only [Try.ntmps76, List.size_toArray, List.length_cons, List.length_nil, Nat.reduceAdd, Nat.reduceSub, Array.replicate_succ, Array.replicate_zero, List.push_toArray, List.append_toArray, List.nil_append, List.cons_append]
  gi_wp2_with (refine wide_call (pids_any _ _) ?_; rintro e w' ⟨rfl, rfl⟩)
  have hb1 : Below W.heap.size W (W.alloc (Obj.cells #[Value.func (Fn.yield l) #[] #[]] 118)) := (Below.refl _ _).alloc (Nat.le_refl _) _
  have hby := Blk.new W 118 #[Value.func (Fn.yield l) #[] #[]]
  generalize hy1 : W.alloc (Obj.cells #[Value.func (Fn.yield l) #[] #[]] 118) = W1 at *
  have hb2 : Below W1.heap.size W1 (W1.alloc (Obj.cells #[vPt P] 67)) := (Below.refl _ _).alloc (Nat.le_refl _) _
  have hbq := Blk.new W1 67 #[vPt P]
  have hby2 := hby.alloc (Obj.cells #[vPt P] 67)
  generalize hy2 : W1.alloc (Obj.cells #[vPt P] 67) = W2 at *
  have z1 : W1.heap.size = W.heap.size + 1 := by rw [← hy1]; simp
  have z2 : W2.heap.size = W.heap.size + 2 := by rw [← hy2]; simp [z1]
  have hbW : Below W.heap.size W W2 := hb1.trans (hb2.mono (by omega))
  have hKW : ∀ b, Kof I0 b → b < W.heap.size := fun b hb => Kof.lt hIW hb
  have hI2 : I0.le (heapOf W2) := fun b o hb => (hbW.block b (hKW b (by unfold Kof; rw [hb]; simp))).trans (hIW b o hb)
  rw [z1] at hbq
  clear hb1 hb2 hy1 hy2 z1 hby c0
  have hKlt : ∀ b, (b = W.heap.size + 1 ∨ b = W.heap.size ∨ Kof I0 b) → b < W2.heap.size := by
    rintro b (rfl | rfl | hb)
    · omega
    · omega
    · have := hKW b hb; omega
  -- what the inner iterator keeps
  have hoff : I0.off (PH.one (W.heap.size + 1) (.cells #[vPt P] 67)) := fun b => by
    by_cases hb : b = W.heap.size + 1
    · refine .inl ?_
      cases h : I0 b with
      | none => rfl
      | some o => have := hKW b (by unfold Kof; rw [h]; simp); omega
    · refine .inr ?_
      unfold PH.one
      rw [if_neg hb]
  have hI3 : (I0.join (PH.one (W.heap.size + 1) (.cells #[vPt P] 67))).le (heapOf W2) := fun b o hb => by
    by_cases h1 : Kof I0 b
    · cases h : I0 b with
      | none => exact absurd h h1
      | some o' =>
        have := PH.le_join I0 (PH.one (W.heap.size + 1) (.cells #[vPt P] 67)) b o' h
        rw [hb] at this
        cases this
        exact hI2 b o h
    · have h0 : I0 b = none := Classical.not_not.1 h1
      by_cases hb' : b = W.heap.size + 1
      · subst hb'
        have := PH.le_join_right hoff (W.heap.size + 1) _ (PH.one_self _ _)
        rw [hb] at this
        cases this
        exact hbq
      · unfold PH.join PH.one at hb
        rw [h0] at hb
        simp [hb'] at hb
  have hKof3 : ∀ b, Kof (I0.join (PH.one (W.heap.size + 1) (.cells #[vPt P] 67))) b → b = W.heap.size + 1 ∨ b = W.heap.size ∨ Kof I0 b := fun b hb => by
    by_cases h1 : Kof I0 b
    · exact .inr (.inr h1)
    · have h0 : I0 b = none := Classical.not_not.1 h1
      by_cases hb' : b = W.heap.size + 1
      · exact .inl hb'
      · exact absurd (by unfold PH.join PH.one; rw [h0]; simp [hb']) hb
  have hids := ids1_iter W2 (I0.join (PH.one (W.heap.size + 1) (.cells #[vPt P] 67))) P (W.heap.size + 1) p hI3 (PH.at_le (PH.le_join_right hoff) (at_one rfl)) (hR.le (PH.le_join _ _))
  have hkeepW : ∀ W', Keeps (fun b => b = W.heap.size + 1 ∨ b = W.heap.size ∨ Kof I0 b) W2 W' → I0.le (heapOf W') ∧ Blk W' W.heap.size 118 #[Value.func (Fn.yield l) #[] #[]] := fun W' hk' =>
    ⟨Kof.le (hk'.sub fun b hb => .inr (.inr hb)) hI2, (hk'.2 _ (.inr (.inl rfl))).trans hby2⟩
  have hstays : ∀ S W3, Stays (fun b => b = W.heap.size + 1 ∨ b = W.heap.size ∨ Kof I0 b) S W2 W3 → W2.heap.size ≤ W3.heap.size → Stays (Kof I0) S W W3 := fun S W3 h1 h2 =>
    stays_in h1 (by omega) (fun b hb => .inr (.inr hb)) (fun b hb => by
      rcases hb with rfl | rfl | h
      · exact .inr (by omega)
      · exact .inr (by omega)
      · exact .inl h) hKlt h2
  clear hI3 hoff
  refine rangeFunc_law (K := fun b => b = W.heap.size + 1 ∨ b = W.heap.size ∨ Kof I0 b) (gf := 84) (lb := #[.pointer (some ⟨W.heap.size + 1, 0, none⟩)]) (w0 := W2) rfl (enters_of Try.func84 (by kernel_rfl) rfl)
    (hids.mono hKof3 (Keeps.refl _ _)) (Keeps.refl _ _) hKlt ?hps
    (fun S pre W' => J S pre W' ∧ Keeps (fun b => b = W.heap.size + 1 ∨ b = W.heap.size ∨ Kof I0 b) W2 W')
    (fun S c pre W' => c = .ret ∧ Jx S pre W') ?hI ?hIx ?start (fun k a' _ => a' = ⟨#[Value.func (Fn.yield l) #[] #[], Value.pointer (some { block := Bp, off := 0 }),
          Value.pointer (some { block := W.heap.size, off := 0 }), nv k.1, vPt P,
          Value.func (Fn.func 84) #[] #[Value.pointer (some { block := W.heap.size + 1, off := 0 })], nv k.1, undef,
          undef, undef, undef, undef, undef, undef, undef, undef, undef], []⟩) ?hAx ?assign ?body ?done ?stop
  case hps => exact fun _ => rfl
  case hI => 
    intro S
    exact OwnFrom.and (fun pre A B row hs hg hr => hJ S _ A B row hs hg (fun r e => ⟨by have := (hr r e).1; omega, (hr r e).2⟩)) (ownFrom_keeps fun b hb => ⟨hKlt b hb, hKlt b hb⟩)
  case hIx =>
    intro S c pre A B row hs hg hr
    exact ⟨hs.1, hJx S _ A B row hs.2 hg (fun r e => ⟨by have := (hr r e).1; omega, (hr r e).2⟩)⟩
  case start =>
    intro S W' hb hst
    exact ⟨h0 S W' (hbW.trans (hb.mono (by omega))) ⟨fun b hb' => hst.1 b (.inr (.inr hb')), fun b hb' => by
      have := hb.size
      rcases hst.2 b hb' with (rfl | rfl | h) | h
      · exact .inr ⟨by omega, by omega⟩
      · exact .inr ⟨by omega, by omega⟩
      · exact .inl h
      · exact .inr ⟨by omega, h.2⟩⟩, Keeps.of_below hb hKlt⟩
  case hAx => exact fun x a' s X Y row hs _ _ => hs
  case assign =>
    intro l' S pre x suf W' K' hxs hSl hKS hi hK
    have HK := fun a' => hK a' W' (Keeps.refl _ _) hi
    clear hK
    gi_wp2
    exact rfl
  case body =>
    rintro l' S pre x suf a' W' hxs hSl hKS ⟨hj, hkp⟩ rfl
    obtain ⟨q1, q2⟩ := hkeepW W' hkp
    have hjd : J S pre W'.drew := hJ S _ W' _ none hj ⟨rfl, rfl, rfl, Nat.le_refl _, fun _ _ _ => rfl⟩ (fun r e => by cases e)
    obtain ⟨fn, tmps, assign, body, hy, hRd⟩ := YieldAt.wide 0 (hY S pre x suf W'.drew hxs hjd)
    obtain ⟨k, nd⟩ := x
    have hmem : (k, nd) ∈ p.all := by rw [hxs]; simp
    have hslot := G.Pl.mem_all.1 hmem
    have hkl := (List.getElem?_eq_some_iff.1 hslot).1
    obtain ⟨hfit, A, cA, T, cT, vF, nF, cF, hvF, h1, h2, h3, h4, h5, h6, h7⟩ := id hR
    have hcl := h6 k _ hslot
    have c1 := heap_at q1 h2
    have d0 := heap_at q1 (hcl.at 0 rfl)
    have d1 := heap_at q1 (hcl.at 1 rfl)
    have d2 := heap_at q1 (hcl.at 2 rfl)
    have d3 := heap_at q1 (hcl.at 3 rfl)
    have d4 := heap_at q1 (hcl.at 4 rfl)
    have c0 := heap_at q1 hbox
    have cy := q2.cell 0
    have ki : (k : Int) < (p.slots.length : Int) := by omega
    have k0 : (0 : Int) ≤ (k : Int) := by omega
    have hn2 : (p.slots.length : Int) ≤ 1048577 := by have := hfit.len; have := hfit.room; omega
    have Hkp := Lib.hid hkp
    have HR := Lib.hid (hRd.mono (R' := fun e w3 => ∃ b : Bool, e = .returned (.bool b) ∧ Hid ((if b = true then J S (pre ++ [(k, nd)]) w3 else Jx S (pre ++ [(k, nd)]) w3) ∧ Keeps S W'.drew w3)) (by
      rintro e w3 (⟨rfl, h1⟩ | ⟨rfl, h1⟩)
      · exact ⟨true, rfl, by rw [if_pos rfl]; exact h1⟩
      · exact ⟨false, rfl, by rw [if_neg (by simp)]; exact h1⟩))
    generalize p.slots.length = n at *
    dsimp only [encNd, ndA, ndC] at hy
    simp only [Nat.add_zero] at d0
    have hmx : Try.prog.follows .mixedOrders = true := by kernel_rfl
    clear hjd hRd q1 q2 hkp hxs hj hkeepW hbW hby2 hbq hY h0 hk hR hids h1 h2 h3 h4 h5 h6 h7 hcl hslot hmem hfit
    gi_wp2
    refine round_tail 8 (by kernel_rfl) (by kernel_rfl) ?_
    simp only [List.take_succ_cons, List.take_zero, List.drop_succ_cons, List.drop_zero]
    repeat still_step
    refine wpStill_nil ?_
    clear d0 d1 d2 d3 d4 c0 cy c1
    gi_wp2
    refine ⟨rfl, ?_⟩
    refine HR.out.mono ?_
    clear HR hy
    rintro e w3 ⟨b, rfl, HJ3⟩
    cases b
    · have HJ4 := HJ3.out
      rw [if_neg (by simp)] at HJ4
      have HJ5 := Lib.hid HJ4
      clear HJ4 HJ3
      gi_wp2
      exact ⟨⟨HJ5.out.2.1, HJ5.out.2.2⟩, rfl, HJ5.out.1⟩
    · have HJ4 := HJ3.out
      rw [if_pos rfl] at HJ4
      have HJ5 := Lib.hid HJ4
      clear HJ4 HJ3
      gi_wp2
      exact ⟨⟨HJ5.out.2.1, HJ5.out.2.2⟩, HJ5.out.1, Hkp.out.trans (Keeps.sub ⟨HJ5.out.2.1, HJ5.out.2.2⟩ hKS)⟩
  case done =>
    rintro D S W3 hD hSS ⟨hj, hkp⟩ hd
    gi_wp2
    refine ⟨by simp, .inl ⟨_, _, rfl, run_takeDeferred hd, ?_⟩⟩
    refine ⟨_, results_none rfl _ _ _, ⟨_, rfl⟩, S, ?_, .inl ?_⟩
    · exact hstays S _ (hSS.putObj _ _) (by rw [World.putObj_size]; have := (Array.getElem?_eq_some_iff.1 hd).1; omega)
    · exact (hJ S).putObj _ hj (by omega) hd rfl
  case stop =>
    rintro D S c pre W3 hD hSS hpre ⟨rfl, hj⟩ hd
    gi_wp2
    refine ⟨by simp, .inl ⟨_, _, rfl, run_takeDeferred hd, ?_⟩⟩
    refine ⟨_, results_none rfl _ _ _, ⟨_, rfl⟩, S, ?_, .inr ⟨pre, hpre, (hJx S).putObj _ hj (by omega) hd rfl⟩⟩
    · exact hstays S _ (hSS.putObj _ _) (by rw [World.putObj_size]; have := (Array.getElem?_eq_some_iff.1 hd).1; omega)
end Go.Proofs.Ytdhkkkhnjooioaa
