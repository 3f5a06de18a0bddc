/- Package bits: the iterator All; the reference's All. -/
import Derived.Test.YtaeifbkimagpdaaBl
import Derived.Test.YtaeifbkimagpdaaIterG
import Derived.Test.YtaeifbkimagpdaaTail
import Derived.Shelf.Abstract
import Derived.Shelf.RegionOpen
import Derived.TacticsInMore
import Derived.LoopNIn
import Derived.LoopIn
import Derived.Outline
namespace Go.Proofs.Ytaeifbkimagpdaa
set_option linter.unusedSimpArgs false
set_option linter.unusedVariables false
open Go.ChangeShapes Go.WideShapes Go.ChangeAt Go.RowKit Go.Shelf
set_option linter.unusedVariables false
attribute [local go_sem] Oper.semAt_some
attribute [local go_sem ↓] wpIn_at_zero wpIn_at_succ
theorem ownFrom_below' {β : Type} {B : Nat} {J : β → World → Prop} (h : OwnFrom B J) {s : β} {W W' : World} (hj : J s W) (hb : Below W.heap.size W W') : J s W' :=
  h s W W' none hj ⟨hb.os, hb.tape, hb.output, hb.size, fun k hk _ => hb.block k hk⟩ (fun r e => by cases e)
def encL (m : Nat) (x : Option Addr × Nat) : Array Value := #[.slice x.1 m x.2]
def isL (m : Nat) (i : Nat) (x : Option Addr × Nat) (W : World) : Prop := RL W W.heap.size 1 x.1 m (bools (bitsOf i m))
theorem shl_any (m : Nat) (hm : m ≤ 12) : IntKind.i64.wrap ((2 : Int) ^ m) = ((2 ^ m : Nat) : Int) := by
  have h2 : (2 : Nat) ^ m ≤ 2 ^ 12 := Nat.pow_le_pow_right (by omega) hm
  rw [IntKind.wrap_i64, show ((2 : Int) ^ m) = ((2 ^ m : Nat) : Int) from (Int.natCast_pow 2 m).symm]
  generalize (2 : Nat) ^ m = q at *
  omega
set_option maxHeartbeats 1000000 in
theorem all1_iter (w : World) (Bp m : Nat) (hm : m ≤ 12) (hbox : Blk w Bp 3 #[.int .i64 (m : Int)]) :
    IterG Try.prog 50 #[.pointer (some ⟨Bp, 0, none⟩)] (encL m) (fun b => b = Bp) (2 ^ m) (isL m) w := by
  intro l J Jx W hk hJ hJx hY h0
  have hst : Stays (fun b => b = Bp) (fun b => b = Bp) W W := ⟨fun _ h => h, fun _ h => .inl h⟩
  have h00 := h0 _ W (Below.refl _ _) hst
  clear h0
  have hN : 2 ^ m ≤ 4096 := by
    have h2 : (2 : Nat) ^ m ≤ 2 ^ 12 := Nat.pow_le_pow_right (by omega) hm
    omega
  have hp := shl_any m hm
  have HY := Lib.hid (hY (fun b => b = Bp))
  have HJ := Lib.hid h00
  have Hk := Lib.hid hk
  have c0 : W.cell? ⟨Bp, 0, none⟩ = some (.int .i64 (m : Int)) := ((hk.2 _ rfl).trans hbox |> fun h : Blk W Bp 3 _ => h.cell 0)
  have HW := Lib.hid (fun W' (hk' : Keeps (fun b => b = Bp) w W') => (show Blk W' Bp 3 #[.int .i64 (m : Int)] from (hk'.2 _ rfl).trans hbox))
  have hm0 : (0 : Int) ≤ (m : Int) := by omega
  have hm1 : (m : Int) ≤ 12 := by omega
  have HJo := Lib.hid hJ
  clear hY h00 hst hk hbox hJ
  generalize (2 : Nat) ^ m = N at *
  refine callsIn_of_wp Try.func50 rfl trivial ?_ rfl
  simp only [Try.ntmps50, List.size_toArray, List.length_cons, List.length_nil, Nat.reduceAdd, Nat.reduceSub, Array.replicate_succ, Array.replicate_zero, List.push_toArray, List.append_toArray, List.nil_append, List.cons_append]
  gi_wp2
  gi_loopw [6] (fun i wr => ∃ (k : Nat) (pre : List (Option Addr × Nat)), k ≤ N ∧ i = .int .i64 k ∧ pre.length = k ∧ J (fun b => b = Bp) pre wr ∧ Keeps (fun b => b = Bp) w wr ∧ W.heap.size ≤ wr.heap.size) (fun i _ => (N - intOf i).toNat)
  case atStart => exact ⟨0, [], by omega, rfl, rfl, HJ.out, Hk.out, Nat.le_refl _⟩
  case round =>
    obtain ⟨k, pre, hkn, rfl, hpl, hj, hkp, hwr⟩ := hrel
    clear c0
    have hb1 := HW.out wr hkp
    have c0 : wr.cell? ⟨Bp, 0, none⟩ = some (.int .i64 (m : Int)) := hb1.cell 0
    have hBl : Bp < wr.heap.size := hb1.lt
    have Hkp := Lib.hid hkp
    have Hj := Lib.hid hj
    have Hpl := Lib.hid hpl
    clear hb1 hkp hj hpl
    by_cases hlt : k < N
    · have C1 := Lib.hid (fun w => by
        have := of_any k (m : Int) w (by omega)
        rw [show (min (max (m : Int) 0) 64).toNat = m by omega] at this
        exact this)
      have ki : (k : Int) < (N : Int) := by omega
      have k0 : (0 : Int) ≤ (k : Int) := by omega
      gi_wp2_with (refine wide_call (C1.out _) ?_; intro e w1 hnew; obtain ⟨A1, c1, rfl, hc1, hr1, hb1⟩ := hnew; rw [bitsOf_length] at *; obtain ⟨fn, tmps, assign, body, hy, hR⟩ := YieldAt.wide 0 (HY.out pre (A1, c1) w1 (by rw [Hpl.out]; exact hlt) (by rw [Hpl.out]; exact hr1) (ownFrom_below' (HJo.out _) Hj.out hb1)); dsimp only [encL] at hy; have HR := Lib.hid hR; have Hb1 := Lib.hid hb1; clear hR hr1 hc1 hb1)
      refine ⟨rfl, ?_⟩
      refine HR.out.mono ?_
      clear HR hy
      rintro e W3 (⟨rfl, hJ3, hk3⟩ | ⟨rfl, hJx3, hk3⟩)
      · have Hk1 := Lib.hid (Hkp.out.trans ((Keeps.of_below (S := fun b => b = Bp) Hb1.out (fun b hb => by rw [hb]; exact hBl)).trans hk3))
        have Hz := Lib.hid (show W.heap.size ≤ W3.heap.size from by have := Hb1.out.size; have := hk3.1; omega)
        have HJ3 := Lib.hid hJ3
        clear hJ3 hk3
        gi_wp2
        go_roundw
        case rel => exact ⟨k + 1, pre ++ [(A1, c1)], by omega, by go_num, by rw [List.length_append, Hpl.out]; rfl, HJ3.out, Hk1.out, Hz.out⟩
        case measure => simp [intOf]; omega
      · have HJx3 := Lib.hid hJx3
        clear hJx3 hk3
        gi_wp2
        refine bodyPost_ret (results_none rfl _ _ _) rfl ?_
        exact ⟨⟨_, rfl⟩, _, ⟨fun _ h => h, fun _ h => .inl h⟩, .inr ⟨pre ++ [(A1, c1)], by rw [List.length_append, Hpl.out]; simp; omega, HJx3.out⟩⟩
    · obtain rfl : k = N := by omega
      gi_wp2
      go_end0
      exact ⟨⟨_, rfl⟩, _, ⟨fun _ h => h, fun _ h => .inl h⟩, .inl ⟨pre, Hpl.out, Hj.out⟩⟩
theorem rhold12 (n : Int) (w : World) :
    Calls Try.prog 47 #[.int .i64 n, .int .i64 0, .int .i64 12] w fun r w' => r = .returned (.int .i64 (min (max n 0) 12)) ∧ w = w' := by
  by_cases h : n < 0
  · have e : min (max n 0) 12 = 0 := by omega
    rw [e]
    clear e
    go_enter Try.func47, Try.ntmps47
    go_wp2
    go_ret
    exact ⟨rfl, rfl⟩
  · by_cases h2 : 12 < n
    · have e : min (max n 0) 12 = 12 := by omega
      rw [e]
      clear e
      go_enter Try.func47, Try.ntmps47
      go_wp2
      go_ret
      exact ⟨rfl, rfl⟩
    · have e : min (max n 0) 12 = n := by omega
      rw [e]
      clear e
      go_enter Try.func47, Try.ntmps47
      go_wp2
      go_ret
      exact ⟨rfl, rfl⟩
theorem row_info : (Try.prog.info? 23).map (fun i => (i.zero, i.size, i.bytes)) = some (some (.slice none 0 0), 1, 24) := by kernel_rfl
def vals (m : Nat) (xs : List (Option Addr × Nat)) : List Value := xs.map fun x => .slice x.1 m x.2
/-- Every list lies where the row of slices says, apart from that row. -/
def AllA (m : Nat) (xs : List (Option Addr × Nat)) (w : World) (v : Value) : Prop := ∀ i x, xs[i]? = some x → isL m i x w ∧ ∀ b o, 0 < m → x.1 = some ⟨b, o, none⟩ → v.ownBlock ≠ some b
/-- Every list lies where the row of slices says. -/
def AllL (m : Nat) (xs : List (Option Addr × Nat)) (w : World) : Prop := ∀ i x, xs[i]? = some x → isL m i x w
theorem AllL.below {m : Nat} {xs : List (Option Addr × Nat)} {w w' : World} (h : AllL m xs w) (hb : Below w.heap.size w w') : AllL m xs w' := fun i x hx => ((h i x hx).below hb).more hb.size
theorem pow_succ_i (k : Nat) : ((2 ^ (k + 1) : Nat) : Int) = 2 * ((2 ^ k : Nat) : Int) := by rw [Nat.pow_succ]; omega
set_option maxHeartbeats 1000000 in
theorem rall_any (m0 : Int) (m : Nat) (hm0 : min (max m0 0) 12 = (m : Int)) (w : World) :
    Calls Try.prog 26 #[.int .i64 m0] w fun e w' => ∃ (A : Option Addr) (c : Nat) (xs : List (Option Addr × Nat)), e = .returned (.slice A (2 ^ m) c) ∧ xs.length = 2 ^ m ∧ RL w' w'.heap.size 1 A (2 ^ m) (vals m xs) ∧ AllL m xs w' ∧ Below w.heap.size w w' := by
  have hm : m ≤ 12 := by omega
  have C1 := Lib.hid (fun w => rhold12 m0 w)
  rw [hm0] at C1
  obtain ⟨i1, hi1, hz1, hs1, hy1⟩ := info_parts row_info
  have C2 := Lib.hid (fun (k : Nat) (hk : k < 18446744073709551616) w => by
    have := rof_any k (m : Int) w hk
    rw [show (min (max (m : Int) 0) 64).toNat = m by omega] at this
    exact this)
  have hN : 2 ^ m ≤ 4096 := by
    have h2 : (2 : Nat) ^ m ≤ 2 ^ 12 := Nat.pow_le_pow_right (by omega) hm
    omega
  clear hm0
  go_enter Try.func26, Try.ntmps26
  go_wp2_with (go_at_call 47; refine (C1.out _).mono ?_; rintro r w' ⟨rfl, rfl⟩)
  go_loop [4, 5] (fun n i => ∃ k : Nat, k ≤ m ∧ i = .int .i64 k ∧ n = .int .i64 ((2 ^ k : Nat) : Int)) (fun _ i => (m - intOf i).toNat)
  case atStart => exact ⟨0, by omega, rfl, rfl⟩
  case round =>
    obtain ⟨k, hk, rfl, rfl⟩ := hrel
    by_cases hlt : k < m
    · have Hp := Lib.hid (pow_succ_i k)
      have hb : (2 : Nat) ^ k ≤ 4096 := Nat.le_trans (Nat.pow_le_pow_right (by omega) (show k ≤ 12 by omega)) (by decide)
      generalize (2 : Nat) ^ k = q at *
      have hb2 : (q : Int) ≤ 4096 := by omega
      have hb0 : (0 : Int) ≤ (q : Int) := by omega
      go_wp2
      go_round
      case rel => exact ⟨k + 1, by omega, by go_num, by rw [Hp.out]⟩
      case measure => simp [intOf]; omega
    · obtain rfl : k = m := by omega
      generalize hNk : (2 : Nat) ^ k = N at *
      have HN := Lib.hid hNk
      clear hNk
      go_wp2
      go_loopw [3, 6] (fun v i wr => ∃ (j : Nat) (xs : List (Option Addr × Nat)), j ≤ N ∧ i = .int .i64 j ∧ xs.length = j ∧ Own wr w.heap.size 23 1 v j (vals k xs) ∧ AllA k xs wr v ∧ Below w.heap.size w wr) (fun _ i _ => (N - intOf i).toNat)
      case atStart =>
        refine ⟨0, [], by omega, rfl, rfl, ?_, fun i x hx => by simp at hx, (Below.refl _ _).alloc (Nat.le_refl _) _⟩
        exact Own.ofRow (World.ownsRow_lit (base := w.heap.size) (size := 1) (e := 23) w #[] 0 (Nat.le_refl _) (by unfold maxLen; omega) rfl)
      case round =>
        obtain ⟨j, xs, hj, rfl, hxl, hown, hal, hb⟩ := hrel
        obtain ⟨A, c, rfl, hcc⟩ := hown.shape
        have hbz := hb.size
        have Hown := Lib.hid hown
        have Hb := Lib.hid hb
        have Hal := Lib.hid hal
        have Hxl := Lib.hid hxl
        clear hown hb hal hxl
        by_cases hjn : j < N
        · have ji : (j : Int) < (N : Int) := by omega
          have j0 : (0 : Int) ≤ (j : Int) := by omega
          go_wp2_with fail
          refine (C2.out j (by omega) wr).mono ?_
          intro e w1 hnew
          obtain ⟨A1, c1, rfl, ⟨_, hlow⟩, hr1, hb1⟩ := hnew
          have Hlow := Lib.hid hlow
          clear hlow
          rw [bitsOf_length] at *
          have hz1' := hb1.size
          have Hr1 := Lib.hid hr1
          have Hb1 := Lib.hid hb1
          have Ho1 := Lib.hid (Hown.out.below hb1 (Nat.le_refl _))
          clear hr1 hb1
          go_wp2_with (at_builtin; refine wpList_append_Own _ rfl (.tmp 22) (.tmp 27) _ rfl w.heap.size 23 i1 (.slice none 0 0) 1 24 Try.underlying38 hi1 hz1 hs1 hy1 rfl (by omega) (.slice A j c) j (vals k xs) rfl (Ho1.out.alloc _) ⟨w1.heap.size, 0, none⟩ 1 1 [.slice A1 k c1] rfl rfl (cell_one_new w1 _ _) (by intro u hu; simp at hu; subst hu; rfl) (by unfold maxLen; omega) (by omega) (by simp; omega) ?_; intro v2 w2 hown2 hgrow hat; have Hown2 := Lib.hid hown2; have Hgrow := Lib.hid hgrow; have Hat := Lib.hid hat; clear hown2 hgrow hat)
          go_roundw
          case rel =>
            go_light
            have hbb : ∀ r, (Value.slice A j c).ownBlock = some r → w.heap.size ≤ r := fun r hr => (Hown.out.lt r hr).1
            have hBt := (((Hb.out.trans (Hb1.out.mono hbz)).alloc (by omega) (.cells #[.slice A1 k c1] 23)).grown Hgrow.out (by simp; omega) hbb)
            have hs2 : w1.heap.size ≤ w2.heap.size := by have := Hgrow.out.size; simp at this; omega
            have hkeepL : ∀ i (x : Option Addr × Nat), isL k i x w1 → (∀ b o, 0 < k → x.1 = some ⟨b, o, none⟩ → (Value.slice A j c).ownBlock ≠ some b) → isL k i x w2 ∧ ∀ b o, 0 < k → x.1 = some ⟨b, o, none⟩ → v2.ownBlock ≠ some b := fun i x hr hne => by
              refine ⟨⟨hr.1, fun hk0 => ?_⟩, fun b o hk0 hx he => ?_⟩
              · obtain ⟨b, o, hA2, hb', hc'⟩ := hr.2 hk0
                refine ⟨b, o, hA2, by omega, fun q hq => ?_⟩
                rw [← hc' q hq]
                exact (World.cell?_of_block (w := w1.alloc _) (a := ⟨b, o + q, none⟩) (Hgrow.out.block b (by simp; omega) (fun e => hne b o hk0 hA2 e.symm))).trans (World.cell?_alloc_lt w1 _ ⟨b, o + q, none⟩ hb')
              · rcases Hat.out with h7 | h7
                · rw [h7] at he; exact hne b o hk0 hx he
                · rw [h7] at he
                  simp only [World.size_alloc, Option.some.injEq] at he
                  obtain ⟨b', o', hA2, hb', _⟩ := hr.2 hk0
                  rw [hx] at hA2
                  injection hA2 with hA2
                  injection hA2 with hA2
                  omega
            refine ⟨j + 1, xs ++ [(A1, c1)], by omega, by go_num, by rw [List.length_append, Hxl.out]; rfl, ?_, ?_, hBt⟩
            · have h := Hown2.out
              simpa [vals] using h
            · intro i x hx
              by_cases hij : i < xs.length
              · rw [List.getElem?_append_left hij] at hx
                obtain ⟨q1, q2⟩ := Hal.out i x hx
                exact hkeepL i x ((q1.below Hb1.out).more Hb1.out.size) q2
              · rw [List.getElem?_append_right (by omega)] at hx
                have hi0 : i - xs.length = 0 := by
                  rcases Nat.eq_zero_or_pos (i - xs.length) with h0 | h0
                  · exact h0
                  · rw [List.getElem?_eq_none (by simp; omega)] at hx; cases hx
                rw [hi0] at hx
                simp at hx
                subst hx
                have hij2 : i = j := by have := Hxl.out; omega
                subst hij2
                refine hkeepL i (A1, c1) Hr1.out (fun b o hk0 hA he => ?_)
                have h1 := Hlow.out b o hA
                have h2 := (Hown.out.lt b he).2
                omega
          case measure => simp [intOf]; omega
        · obtain rfl : j = N := by omega
          go_wp2_with fail
          go_ret
          rw [HN.out]
          exact ⟨A, c, xs, rfl, Hxl.out, RL.of_own Hown.out, fun i x hx => (Hal.out i x hx).1, Hb.out⟩
end Go.Proofs.Ytaeifbkimagpdaa
