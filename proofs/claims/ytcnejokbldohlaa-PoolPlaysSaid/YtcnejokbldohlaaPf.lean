/- Package pool: the iterators ids and Each. -/
import Derived.Test.YtcnejokbldohlaaPe
import Derived.Test.YtcnejokbldohlaaIter
import Derived.Shelf.Abstract
import Derived.Shelf.RegionOpen
import Derived.OwnWalkIn
import Derived.TacticsInMore
import Derived.LoopNIn
import Derived.LoopIn
import Derived.Outline
namespace Go.Proofs.Ytcnejokbldohlaa
set_option linter.unusedSimpArgs false
set_option linter.unusedVariables false
open Go.ChangeShapes Go.WideShapes Go.ChangeAt Go.RowKit Go.Shelf
set_option linter.unusedVariables false
attribute [local go_sem] Oper.semAt_some
theorem PoolAt.keeps {w w' : World} {base g : Nat} {F : List Nat} {s : Pl} {K : Nat → Prop} (h : PoolAt w base g F s) (k : Keeps K w w') (hF : ∀ b ∈ F, K b) : PoolAt w' base g F s := by
  obtain ⟨av, tv, fv, hb, hg, ha, ht, hf, rfl⟩ := h
  exact ⟨av, tv, fv, (k.2 _ (hF _ (by simp))).trans hb, hg, ha.keep (fun x hx => k.2 _ (hF _ (by simp [hx]))), ht.keep (fun x hx => k.2 _ (hF _ (by simp [hx]))), hf.keep (fun x hx => k.2 _ (hF _ (by simp [hx]))), rfl⟩
/-- The numbers below k whose slots are taken, in increasing order. -/
def Pl.upto (s : Pl) (k : Nat) : List Nat := (List.range k).filter fun i => s.taken.getD i false
def Pl.ids (s : Pl) : List Nat := s.upto s.taken.length
theorem Pl.upto_succ (s : Pl) (k : Nat) : s.upto (k + 1) = s.upto k ++ (if s.taken.getD k false = true then [k] else []) := by
  unfold Pl.upto
  rw [List.range_succ, List.filter_append]
  cases h : s.taken.getD k false
  · rw [List.filter_cons_of_neg (by rw [h]; simp)]; simp
  · rw [List.filter_cons_of_pos (by rw [h])]; simp
theorem Pl.upto_split (s : Pl) (k n : Nat) (hk : k < n) (h : s.taken.getD k false = true) : ∃ suf, s.upto n = s.upto k ++ k :: suf := by
  induction n with
  | zero => omega
  | succ n ih =>
    rw [Pl.upto_succ]
    by_cases e : k = n
    · subst e; rw [if_pos h]; exact ⟨[], rfl⟩
    · obtain ⟨suf, hs⟩ := ih (by omega)
      rw [hs]
      exact ⟨suf ++ _, by rw [List.append_assoc]; rfl⟩
theorem box_cell {w : World} {b t : Nat} {v : Value} (h : Blk w b t #[v]) : w.cell? ⟨b, 0, none⟩ = some v := h.cell 0
set_option maxHeartbeats 1000000 in
theorem ids1_iter (w : World) (base g Bp : Nat) (F : List Nat) (s : Pl) (hbox : Blk w Bp 22 #[.pointer (some ⟨g, 0, none⟩)]) (h : PoolAt w base g F s) (hs : s.ok) :
    Iter Try.prog 58 #[.pointer (some ⟨Bp, 0, none⟩)] (fun k : Nat => #[Value.int .i64 (k : Int)]) (fun b => b = Bp ∨ b ∈ F) s.ids w := by
  intro l J Jx W hk hJ hJx hY h0
  have hst : Stays (fun b => b = Bp ∨ b ∈ F) (fun b => b = Bp ∨ b ∈ F) W W := ⟨fun _ h => h, fun _ h => .inl h⟩
  have h00 := h0 _ W (Below.refl _ _) hst
  clear h0
  have hY' := hY (fun b => b = Bp ∨ b ∈ F)
  clear hY
  have hW : ∀ W', Keeps (fun b => b = Bp ∨ b ∈ F) w W' → Blk W' Bp 22 #[.pointer (some ⟨g, 0, none⟩)] ∧ PoolAt W' base g F s := fun W' hk' =>
    ⟨(hk'.2 _ (.inl rfl)).trans hbox, h.keeps hk' (fun b hb => .inr hb)⟩
  generalize hn : s.taken.length = n at *
  have hids : s.ids = s.upto n := by unfold Pl.ids; rw [hn]
  rw [hids] at hY' ⊢
  have HW := Lib.hid hW
  have Hs := Lib.hid hs
  have HY := Lib.hid hY'
  have HJ := Lib.hid h00
  have Hk := Lib.hid hk
  have Hn := Lib.hid hn
  have Hst := Lib.hid hst
  have hn2 : (n : Int) ≤ 2000000 := by have := hs.1; have := hs.2.2.1; omega
  obtain ⟨hb1, hp1⟩ := hW W hk
  have c0 := box_cell hb1
  obtain ⟨a, ac, t, tc, fv, ho⟩ := hp1.toOpen hs
  obtain ⟨_, c1, c2, _, _⟩ := ho.cell
  rw [hs.1, hn] at c1
  rw [hn] at c2
  clear hb1 hp1 ho hW hY' h00 hk hn hst hids hs h hbox
  refine callsIn_of_wp Try.func58 rfl trivial ?_ rfl
  simp only [Try.ntmps58, List.size_toArray, List.length_cons, List.length_nil, Nat.reduceAdd, Nat.reduceSub, Array.replicate_succ, Array.replicate_zero, List.push_toArray, List.append_toArray, List.nil_append, List.cons_append]
  gi_wp2
  gi_loopw [11] (fun i wr => ∃ k : Nat, k ≤ n ∧ i = .int .i64 k ∧ J (fun b => b = Bp ∨ b ∈ F) (s.upto k) wr ∧ Keeps (fun b => b = Bp ∨ b ∈ F) w wr ∧ W.heap.size ≤ wr.heap.size) (fun i _ => (n - intOf i).toNat)
  case atStart => exact ⟨0, by omega, rfl, HJ.out, Hk.out, Nat.le_refl _⟩
  case round =>
    obtain ⟨k, hkn, rfl, hj, hkp, hwr⟩ := hrel
    clear c0 c1 c2
    obtain ⟨hb1, hp1⟩ := HW.out wr hkp
    have c0 := box_cell hb1
    obtain ⟨a, ac, t, tc, fv, ho⟩ := hp1.toOpen Hs.out
    obtain ⟨_, _, c2, _, _⟩ := ho.cell
    rw [Hn.out] at c2
    have Hkp := Lib.hid hkp
    have Hj := Lib.hid hj
    have Hwr := Lib.hid hwr
    clear hb1 hp1 hkp hj hwr
    by_cases hlt : k < n
    · have c3 := ho.cellT k (by rw [Hn.out]; exact hlt)
      have hget : s.taken.getD k false = s.taken[k]'(by rw [Hn.out]; exact hlt) := by simp [Hn.out, hlt]
      have hsucc := s.upto_succ k
      have hsplit := s.upto_split k n hlt
      rw [hget] at hsucc hsplit
      generalize s.taken[k]'(by rw [Hn.out]; exact hlt) = tb at *
      have Hsucc := Lib.hid hsucc
      have ki : (k : Int) < (n : Int) := by omega
      have k0 : (0 : Int) ≤ (k : Int) := by omega
      clear ho hget hsucc
      cases tb
      · clear hsplit
        gi_wp2
        refine ⟨fun _ h => (by cases h), ?_⟩
        gi_wp2
        go_roundw
        case rel => exact ⟨k + 1, by omega, by go_num, by rw [Hsucc.out]; simpa using Hj.out, Hkp.out, Hwr.out⟩
        case measure => simp [intOf]; omega
      · obtain ⟨suf, hsuf⟩ := hsplit rfl
        obtain ⟨fn, tmps, assign, body, hy, hR⟩ := YieldAt.wide 0 (HY.out (s.upto k) k suf wr hsuf Hj.out)
        have Hsuf := Lib.hid hsuf
        clear hsuf hsplit
        gi_wp2
        refine ⟨rfl, ?_⟩
        refine hR.mono ?_
        clear hR hy
        rintro e W3 (⟨rfl, hJ3, hk3⟩ | ⟨rfl, hJx3, _⟩)
        · have Hz := Lib.hid (Nat.le_trans Hwr.out hk3.1)
          have Hk3 := Lib.hid (Hkp.out.trans hk3)
          have HJ3 := Lib.hid hJ3
          clear hJ3 hk3
          gi_wp2
          go_roundw
          case rel => exact ⟨k + 1, by omega, by go_num, by rw [Hsucc.out]; simpa using HJ3.out, Hk3.out, Hz.out⟩
          case measure => simp [intOf]; omega
        · have HJx3 := Lib.hid hJx3
          clear hJx3
          gi_wp2
          refine bodyPost_ret (results_none rfl _ _ _) rfl ?_
          exact ⟨⟨_, rfl⟩, _, ⟨fun _ h => h, fun _ h => .inl h⟩, .inr ⟨s.upto k ++ [k], ⟨suf, by rw [Hsuf.out]; simp⟩, HJx3.out⟩⟩
    · have hkn' : k = n := by omega
      subst hkn'
      gi_wp2
      go_end0
      exact ⟨⟨_, rfl⟩, _, ⟨fun _ h => h, fun _ h => .inl h⟩, .inl Hj.out⟩
end Go.Proofs.Ytcnejokbldohlaa
