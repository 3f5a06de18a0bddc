/- The reference's pools: what one is in memory; New, Has, Len, At. -/
import Derived.Test.YtcnejokbldohlaaPk
import Derived.Deep.RegionHeld3
import Derived.Deep.DrawnRows
namespace Go.Proofs.Ytcnejokbldohlaa
set_option linter.unusedSimpArgs false
set_option linter.unusedVariables false
open Go.ChangeShapes Go.WideShapes Go.ChangeAt Go.RowKit
set_option linter.unusedVariables false
/-- A row that is read; its block is of S. -/
def RQ (w : World) (S : Nat → Prop) (size : Nat) (A : Option Addr) (n : Nat) (xs : List Value) : Prop :=
  xs.length = n * size ∧ (0 < n → ∃ b o, A = some ⟨b, o, none⟩ ∧ S b ∧ b < w.heap.size ∧ ∀ k, k < n * size → w.cell? ⟨b, o + k, none⟩ = xs[k]?)
section
variable {w w' : World} {S S' : Nat → Prop} {size n : Nat} {A : Option Addr} {xs : List Value}
theorem RQ.keep (h : RQ w S size A n xs) (hz : w.heap.size ≤ w'.heap.size) (hk : ∀ b, S b → b < w.heap.size → w'.heap[b]? = w.heap[b]?) : RQ w' S size A n xs :=
  ⟨h.1, fun hn => by
    obtain ⟨b, o, e, hs, hb, hc⟩ := h.2 hn
    exact ⟨b, o, e, hs, by omega, fun k hkn => (World.cell?_of_block (w := w) (a := ⟨b, o + k, none⟩) (hk b hs hb)).trans (hc k hkn)⟩⟩
theorem RQ.imp (h : RQ w S size A n xs) (hs : ∀ b, S b → b < w.heap.size → S' b) : RQ w S' size A n xs :=
  ⟨h.1, fun hn => by
    obtain ⟨b, o, e, h1, hb, hc⟩ := h.2 hn
    exact ⟨b, o, e, hs b h1 hb, hb, hc⟩⟩
theorem RQ.below (h : RQ w S size A n xs) (hb : Below w.heap.size w w') : RQ w' S size A n xs := h.keep hb.size fun b _ hlt => hb.block b hlt
theorem RQ.of_own {base e c : Nat} (h : Own w base e size (.slice A n c) n xs) : RQ w (fun b => base ≤ b) size A n xs := by
  refine ⟨h.1, fun hn => ?_⟩
  obtain ⟨g, cap, hv, hb, hlt, _, _, hcell, _⟩ := h.form hn
  injection hv with hA
  exact ⟨g, 0, hA, hb, hlt, fun k hk => by rw [Nat.zero_add]; exact hcell k hk⟩
theorem RQ.nil : RQ w S size none 0 [] := ⟨by simp, fun h => absurd h (by omega)⟩
end
/-- A reference pool: its slots' nodes, which are taken, the released ones. -/
structure Rf where
  room : Int
  nodes : List Nd
  taken : List Bool
  free : List Int
def Rf.val (r : Rf) (A1 : Option Addr) (c1 : Nat) (A2 : Option Addr) (c2 : Nat) (A3 : Option Addr) (c3 : Nat) : Value :=
  .agg #[.int .i64 r.room, .slice A1 r.nodes.length c1, .slice A2 r.taken.length c2, .slice A3 r.free.length c3]
structure RefAt (w : World) (S : Nat → Prop) (A1 : Option Addr) (c1 : Nat) (A2 : Option Addr) (c2 : Nat) (A3 : Option Addr) (c3 : Nat) (r : Rf) : Prop where
  nd : RQ w S 5 A1 r.nodes.length (nds r.nodes)
  tk : RQ w S 1 A2 r.taken.length (bools r.taken)
  fr : RQ w S 1 A3 r.free.length (ints r.free)
  cn : r.nodes.length ≤ c1
  ct : r.taken.length ≤ c2
  cf : r.free.length ≤ c3
structure Rf.ok (r : Rf) : Prop where
  len : r.nodes.length = r.taken.length
  lim : r.taken.length ≤ 1000000
  limf : r.free.length ≤ 1000000
section
variable {w w' : World} {S S' : Nat → Prop} {A1 : Option Addr} {c1 : Nat} {A2 : Option Addr} {c2 : Nat} {A3 : Option Addr} {c3 : Nat} {r : Rf}
theorem RefAt.keep (h : RefAt w S A1 c1 A2 c2 A3 c3 r) (hz : w.heap.size ≤ w'.heap.size) (hk : ∀ b, S b → b < w.heap.size → w'.heap[b]? = w.heap[b]?) : RefAt w' S A1 c1 A2 c2 A3 c3 r :=
  ⟨h.nd.keep hz hk, h.tk.keep hz hk, h.fr.keep hz hk, h.cn, h.ct, h.cf⟩
theorem RefAt.imp (h : RefAt w S A1 c1 A2 c2 A3 c3 r) (hs : ∀ b, S b → b < w.heap.size → S' b) : RefAt w S' A1 c1 A2 c2 A3 c3 r :=
  ⟨h.nd.imp hs, h.tk.imp hs, h.fr.imp hs, h.cn, h.ct, h.cf⟩
theorem RefAt.below (h : RefAt w S A1 c1 A2 c2 A3 c3 r) (hb : Below w.heap.size w w') : RefAt w' S A1 c1 A2 c2 A3 c3 r := h.keep hb.size fun b _ hlt => hb.block b hlt
end
def Rf.new (room : Int) : Rf := ⟨room, [], [], []⟩
def Rf.has (r : Rf) (id : Int) : Bool := decide (1 ≤ id) && r.taken.getD (id - 1).toNat false
def Rf.len (r : Rf) : Nat := r.taken.count true
def Rf.node (r : Rf) (id : Int) : Nd := if r.has id = true then r.nodes.getD (id - 1).toNat Nd.zero else Nd.zero
theorem Rf.has_at {r : Rf} {id : Int} (h : r.has id = true) : ∃ k : Nat, id = (k : Int) + 1 ∧ k < r.taken.length ∧ r.taken[k]? = some true := by
  unfold Rf.has at h
  simp only [Bool.and_eq_true, decide_eq_true_eq] at h
  refine ⟨(id - 1).toNat, by omega, ?_⟩
  rw [List.getD_eq_getElem?_getD] at h
  cases hk : r.taken[(id - 1).toNat]? with
  | none => rw [hk] at h; simp at h
  | some b =>
    rw [hk] at h; simp at h
    exact ⟨(List.getElem?_eq_some_iff.1 hk).1, by rw [h.2]⟩
set_option maxHeartbeats 400000 in
theorem rhas_any (w : World) (S : Nat → Prop) (A1 : Option Addr) (c1 : Nat) (A2 : Option Addr) (c2 : Nat) (A3 : Option Addr) (c3 : Nat) (r : Rf) (id : Int) (h : RefAt w S A1 c1 A2 c2 A3 c3 r) (hr : r.ok) :
    Calls Try.prog 51 #[r.val A1 c1 A2 c2 A3 c3, .int .i64 id] w fun e w' => e = .returned (.bool (r.has id)) ∧ Below w.heap.size w w' := by
  unfold Rf.val
  have htk := h.tk
  have hl : (r.taken.length : Int) ≤ 1000000 := by have := hr.lim; omega
  clear h hr
  by_cases h0 : 1 ≤ id
  · by_cases h1 : id ≤ r.taken.length
    · obtain ⟨k, rfl⟩ : ∃ k : Nat, id = (k : Int) + 1 := ⟨(id - 1).toNat, by omega⟩
      have hk : k < r.taken.length := by omega
      obtain ⟨b, o, rfl, _, hb, hc⟩ := htk.2 (by omega)
      have c := hc k (by omega)
      rw [bools_get _ _ _ (List.getElem?_eq_getElem hk)] at c
      have hv : r.has ((k : Int) + 1) = r.taken[k] := by unfold Rf.has; rw [decide_eq_true (by omega)]; simp [hk]
      generalize r.taken[k] = bb at *
      have Hv := Lib.hid hv
      generalize r.taken.length = n at *
      have e1 : (k : Int) + 1 - 1 = (k : Int) := by omega
      have k0 : (0 : Int) ≤ (k : Int) := by omega
      have k1 : (k : Int) < (n : Int) := by omega
      clear htk hc hv
      go_enter Try.func51, Try.ntmps51
      go_wp2
      go_ret
      exact ⟨retb Hv.out, (Below.refl _ _).alloc (Nat.le_refl _) _⟩
    · have Hv := Lib.hid (show r.has id = false from by
        unfold Rf.has; rw [List.getD_eq_getElem?_getD, List.getElem?_eq_none (by omega)]; simp)
      generalize r.taken.length = n at *
      have h1' : (n : Int) < id := by omega
      clear htk h1
      go_enter Try.func51, Try.ntmps51
      go_wp2
      go_ret
      exact ⟨retb Hv.out, (Below.refl _ _).alloc (Nat.le_refl _) _⟩
  · have Hv := Lib.hid (show r.has id = false from by unfold Rf.has; rw [decide_eq_false h0]; rfl)
    clear htk
    go_enter Try.func51, Try.ntmps51
    go_wp2
    go_ret
    exact ⟨retb Hv.out, (Below.refl _ _).alloc (Nat.le_refl _) _⟩
theorem count_take_succ (l : List Bool) (k : Nat) (h : k < l.length) : (l.take (k + 1)).count true = (l.take k).count true + (if l[k] = true then 1 else 0) := by
  rw [List.take_add_one, List.getElem?_eq_getElem h, List.count_append]
  cases l[k] <;> simp
set_option maxHeartbeats 1000000 in
theorem rlen_any (w : World) (S : Nat → Prop) (A1 : Option Addr) (c1 : Nat) (A2 : Option Addr) (c2 : Nat) (A3 : Option Addr) (c3 : Nat) (r : Rf) (h : RefAt w S A1 c1 A2 c2 A3 c3 r) (hr : r.ok) :
    Calls Try.prog 30 #[r.val A1 c1 A2 c2 A3 c3] w fun e w' => e = .returned (.int .i64 (r.len : Nat)) ∧ Below w.heap.size w w' := by
  unfold Rf.val Rf.len
  have htk := h.tk
  have hl : (r.taken.length : Int) ≤ 1000000 := by have := hr.lim; omega
  clear h hr
  generalize r.nodes.length = n1 at *
  generalize r.free.length = n3 at *
  generalize hT : r.taken = T at *
  clear hT
  have Htk := Lib.hid htk
  clear htk
  generalize hn : T.length = n at *
  have Hn := Lib.hid hn
  clear hn
  go_enter Try.func30, Try.ntmps30
  go_wp2_with fail
  go_loop [3, 4] (fun v i => ∃ j : Nat, j ≤ n ∧ i = .int .i64 j ∧ v = .int .i64 ((T.take j).count true : Nat)) (fun _ i => (n - intOf i).toNat)
  case atStart => exact ⟨0, by omega, rfl, rfl⟩
  case round =>
    obtain ⟨j, hj, rfl, rfl⟩ := hrel
    by_cases hlt : j < n
    · obtain ⟨b, o, rfl, _, hb, hc⟩ := Htk.out.2 (by omega)
      have hl' : j < T.length := by rw [Hn.out]; exact hlt
      have c := hc j (by omega)
      rw [bools_get _ _ _ (List.getElem?_eq_getElem hl')] at c
      have Hs := Lib.hid (count_take_succ T j hl')
      have hcn : (T.take j).count true ≤ j := Nat.le_trans List.count_le_length (by simp; omega)
      generalize T[j] = bb at *
      generalize (T.take j).count true = q at *
      have k0 : (0 : Int) ≤ (j : Int) := by omega
      have k1 : (j : Int) < (n : Int) := by omega
      clear hc hl'
      cases bb
      all_goals
        go_wp2_with fail
        go_round
        case rel => exact ⟨j + 1, by omega, by go_num, by rw [Hs.out]; simp⟩
        case measure => simp [intOf]; omega
    · have hjn : j = n := by omega
      subst hjn
      have Hf := Lib.hid (show T.take j = T from List.take_of_length_le (by rw [Hn.out]; exact Nat.le_refl _))
      go_wp2
      go_ret
      exact ⟨by rw [Hf.out]; rfl, (Below.refl _ _).alloc (Nat.le_refl _) _⟩
theorem rnew_any (w : World) (room : Int) : Calls Try.prog 27 #[.int .i64 room] w fun e w' =>
    e = .returned (.tuple #[(Rf.new (if 1 ≤ room ∧ room ≤ 1048576 then room else 0)).val none 0 none 0 none 0, .int .i64 (if 1 ≤ room ∧ room ≤ 1048576 then 0 else 2)]) ∧ Below w.heap.size w w' := by
  by_cases h1 : 1 ≤ room
  · by_cases h2 : room ≤ 1048576
    · have e : (1 ≤ room ∧ room ≤ 1048576) := ⟨h1, h2⟩
      rw [if_pos e, if_pos e]
      clear e
      go_enter Try.func27, Try.ntmps27
      go_wp2
      exact bodyPost_ret (v := .tuple #[.agg #[.int .i64 room, .slice none 0 0, .slice none 0 0, .slice none 0 0], .int .i64 0]) (by simp [results, Try.results27, go_sem]) rfl ⟨rfl, (Below.refl _ _).alloc (Nat.le_refl _) _⟩
    · have e : ¬ (1 ≤ room ∧ room ≤ 1048576) := fun h => h2 h.2
      rw [if_neg e, if_neg e]
      clear e
      go_enter Try.func27, Try.ntmps27
      go_wp2
      exact bodyPost_ret (v := .tuple #[.agg #[.int .i64 0, .slice none 0 0, .slice none 0 0, .slice none 0 0], .int .i64 2]) (by simp [results, Try.results27, go_sem]) rfl ⟨rfl, (Below.refl _ _).alloc (Nat.le_refl _) _⟩
  · have e : ¬ (1 ≤ room ∧ room ≤ 1048576) := fun h => h1 h.1
    rw [if_neg e, if_neg e]
    clear e
    go_enter Try.func27, Try.ntmps27
    go_wp2
    exact bodyPost_ret (v := .tuple #[.agg #[.int .i64 0, .slice none 0 0, .slice none 0 0, .slice none 0 0], .int .i64 2]) (by simp [results, Try.results27, go_sem]) rfl ⟨rfl, (Below.refl _ _).alloc (Nat.le_refl _) _⟩
set_option maxHeartbeats 400000 in
theorem rat_any (w : World) (S : Nat → Prop) (A1 : Option Addr) (c1 : Nat) (A2 : Option Addr) (c2 : Nat) (A3 : Option Addr) (c3 : Nat) (r : Rf) (id : Int) (h : RefAt w S A1 c1 A2 c2 A3 c3 r) (hr : r.ok) :
    Calls Try.prog 29 #[r.val A1 c1 A2 c2 A3 c3, .int .i64 id] w fun e w' => e = .returned (.tuple #[(r.node id).val, .bool (r.has id)]) ∧ Below w.heap.size w w' := by
  have C1 := Lib.hid (fun (w' : World) (hb : Below w.heap.size w w') => rhas_any w' S A1 c1 A2 c2 A3 c3 r id (h.below hb) hr)
  have B2 : Below w.heap.size w ((w.alloc (.cells #[.int .i64 r.room, .slice A1 r.nodes.length c1, .slice A2 r.taken.length c2, .slice A3 r.free.length c3] 53)).alloc (.cells #[.int .i64 0, .int .i64 0, .int .i64 0, .int .i64 0, .int .i64 0] 29)) :=
    ((Below.refl _ _).alloc (Nat.le_refl _) _).alloc (by simp) _
  have HB := Lib.hid B2
  have Hh := Lib.hid h
  unfold Rf.val at C1 ⊢
  cases hv : r.has id
  · have hn : r.node id = Nd.zero := by unfold Rf.node; rw [hv]; rfl
    rw [hn]
    rw [hv] at C1
    clear hn hv h B2
    go_enter Try.func29, Try.ntmps29
    go_wp2_with fail
    refine (C1.out _ HB.out).mono ?_
    rintro e w1 ⟨rfl, hb⟩
    have hx := (Blk.new (w.alloc (.cells #[.int .i64 r.room, .slice A1 r.nodes.length c1, .slice A2 r.taken.length c2, .slice A3 r.free.length c3] 53)) 29 #[.int .i64 0, .int .i64 0, .int .i64 0, .int .i64 0, .int .i64 0]).below hb (by simp)
    simp only [World.size_alloc] at hx
    have HX := Lib.hid hx
    have hlt := hx.lt
    have B3 := Lib.hid (HB.out.trans (hb.mono HB.out.size))
    obtain ⟨y0, y1, y2, y3, y4⟩ : w1.cell? ⟨w.heap.size + 1, 0, none⟩ = some (.int .i64 0) ∧ w1.cell? ⟨w.heap.size + 1, 1, none⟩ = some (.int .i64 0) ∧ w1.cell? ⟨w.heap.size + 1, 2, none⟩ = some (.int .i64 0) ∧ w1.cell? ⟨w.heap.size + 1, 3, none⟩ = some (.int .i64 0) ∧ w1.cell? ⟨w.heap.size + 1, 4, none⟩ = some (.int .i64 0) :=
      ⟨hx.cell 0, hx.cell 1, hx.cell 2, hx.cell 3, hx.cell 4⟩
    obtain ⟨z0, z1, z2, z3, z4⟩ : w1.frozen? ⟨w.heap.size + 1, 0, none⟩ = false ∧ w1.frozen? ⟨w.heap.size + 1, 1, none⟩ = false ∧ w1.frozen? ⟨w.heap.size + 1, 2, none⟩ = false ∧ w1.frozen? ⟨w.heap.size + 1, 3, none⟩ = false ∧ w1.frozen? ⟨w.heap.size + 1, 4, none⟩ = false :=
      ⟨hx.frozen 0, hx.frozen 1, hx.frozen 2, hx.frozen 3, hx.frozen 4⟩
    clear hb hx
    go_wp2
    exact bodyPost_ret (v := .tuple #[.agg #[.int .i64 0, .int .i64 0, .int .i64 0, .int .i64 0, .int .i64 0], .bool false]) (by simp [results, Try.results29, go_sem, *]) rfl ⟨rfl, ((((B3.out.setCell (p := ⟨w.heap.size + 1, 0, none⟩) (Nat.le_succ _) _).setCell (p := ⟨w.heap.size + 1, 1, none⟩) (Nat.le_succ _) _).setCell (p := ⟨w.heap.size + 1, 2, none⟩) (Nat.le_succ _) _).setCell (p := ⟨w.heap.size + 1, 3, none⟩) (Nat.le_succ _) _).setCell (p := ⟨w.heap.size + 1, 4, none⟩) (Nat.le_succ _) _⟩
  · obtain ⟨k, rfl, hk, _⟩ := Rf.has_at hv
    have hkn : k < r.nodes.length := by rw [hr.len]; exact hk
    have hn : r.node ((k : Int) + 1) = r.nodes[k] := by unfold Rf.node; rw [hv]; simp [hkn]
    obtain ⟨b, o, rfl, _, hbl, hc⟩ := h.nd.2 (by omega)
    have g := List.getElem?_eq_getElem hkn
    have cc : ∀ j, j < 5 → w.cell? ⟨b, o + k * 5 + j, none⟩ = r.nodes[k].cells[j]? := fun j hj => by
      rw [Nat.add_assoc, hc _ (by omega), nds_get _ k j _ g hj]
    have d0 := cc 0 (by omega)
    have d1 := cc 1 (by omega)
    have d2 := cc 2 (by omega)
    have d3 := cc 3 (by omega)
    have d4 := cc 4 (by omega)
    rw [hn]
    generalize r.nodes[k] = nd at *
    simp only [Nd.cells, List.getElem?_cons_succ, List.getElem?_cons_zero, Nat.add_zero] at d0 d1 d2 d3 d4
    rw [hv] at C1
    have hl : (r.nodes.length : Int) ≤ 1000000 := by have := hr.lim; have := hr.len; omega
    have k0 : (0 : Int) ≤ (k : Int) := by omega
    have k1 : (k : Int) < (r.nodes.length : Int) := by omega
    clear hn hv h B2 cc hc g
    go_enter Try.func29, Try.ntmps29
    go_wp2_with fail
    refine (C1.out _ HB.out).mono ?_
    rintro e w1 ⟨rfl, hb⟩
    have hx0 := ((Blk.new w 53 #[.int .i64 r.room, .slice (some ⟨b, o, none⟩) r.nodes.length c1, .slice A2 r.taken.length c2, .slice A3 r.free.length c3]).alloc (.cells #[.int .i64 0, .int .i64 0, .int .i64 0, .int .i64 0, .int .i64 0] 29)).below hb (by simp; omega)
    have u1 : w1.cell? ⟨w.heap.size, 1, none⟩ = some (.slice (some ⟨b, o, none⟩) r.nodes.length c1) := hx0.cell 1
    have hx := (Blk.new (w.alloc (.cells #[.int .i64 r.room, .slice (some ⟨b, o, none⟩) r.nodes.length c1, .slice A2 r.taken.length c2, .slice A3 r.free.length c3] 53)) 29 #[.int .i64 0, .int .i64 0, .int .i64 0, .int .i64 0, .int .i64 0]).below hb (by simp)
    simp only [World.size_alloc] at hx
    have HX := Lib.hid hx
    have hlt := hx.lt
    have B3 := Lib.hid (HB.out.trans (hb.mono HB.out.size))
    have e0 : w1.cell? ⟨b, o + k * 5, none⟩ = some (.int .i64 nd.id) := (B3.out.cell (p := ⟨b, o + k * 5, none⟩) hbl).trans d0
    have e1 : w1.cell? ⟨b, o + k * 5 + 1, none⟩ = some (.int .i64 nd.var) := (B3.out.cell (p := ⟨b, o + k * 5 + 1, none⟩) hbl).trans d1
    have e2 : w1.cell? ⟨b, o + k * 5 + 2, none⟩ = some (.int .i64 nd.lo) := (B3.out.cell (p := ⟨b, o + k * 5 + 2, none⟩) hbl).trans d2
    have e3 : w1.cell? ⟨b, o + k * 5 + 3, none⟩ = some (.int .i64 nd.hi) := (B3.out.cell (p := ⟨b, o + k * 5 + 3, none⟩) hbl).trans d3
    have e4 : w1.cell? ⟨b, o + k * 5 + 4, none⟩ = some (.int .i64 nd.refs) := (B3.out.cell (p := ⟨b, o + k * 5 + 4, none⟩) hbl).trans d4
    obtain ⟨z0, z1, z2, z3, z4⟩ : w1.frozen? ⟨w.heap.size + 1, 0, none⟩ = false ∧ w1.frozen? ⟨w.heap.size + 1, 1, none⟩ = false ∧ w1.frozen? ⟨w.heap.size + 1, 2, none⟩ = false ∧ w1.frozen? ⟨w.heap.size + 1, 3, none⟩ = false ∧ w1.frozen? ⟨w.heap.size + 1, 4, none⟩ = false :=
      ⟨hx.frozen 0, hx.frozen 1, hx.frozen 2, hx.frozen 3, hx.frozen 4⟩
    obtain ⟨y0, y1, y2, y3, y4⟩ : w1.cell? ⟨w.heap.size + 1, 0, none⟩ = some (.int .i64 0) ∧ w1.cell? ⟨w.heap.size + 1, 1, none⟩ = some (.int .i64 0) ∧ w1.cell? ⟨w.heap.size + 1, 2, none⟩ = some (.int .i64 0) ∧ w1.cell? ⟨w.heap.size + 1, 3, none⟩ = some (.int .i64 0) ∧ w1.cell? ⟨w.heap.size + 1, 4, none⟩ = some (.int .i64 0) :=
      ⟨hx.cell 0, hx.cell 1, hx.cell 2, hx.cell 3, hx.cell 4⟩
    have q1 : (k : Int) + 1 - 1 = (k : Int) := by omega
    clear hb hx hx0 d0 d1 d2 d3 d4
    go_wp2
    exact bodyPost_ret (v := .tuple #[.agg #[.int .i64 nd.id, .int .i64 nd.var, .int .i64 nd.lo, .int .i64 nd.hi, .int .i64 nd.refs], .bool true]) (by simp [results, Try.results29, go_sem, *]) rfl ⟨rfl, ((((B3.out.setCell (p := ⟨w.heap.size + 1, 0, none⟩) (Nat.le_succ _) _).setCell (p := ⟨w.heap.size + 1, 1, none⟩) (Nat.le_succ _) _).setCell (p := ⟨w.heap.size + 1, 2, none⟩) (Nat.le_succ _) _).setCell (p := ⟨w.heap.size + 1, 3, none⟩) (Nat.le_succ _) _).setCell (p := ⟨w.heap.size + 1, 4, none⟩) (Nat.le_succ _) _⟩
end Go.Proofs.Ytcnejokbldohlaa
