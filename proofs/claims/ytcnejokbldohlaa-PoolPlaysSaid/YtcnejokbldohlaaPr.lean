/- The reference's pools: put, Set. -/
import Derived.Test.YtcnejokbldohlaaPq
namespace Go.Proofs.Ytcnejokbldohlaa
set_option linter.unusedSimpArgs false
set_option linter.unusedVariables false
open Go.ChangeShapes Go.WideShapes Go.ChangeAt Go.RowKit
set_option linter.unusedVariables false
section
variable {P : Program} (w : World)
theorem run_append_none (base : Nat) (t ty e : TypeId) (i : TypeInfo) (size : Nat) (ht : P.underlying t = some (.slice e)) (hi : P.info? e = some i)
    (v : Value) (n : Nat) (xs : List Value) (hown : Own w base e size v n xs) (c : Nat) : (Builtin.append_ #[t, t] ty #[v, .slice none 0 c]).run P w = .ok v w := by
  rcases hown.2 with ⟨rfl, rfl⟩ | ⟨g, cap, cur, rfl, _, _, hnc, _⟩
  · simp [Builtin.append_, run_underlying ht, sizeOf, typeInfo, hi, Builtin.lenOf, Builtin.firstCells]
  · simp [Builtin.append_, run_underlying ht, sizeOf, typeInfo, hi, Builtin.lenOf, Builtin.firstCells, hnc, storeCells]
theorem run_append_R (base : Nat) (t ty e : TypeId) (i : TypeInfo) (z : Value) (size bytes : Nat) (ht : P.underlying t = some (.slice e)) (hi : P.info? e = some i) (hz : i.zero = some z)
    (hsize : i.size = size) (hby : i.bytes = bytes) (hzs : z.cells.size = size) (hsz : 0 < size)
    (v : Value) (n : Nat) (xs : List Value) (hown : Own w base e size v n xs)
    (S : Nat → Prop) (A : Option Addr) (m c : Nat) (news : List Value) (hr : RQ w S size A m news) (h1 : ∀ u ∈ news, u.oneCell' = true)
    (h63 : n + m ≤ maxLen) (hbytes : (n + m) * bytes ≤ 140737488355328) (hbase : base ≤ w.heap.size) :
    ∃ A' cap w', (Builtin.append_ #[t, t] ty #[v, .slice A m c]).run P w = .ok (.slice A' (n + m) cap) w' ∧ Own w' base e size (.slice A' (n + m) cap) (n + m) (xs ++ news) ∧ n + m ≤ cap ∧ w.grownBy w' v.ownBlock ∧
      ((Value.slice A' (n + m) cap).ownBlock = v.ownBlock ∨ (Value.slice A' (n + m) cap).ownBlock = some w.heap.size) := by
  have key : ∃ v' w', (Builtin.append_ #[t, t] ty #[v, .slice A m c]).run P w = .ok v' w' ∧ Own w' base e size v' (n + m) (xs ++ news) ∧ w.grownBy w' v.ownBlock ∧ (v'.ownBlock = v.ownBlock ∨ v'.ownBlock = some w.heap.size) := by
    rcases A with _ | ad
    · have hm : m = 0 := by
        rcases Nat.eq_zero_or_pos m with h0 | h0
        · exact h0
        · obtain ⟨b, o, h, _⟩ := hr.2 h0
          cases h
      subst hm
      have hn : news = [] := List.eq_nil_of_length_eq_zero (by simpa using hr.1)
      subst hn
      exact ⟨v, w, run_append_none w base t ty e i size ht hi v n xs hown c, by simpa using hown, World.grownBy.refl w _, .inl rfl⟩
    · refine run_append_Own w base t ty e i z size bytes ht hi hz hsize hby hzs hsz v n xs hown ad m c news hr.1 ?_ h1 h63 hbytes hbase
      intro j u hu
      have hj : j < m * size := by rw [← hr.1]; exact (List.getElem?_eq_some_iff.1 hu).1
      have hm : 0 < m := by
        rcases Nat.eq_zero_or_pos m with rfl | h0
        · simp at hj
        · exact h0
      obtain ⟨b, o, h, _, _, hc⟩ := hr.2 hm
      injection h with h
      subst h
      have : (⟨b, o, none⟩ : Addr).add j = ⟨b, o + j, none⟩ := by
        unfold Addr.add
        by_cases h0 : j = 0 <;> simp [h0]
      rw [this, hc j hj, hu]
  obtain ⟨v', w', h1, h2, h3, h4⟩ := key
  obtain ⟨A', cap, rfl, hcap⟩ := h2.shape
  exact ⟨A', cap, w', h1, h2, hcap, h3, h4⟩
theorem wpList_append_R {ops : Array Oper} {rest : List Oper} {o : Oper} {a : Act} {Q : Exit → Act → World → Prop} (hgd : o.guard = none) (s x : Operand) (t : TypeId)
    (ho : o.op = .call { callee := .builtin .append, args := #[s, x], argTypes := #[t, t] })
    (base : Nat) (e : TypeId) (i : TypeInfo) (z : Value) (size bytes : Nat) (ht : P.underlying t = some (.slice e)) (hi : P.info? e = some i) (hz : i.zero = some z)
    (hsize : i.size = size) (hby : i.bytes = bytes) (hzs : z.cells.size = size) (hsz : 0 < size)
    (v : Value) (n : Nat) (xs : List Value) (hs : a.eval s = v) (hown : Own w base e size v n xs)
    (S : Nat → Prop) (A : Option Addr) (m c : Nat) (news : List Value) (hx : a.eval x = .slice A m c) (hr : RQ w S size A m news) (h1 : ∀ u ∈ news, u.oneCell' = true)
    (h63 : n + m ≤ maxLen) (hbytes : (n + m) * bytes ≤ 140737488355328) (hbase : base ≤ w.heap.size)
    (h : ∀ A' cap w', Own w' base e size (.slice A' (n + m) cap) (n + m) (xs ++ news) → n + m ≤ cap → w.grownBy w' v.ownBlock → ((Value.slice A' (n + m) cap).ownBlock = v.ownBlock ∨ (Value.slice A' (n + m) cap).ownBlock = some w.heap.size) → wpList P ops Q rest (a.put o.dst (.slice A' (n + m) cap)) w') : wpList P ops Q (o :: rest) a w :=
  wpList_plain hgd fun K hK => by
    obtain ⟨A', cap, w', hrun, h2, h3, h4, h5⟩ := run_append_R (P := P) w base t o.type e i z size bytes ht hi hz hsize hby hzs hsz v n xs hown S A m c news hr h1 h63 hbytes hbase
    have goal : o.wp P a w K Q := by
      unfold Oper.wp execOp
      simp only [ho, resolve, invoke, builtin, Sem.run_bind, Sem.run_pure, Result.andThen_ok, List.map_toArray, List.map_cons, List.map_nil, hs, hx, hrun]
      exact hK _ _ (h A' cap w' h2 h3 h4 h5)
    exact goal
end
/-- A goal at which a walk stands still. -/
def Held (p : Prop) : Prop := p
theorem Held.in_ {p : Prop} (h : Held p) : p := h
theorem Held.out {p : Prop} (h : p) : Held p := h
theorem one_nds (l : List Nd) : ∀ u ∈ nds l, u.oneCell' = true := by
  intro u hu
  simp only [nds, List.mem_flatMap] at hu
  obtain ⟨n, _, hn⟩ := hu
  simp [Nd.cells] at hn
  rcases hn with rfl | rfl | rfl | rfl | rfl <;> rfl
theorem one_bools (l : List Bool) : ∀ u ∈ bools l, u.oneCell' = true := by
  intro u hu
  simp [bools] at hu
  rcases hu with ⟨_, rfl⟩ | ⟨_, rfl⟩ <;> rfl
theorem one_ints (l : List Int) : ∀ u ∈ ints l, u.oneCell' = true := by
  intro u hu
  simp [ints] at hu
  obtain ⟨_, _, rfl⟩ := hu
  rfl
/-- The end of a call that hands back the reference pool r'; S says which blocks its rows may lie in. -/
def RPost (w : World) (S : Nat → Prop) (mk : Value → Value) (r' : Rf) (e : Ending) (w' : World) : Prop :=
  ∃ A1 c1 A2 c2 A3 c3, e = .returned (mk (r'.val A1 c1 A2 c2 A3 c3)) ∧ RefAt w' (fun b => S b ∨ w.heap.size ≤ b) A1 c1 A2 c2 A3 c3 r' ∧ Below w.heap.size w w'
theorem lit_nodes {w : World} {base H : Nat} (hH : w.heap.size = H) (hb : base ≤ H) : Own (w.alloc (.cells #[] 29)) base 29 5 (.slice (some ⟨H, 0, none⟩) 0 0) 0 [] := by
  subst hH
  exact ⟨rfl, .inr ⟨_, 0, #[], rfl, hb, heap_alloc_new w _, Nat.le_refl _, by unfold maxLen; omega, by simp, rfl⟩⟩
theorem lit_bools {w : World} {base H : Nat} (hH : w.heap.size = H) (hb : base ≤ H) : Own (w.alloc (.cells #[] 4)) base 4 1 (.slice (some ⟨H, 0, none⟩) 0 0) 0 [] := by
  subst hH
  exact ⟨rfl, .inr ⟨_, 0, #[], rfl, hb, heap_alloc_new w _, Nat.le_refl _, by unfold maxLen; omega, by simp, rfl⟩⟩
theorem lit_ints {w : World} {base H : Nat} (hH : w.heap.size = H) (hb : base ≤ H) : Own (w.alloc (.cells #[] 3)) base 3 1 (.slice (some ⟨H, 0, none⟩) 0 0) 0 [] := by
  subst hH
  exact ⟨rfl, .inr ⟨_, 0, #[], rfl, hb, heap_alloc_new w _, Nat.le_refl _, by unfold maxLen; omega, by simp, rfl⟩⟩
set_option maxHeartbeats 1000000 in
theorem put_any (w : World) (S : Nat → Prop) (A1 : Option Addr) (c1 : Nat) (A2 : Option Addr) (c2 : Nat) (A3 : Option Addr) (c3 : Nat) (r : Rf) (n : Nd) (h : RefAt w S A1 c1 A2 c2 A3 c3 r) (hr : r.ok) (k : Nat) (hid : n.id = (k : Int) + 1) (hk : k < r.nodes.length) :
    Calls Try.prog 57 #[r.val A1 c1 A2 c2 A3 c3, n.val] w (RPost w S id { r with nodes := r.nodes.set k n }) := by
  obtain ⟨i1, hi1, hz1, hs1, hy1⟩ := info_parts node_info
  have Hh := Lib.hid h
  have Hr := Lib.hid hr
  have Hk := Lib.hid hk
  unfold Rf.val Nd.val
  obtain ⟨n0, n1, n2, n3, n4⟩ := n
  simp only at hid
  subst hid
  have hn1 : (r.nodes.length : Int) ≤ 1000000 := by have := hr.lim; have := hr.len; omega
  have hnn : r.nodes.length ≤ 1000000 := by omega
  have e1 : (k : Int) + 1 - 1 = (k : Int) := by omega
  have k0 : (0 : Int) ≤ (k : Int) := by omega
  have k1 : (k : Int) < (r.nodes.length : Int) := by omega
  clear h hr hk
  go_enter Try.func57, Try.ntmps57
  go_wp2_with (at_builtin; refine Held.in_ ?_)
  refine Held.out ?_
  refine wpList_append_R _ rfl (.tmp 6) (.tmp 8) _ rfl w.heap.size 29 i1 (.agg #[.int .i64 0, .int .i64 0, .int .i64 0, .int .i64 0, .int .i64 0]) 5 40 Try.underlying30 hi1 hz1 hs1 hy1 rfl (by omega) (.slice (some ⟨w.heap.size + 1 + 1 + 1, 0, none⟩) 0 0) 0 [] rfl (lit_nodes ?c1 ?c5) S A1 r.nodes.length c1 (nds r.nodes) rfl (Hh.out.nd.keep ?c2 ?c3) (one_nds _) (by unfold maxLen; omega) (by omega) ?c4 ?_
  case c1 => simp only [World.size_alloc]
  case c5 => omega
  case c2 => simp only [World.size_alloc]; omega
  case c3 => exact fun b _ hb => (((((Below.refl w.heap.size w).alloc (Nat.le_refl _) _).alloc (by simp only [World.size_alloc]; omega) _).alloc (by simp only [World.size_alloc]; omega) _).alloc (by simp only [World.size_alloc]; omega) _).block b hb
  case c4 => simp only [World.size_alloc]; omega
  intro A4 c4 w1 hown hcap hgrow hat
  have hb0 := ((((Blk.new w 53 #[.int .i64 r.room, .slice A1 r.nodes.length c1, .slice A2 r.taken.length c2, .slice A3 r.free.length c3]).alloc _).alloc _).alloc _).grown hgrow (by simp [Value.ownBlock]; omega)
  have hb1 := (((Blk.new (w.alloc _) 29 #[.int .i64 ((k : Int) + 1), .int .i64 n1, .int .i64 n2, .int .i64 n3, .int .i64 n4]).alloc _).alloc _).grown hgrow (by simp [Value.ownBlock])
  have hb2 := ((Blk.new ((w.alloc _).alloc _) 53 #[.int .i64 0, .slice none 0 0, .slice none 0 0, .slice none 0 0]).alloc _).grown hgrow (by simp [Value.ownBlock])
  have hbel := (((((Below.refl w.heap.size w).alloc (Nat.le_refl _) _).alloc (by simp only [World.size_alloc]; omega) _).alloc (by simp only [World.size_alloc]; omega) _).alloc (by simp only [World.size_alloc]; omega) _).grown hgrow (by simp only [World.size_alloc]; omega) (fun g hg => by simp [Value.ownBlock] at hg; omega)
  simp only [World.size_alloc, List.nil_append, Nat.zero_add] at hb0 hb1 hb2 hown hcap hat
  obtain ⟨g4, cc, hv, hg4, hglt, _, hcm, hcell, hfro⟩ := hown.form (by omega)
  injection hv with hv1 hv2 hv3
  subst hv1
  subst hv3
  have hg5 : w.heap.size ≤ g4 := hg4
  have hg6 : w.heap.size ≤ w.heap.size + 1 + 1 := by omega
  have hg3 : w.heap.size + 1 + 1 + 1 ≤ g4 := by
    simp [Value.ownBlock] at hat
    omega
  have hkn := Hk.out
  have hget := List.getElem?_eq_getElem hkn
  have dd : ∀ j, j < 5 → w1.cell? ⟨g4, k * 5 + j, none⟩ = r.nodes[k].cells[j]? := fun j hj => by
    rw [hcell _ (by omega), nds_get _ k j _ hget hj]
  have d0 := dd 0 (by omega)
  have d1 := dd 1 (by omega)
  have d2 := dd 2 (by omega)
  have d3 := dd 3 (by omega)
  have d4 := dd 4 (by omega)
  generalize r.nodes[k] = nd at *
  simp only [Nd.cells, List.getElem?_cons_succ, List.getElem?_cons_zero, Nat.add_zero] at d0 d1 d2 d3 d4
  have f0 := hfro (k * 5)
  have f1 := hfro (k * 5 + 1)
  have f2 := hfro (k * 5 + 2)
  have f3 := hfro (k * 5 + 3)
  have f4 := hfro (k * 5 + 4)
  obtain ⟨x0, x1, x2, x3, x4⟩ : w1.cell? ⟨w.heap.size + 1, 0, none⟩ = some (.int .i64 ((k : Int) + 1)) ∧ w1.cell? ⟨w.heap.size + 1, 1, none⟩ = some (.int .i64 n1) ∧ w1.cell? ⟨w.heap.size + 1, 2, none⟩ = some (.int .i64 n2) ∧ w1.cell? ⟨w.heap.size + 1, 3, none⟩ = some (.int .i64 n3) ∧ w1.cell? ⟨w.heap.size + 1, 4, none⟩ = some (.int .i64 n4) :=
    ⟨hb1.cell 0, hb1.cell 1, hb1.cell 2, hb1.cell 3, hb1.cell 4⟩
  obtain ⟨y0, y1, y2, y3⟩ : w1.cell? ⟨w.heap.size, 0, none⟩ = some (.int .i64 r.room) ∧ w1.cell? ⟨w.heap.size, 1, none⟩ = some (.slice A1 r.nodes.length c1) ∧ w1.cell? ⟨w.heap.size, 2, none⟩ = some (.slice A2 r.taken.length c2) ∧ w1.cell? ⟨w.heap.size, 3, none⟩ = some (.slice A3 r.free.length c3) :=
    ⟨hb0.cell 0, hb0.cell 1, hb0.cell 2, hb0.cell 3⟩
  obtain ⟨z0, z1, z2, z3⟩ : w1.cell? ⟨w.heap.size + 1 + 1, 0, none⟩ = some (.int .i64 0) ∧ w1.cell? ⟨w.heap.size + 1 + 1, 1, none⟩ = some (.slice none 0 0) ∧ w1.cell? ⟨w.heap.size + 1 + 1, 2, none⟩ = some (.slice none 0 0) ∧ w1.cell? ⟨w.heap.size + 1 + 1, 3, none⟩ = some (.slice none 0 0) :=
    ⟨hb2.cell 0, hb2.cell 1, hb2.cell 2, hb2.cell 3⟩
  have fy := hb0.frozen 1
  have fz0 := hb2.frozen 0
  have fz1 := hb2.frozen 1
  have fz2 := hb2.frozen 2
  have fz3 := hb2.frozen 3
  have ne0 : ¬ (g4 = w.heap.size) := by omega
  have ne1 : ¬ (g4 = w.heap.size + 1) := by omega
  have ne2 : ¬ (g4 = w.heap.size + 1 + 1) := by omega
  have ne0' : ¬ (w.heap.size = g4) := by omega
  have ne1' : ¬ (w.heap.size + 1 = g4) := by omega
  have ne2' : ¬ (w.heap.size + 1 + 1 = g4) := by omega
  have Hown := Lib.hid hown
  have Hbel := Lib.hid hbel
  have Hcap := Lib.hid hcap
  clear hown hbel hcap hgrow hat hcell hfro dd hget hb0 hb1 hb2 hi1 hz1 hs1 hy1 hg3 hg4 hkn
  go_wp2_with fail
  have hB := (((((((((Hbel.out.setCell (p := ⟨g4, k * 5, none⟩) hg5 (.int .i64 ((k : Int) + 1))).setCell (p := ⟨g4, k * 5 + 1, none⟩) hg5 (.int .i64 n1)).setCell (p := ⟨g4, k * 5 + 2, none⟩) hg5 (.int .i64 n2)).setCell (p := ⟨g4, k * 5 + 3, none⟩) hg5 (.int .i64 n3)).setCell (p := ⟨g4, k * 5 + 4, none⟩) hg5 (.int .i64 n4)).setCell (p := ⟨w.heap.size, 1, none⟩) (Nat.le_refl _) (.slice (some ⟨g4, 0, none⟩) r.nodes.length c4)).setCell (p := ⟨w.heap.size + 1 + 1, 0, none⟩) hg6 (.int .i64 r.room)).setCell (p := ⟨w.heap.size + 1 + 1, 1, none⟩) hg6 (.slice (some ⟨g4, 0, none⟩) r.nodes.length c4)).setCell (p := ⟨w.heap.size + 1 + 1, 2, none⟩) hg6 (.slice A2 r.taken.length c2)).setCell (p := ⟨w.heap.size + 1 + 1, 3, none⟩) hg6 (.slice A3 r.free.length c3)
  have ho := (((((Hown.out.node k ⟨(k : Int) + 1, n1, n2, n3, n4⟩ Hk.out).far (p := ⟨w.heap.size, 1, none⟩) (by simp [Value.ownBlock]; omega) (.slice (some ⟨g4, 0, none⟩) r.nodes.length c4)).far (p := ⟨w.heap.size + 1 + 1, 0, none⟩) (by simp [Value.ownBlock]; omega) (.int .i64 r.room)).far (p := ⟨w.heap.size + 1 + 1, 1, none⟩) (by simp [Value.ownBlock]; omega) (.slice (some ⟨g4, 0, none⟩) r.nodes.length c4)).far (p := ⟨w.heap.size + 1 + 1, 2, none⟩) (by simp [Value.ownBlock]; omega) (.slice A2 r.taken.length c2)).far (p := ⟨w.heap.size + 1 + 1, 3, none⟩) (by simp [Value.ownBlock]; omega) (.slice A3 r.free.length c3)
  have hh := Hh.out.below hB
  refine bodyPost_ret (v := .agg #[.int .i64 r.room, .slice (some ⟨g4, 0, none⟩) r.nodes.length c4, .slice A2 r.taken.length c2, .slice A3 r.free.length c3]) (by simp [results, Try.results57, go_sem, *]) rfl ?_
  refine ⟨some ⟨g4, 0, none⟩, c4, A2, c2, A3, c3, by simp [Rf.val], ⟨?_, hh.tk.imp fun b h _ => .inl h, hh.fr.imp fun b h _ => .inl h, by simp; exact Hcap.out, hh.ct, hh.cf⟩, hB⟩
  rw [List.length_set]
  exact (RQ.of_own ho).imp fun b h _ => .inr h
end Go.Proofs.Ytcnejokbldohlaa
