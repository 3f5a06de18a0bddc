/- The reference's pools: Take of a new slot. -/
import Derived.Test.YtcnejokbldohlaaPv
import Derived.Deep.RegionLaw
namespace Go.Proofs.Ytcnejokbldohlaa
set_option linter.unusedSimpArgs false
set_option linter.unusedVariables false
open Go.ChangeShapes Go.WideShapes Go.ChangeAt Go.RowKit
set_option linter.unusedVariables false
attribute [local go_sem ↓] Go.wp_at_zero Go.wp_at_succ
theorem step_append_R {P : Program} (w : World) {ops : Array Oper} {o : Oper} {a : Act} {K : Act → World → Prop} {Q : Exit → Act → World → Prop} {E : Prop} (hgd : o.guard = none) (s x : Operand) (t : TypeId)
    (ho : o.op = .call { callee := .builtin .append, args := #[s, x], argTypes := #[t, t] })
    (base : Nat) (e : TypeId) (i : TypeInfo) (z : Value) (size bytes : Nat) (ht : P.underlying t = some (.slice e)) (hi : P.info? e = some i) (hz : i.zero = some z)
    (hsize : i.size = size) (hby : i.bytes = bytes) (hzs : z.cells.size = size) (hsz : 0 < size)
    (v : Value) (n : Nat) (xs : List Value) (hs : a.eval s = v) (hown : Own w base e size v n xs)
    (S : Nat → Prop) (A : Option Addr) (m c : Nat) (news : List Value) (hx : a.eval x = .slice A m c) (hr : RQ w S size A m news) (h1 : ∀ u ∈ news, u.oneCell' = true)
    (h63 : n + m ≤ maxLen) (hbytes : (n + m) * bytes ≤ 140737488355328) (hbase : base ≤ w.heap.size)
    (h : ∀ A' cap w', Own w' base e size (.slice A' (n + m) cap) (n + m) (xs ++ news) → n + m ≤ cap → w.grownBy w' v.ownBlock → ((Value.slice A' (n + m) cap).ownBlock = v.ownBlock ∨ (Value.slice A' (n + m) cap).ownBlock = some w.heap.size) → K (a.put o.dst (.slice A' (n + m) cap)) w') :
    if Region.wanted o (yielded ops a.tmps) = true then Oper.wp P o a w K Q else E := by
  have hw : Region.wanted o (yielded ops a.tmps) = true := by simp [Region.wanted, hgd]
  rw [if_pos hw]
  obtain ⟨A', cap, w', hrun, h2, h3, h4, h5⟩ := run_append_R (P := P) w base t o.type e i z size bytes ht hi hz hsize hby hzs hsz v n xs hown S A m c news hr h1 h63 hbytes hbase
  unfold Oper.wp execOp
  simp only [ho, resolve, invoke, builtin, Sem.run_bind, Sem.run_pure, Result.andThen_ok, List.map_toArray, List.map_cons, List.map_nil, hs, hx, hrun]
  exact h A' cap w' h2 h3 h4 h5
theorem RQ.five {w : World} {g : Nat} {t : TypeId} {n : Nd} (h : Blk w g t n.cells.toArray) : RQ w (fun _ => True) 5 (some ⟨g, 0, none⟩) 1 n.cells :=
  ⟨rfl, fun _ => ⟨g, 0, rfl, trivial, h.lt, fun k hk => by rw [Nat.zero_add, h.cell k]; simp⟩⟩
/-- What stays true while the new row of nodes is made. -/
structure TN (w X : World) (v0 v1 v2 v3 x0 x1 x2 x3 x4 : Value) (A : Option Addr) (n c : Nat) (xs : List Value) : Prop where
  b0 : Blk X w.heap.size 53 #[v0, v1, v2, v3]
  b1 : Blk X (w.heap.size + 1) 29 #[x0, x1, x2, x3, x4]
  b2 : Blk X (w.heap.size + 1 + 1) 53 #[.int .i64 0, .slice none 0 0, .slice none 0 0, .slice none 0 0]
  row : Own X w.heap.size 4 1 (.slice A n c) n xs
  bel : Below w.heap.size w X
section
variable {w X Y : World} {v0 v1 v2 v3 x0 x1 x2 x3 x4 : Value} {A : Option Addr} {n c : Nat} {xs : List Value}
theorem TN.bel_le (h : TN w X v0 v1 v2 v3 x0 x1 x2 x3 x4 A n c xs) : w.heap.size + 1 + 1 + 1 ≤ X.heap.size := h.b2.lt
theorem TN.drew (h : TN w X v0 v1 v2 v3 x0 x1 x2 x3 x4 A n c xs) : TN w X.drew v0 v1 v2 v3 x0 x1 x2 x3 x4 A n c xs := ⟨h.b0.drew, h.b1.drew, h.b2.drew, h.row.drew, h.bel.drew⟩
theorem TN.alloc (h : TN w X v0 v1 v2 v3 x0 x1 x2 x3 x4 A n c xs) (o : Obj) : TN w (X.alloc o) v0 v1 v2 v3 x0 x1 x2 x3 x4 A n c xs := ⟨h.b0.alloc o, h.b1.alloc o, h.b2.alloc o, h.row.alloc o, h.bel.alloc h.bel.size o⟩
theorem TN.grown (h : TN w X v0 v1 v2 v3 x0 x1 x2 x3 x4 A n c xs) {v : Value} (hg : X.grownBy Y v.ownBlock) {m : Nat} {ys : List Value} (ho : Own X (w.heap.size + 1 + 1 + 1) 29 5 v m ys) : TN w Y v0 v1 v2 v3 x0 x1 x2 x3 x4 A n c xs := by
  refine ⟨h.b0.grown hg (fun e => ?_), h.b1.grown hg (fun e => ?_), h.b2.grown hg (fun e => ?_), h.row.kept hg ?_, h.bel.grown hg h.bel.size (fun g' e => ?_)⟩
  · have := (ho.lt _ e.symm).1; omega
  · have := (ho.lt _ e.symm).1; omega
  · have := (ho.lt _ e.symm).1; omega
  · cases hr : (Value.slice A n c).ownBlock with
    | none => exact .inl rfl
    | some b => exact .inr fun e => ho.ne_own h.row (by decide) hr e.symm
  · have := (ho.lt _ e).1; omega
theorem TN.put1 (h : TN w X v0 v1 v2 v3 x0 x1 x2 x3 x4 A n c xs) (v : Value) : TN w (X.setCell ⟨w.heap.size, 1, none⟩ v) v0 v v2 v3 x0 x1 x2 x3 x4 A n c xs := by
  refine ⟨?_, h.b1.far (p := ⟨w.heap.size, 1, none⟩) (by show w.heap.size + 1 ≠ w.heap.size; omega) _, h.b2.far (p := ⟨w.heap.size, 1, none⟩) (by show w.heap.size + 1 + 1 ≠ w.heap.size; omega) _, h.row.far (p := ⟨w.heap.size, 1, none⟩) (h.row.ne_blk h.b0 (by decide)) _, h.bel.setCell (p := ⟨w.heap.size, 1, none⟩) (Nat.le_refl _) _⟩
  have hh := h.b0.set_ 1 v
  simpa only [List.setIfInBounds_toArray, List.set_cons_succ, List.set_cons_zero] using hh
end
set_option maxHeartbeats 8000000 in
theorem rtake_new (w : World) (S : Nat → Prop) (A1 : Option Addr) (c1 : Nat) (A2 : Option Addr) (c2 : Nat) (A3 : Option Addr) (c3 : Nat) (room : Int) (nodes : List Nd) (taken : List Bool) (n : Nd) (h : RefAt w S A1 c1 A2 c2 A3 c3 ⟨room, nodes, taken, []⟩) (hr : (⟨room, nodes, taken, []⟩ : Rf).ok)
    (hf : (taken.count true : Int) < room) :
    Calls Try.prog 50 #[(⟨room, nodes, taken, []⟩ : Rf).val A1 c1 A2 c2 A3 c3, n.val] w (RPost w S (WithIds ((taken.length : Int) + 1) 0) ⟨room, nodes ++ [{ n with id := (taken.length : Int) + 1 }], taken ++ [true], []⟩) := by
  have Hh := Lib.hid h
  have Hr := Lib.hid hr
  have C1 := Lib.hid (fun (w' : World) (hb : Below w.heap.size w w') => rlen_any w' S A1 c1 A2 c2 A3 c3 _ (h.below hb) hr)
  clear h hr
  obtain ⟨n0, n1, n2, n3, n4⟩ := n
  unfold Rf.val Rf.len at C1
  unfold Rf.val Nd.val
  simp only [List.length_nil] at C1 ⊢
  generalize hq : (List.count true taken : Int) = q at *
  clear hq
  go_enter Try.func50, Try.ntmps50
  go_wp2_with fail
  have hB := Lib.hid ((((Below.refl w.heap.size w).alloc (Nat.le_refl _) (.cells #[.int .i64 room, .slice A1 nodes.length c1, .slice A2 taken.length c2, .slice A3 0 c3] 53)).alloc (by simp only [World.size_alloc]; omega) (.cells #[.int .i64 n0, .int .i64 n1, .int .i64 n2, .int .i64 n3, .int .i64 n4] 29)).alloc (by simp only [World.size_alloc]; omega) (.cells #[.int .i64 0, .slice none 0 0, .slice none 0 0, .slice none 0 0] 53))
  have hb0 := ((Blk.new w 53 #[.int .i64 room, .slice A1 nodes.length c1, .slice A2 taken.length c2, .slice A3 0 c3]).alloc (.cells #[.int .i64 n0, .int .i64 n1, .int .i64 n2, .int .i64 n3, .int .i64 n4] 29)).alloc (.cells #[.int .i64 0, .slice none 0 0, .slice none 0 0, .slice none 0 0] 53)
  have hb1 := (Blk.new (w.alloc (.cells #[.int .i64 room, .slice A1 nodes.length c1, .slice A2 taken.length c2, .slice A3 0 c3] 53)) 29 #[.int .i64 n0, .int .i64 n1, .int .i64 n2, .int .i64 n3, .int .i64 n4]).alloc (.cells #[.int .i64 0, .slice none 0 0, .slice none 0 0, .slice none 0 0] 53)
  have hb2 := Blk.new ((w.alloc (.cells #[.int .i64 room, .slice A1 nodes.length c1, .slice A2 taken.length c2, .slice A3 0 c3] 53)).alloc (.cells #[.int .i64 n0, .int .i64 n1, .int .i64 n2, .int .i64 n3, .int .i64 n4] 29)) 53 #[.int .i64 0, .slice none 0 0, .slice none 0 0, .slice none 0 0]
  simp only [World.size_alloc] at hb1 hb2
  generalize (((w.alloc (.cells #[.int .i64 room, .slice A1 nodes.length c1, .slice A2 taken.length c2, .slice A3 0 c3] 53)).alloc (.cells #[.int .i64 n0, .int .i64 n1, .int .i64 n2, .int .i64 n3, .int .i64 n4] 29)).alloc (.cells #[.int .i64 0, .slice none 0 0, .slice none 0 0, .slice none 0 0] 53)) = w3 at *
  obtain ⟨⟨y0, y1, y2, y3⟩, fy0, fy1, fy2, fy3⟩ := hb0.pool
  have Hb2 := Lib.hid hb2
  have Hb0 := Lib.hid hb0
  have Hb1 := Lib.hid hb1
  clear hb2 hb0 hb1
  go_region_held3 (fun w' => w'.cell? ⟨w.heap.size, 0, none⟩ = some (.int .i64 room) ∧ w'.cell? ⟨w.heap.size, 1, none⟩ = some (.slice A1 nodes.length c1) ∧ w'.cell? ⟨w.heap.size, 2, none⟩ = some (.slice A2 taken.length c2) ∧ w'.cell? ⟨w.heap.size, 3, none⟩ = some (.slice A3 0 c3)) (first | exact ⟨y0', y1', y2', y3'⟩ | exact ⟨y0, y1, y2, y3⟩ | go_keep)
    ((go_at_call 30; refine (C1.out _ hB.out.drew).mono ?_; rintro e w4 ⟨rfl, hb⟩; have hb0' := Hb0.out.drew.below hb Hb0.out.lt; have hb2' := Hb2.out.drew.below hb Hb2.out.lt; have hb1' := Hb1.out.drew.below hb Hb1.out.lt; have HB4 := Lib.hid (hB.out.drew.trans (hb.mono hB.out.drew.size)); obtain ⟨⟨y0', y1', y2', y3'⟩, fy0', fy1', fy2', fy3'⟩ := hb0'.pool; have Hlt4 := Lib.hid hb2'.lt; have Hb1' := Lib.hid hb1'; have Hb0' := Lib.hid hb0'; have Hb2' := Lib.hid hb2'; clear hb hb0' hb1' hb2'))
  clear y0 y1 y2 y3 fy0 fy1 fy2 fy3 Hb0 Hb1 Hb2
  obtain ⟨i1, hi1, hz1, hs1, hy1⟩ := info_parts bool_info
  obtain ⟨i3, hi3, hz3, hs3, hy3⟩ := info_parts node_info
  have hr := Hr.out
  have hn2 : (taken.length : Int) ≤ 1000000 := by have := hr.lim; simp only at this; omega
  have hn2' : taken.length ≤ 1000000 := by omega
  have Hn1 := Lib.hid (show nodes.length = taken.length from hr.len)
  have hn1' : nodes.length ≤ 1000000 := by have := Hn1.out; omega
  clear hr
  have hlt0 : w.heap.size < w4.heap.size := by have := Hlt4.out; omega
  have hlt1 : w.heap.size + 1 < w4.heap.size := by have := Hlt4.out; omega
  have hlt2 : w.heap.size + 1 + 1 < w4.heap.size := Hlt4.out
  go_wp2_with (at_builtin; refine Held.in_ ?_)
  refine Held.out ?_
  refine wpList_append_R _ rfl (.tmp 15) (.tmp 17) _ rfl w.heap.size 4 i1 (.bool false) 1 1 Try.underlying50 hi1 hz1 hs1 hy1 rfl (by omega) (.slice (some ⟨w4.heap.size, 0, none⟩) 0 0) 0 [] rfl (lit_bools rfl ?c5) S A2 taken.length c2 (bools taken) rfl ((Hh.out.below HB4.out).tk.keep ?c2 ?c3) (one_bools _) (by unfold maxLen; omega) (by omega) ?c4 ?_
  case c5 => omega
  case c2 => simp only [World.size_alloc]; omega
  case c3 => exact fun b _ hb => Below.heap_alloc _ _ _ hb
  case c4 => simp only [World.size_alloc]; omega
  intro A5 c5 w5 hown hcap hgrow hat
  have hb0 := (Hb0'.out.alloc _).grown hgrow (by simp [Value.ownBlock]; omega)
  have hb1 := (Hb1'.out.alloc _).grown hgrow (by simp [Value.ownBlock]; omega)
  have hb2 := (Hb2'.out.alloc _).grown hgrow (by simp [Value.ownBlock]; omega)
  have hB5 := (HB4.out.alloc (by omega) _).grown hgrow (by simp only [World.size_alloc]; omega) (fun g hg => by simp [Value.ownBlock] at hg; omega)
  have hs5 : w4.heap.size < w5.heap.size := by have := hgrow.size; simp only [World.size_alloc] at this; omega
  have e0 : 0 + taken.length = taken.length := Nat.zero_add _
  rw [e0]
  simp only [World.size_alloc, List.nil_append, Nat.zero_add] at hown hcap hat
  obtain ⟨⟨y0, y1, y2, y3⟩, fy0, fy1, fy2, fy3⟩ := hb0.pool
  obtain ⟨x0, x1, x2, x3, x4⟩ := hb1.node5
  have fx0 := hb1.frozen 0
  have hlt50 : w.heap.size < w5.heap.size := by omega
  have hlt51 : w.heap.size + 1 < w5.heap.size := by omega
  have hlt52 : w.heap.size + 1 + 1 < w5.heap.size := by omega
  have Hown := Lib.hid hown
  have Hcap := Lib.hid hcap
  have Hb0 := Lib.hid hb0
  have Hb1 := Lib.hid hb1
  have Hb2 := Lib.hid hb2
  have HB5 := Lib.hid hB5
  clear hown hcap hgrow hat hb0 hb1 hb2 hB5 y0' y1' y2' y3' fy0' fy1' fy2' fy3' Hb0' Hb1' Hb2' HB4
  go_wp2_with (at_builtin; refine Held.in_ ?_)
  refine Held.out ?_
  have g1 : w.heap.size ≤ w.heap.size + 1 := by omega
  have hne0 := Hown.out.ne_blk Hb1.out (by decide)
  have hne0b := Hown.out.ne_blk Hb0.out (by decide)
  have hne0c := Hown.out.ne_blk Hb2.out (by decide)
  have ho6 := Hown.out.far (p := ⟨w.heap.size + 1, 0, none⟩) hne0 (.int .i64 ((taken.length : Int) + 1))
  have hb06 := Hb0.out.far (p := ⟨w.heap.size + 1, 0, none⟩) (by show w.heap.size ≠ w.heap.size + 1; omega) (.int .i64 ((taken.length : Int) + 1))
  have hb16 := Hb1.out.set_ 0 (.int .i64 ((taken.length : Int) + 1))
  have hb26 := Hb2.out.far (p := ⟨w.heap.size + 1, 0, none⟩) (by show w.heap.size + 1 + 1 ≠ w.heap.size + 1; omega) (.int .i64 ((taken.length : Int) + 1))
  have hB6 := HB5.out.setCell (p := ⟨w.heap.size + 1, 0, none⟩) g1 (.int .i64 ((taken.length : Int) + 1))
  have hsz6 : (w5.setCell ⟨w.heap.size + 1, 0, none⟩ (.int .i64 ((taken.length : Int) + 1))).heap.size = w5.heap.size := by simp
  simp only [List.setIfInBounds_toArray, List.set_cons_zero] at hb16
  generalize (w5.setCell ⟨w.heap.size + 1, 0, none⟩ (.int .i64 ((taken.length : Int) + 1))) = w6 at *
  clear y0 y1 y2 y3 fy0 fy1 fy2 fy3 x0 x1 x2 x3 x4 fx0 Hown Hb0 Hb1 Hb2 HB5
  have hrq := RQ.one w6 (.bool true) 4
  rw [hsz6] at hrq
  refine wpList_append_R _ rfl (.tmp 54) (.tmp 55) _ rfl w.heap.size 4 i1 (.bool false) 1 1 Try.underlying50 hi1 hz1 hs1 hy1 rfl (by omega) (.slice A5 taken.length c5) taken.length (bools taken) rfl (ho6.alloc _) (fun _ => True) (some ⟨w5.heap.size, 0, none⟩) 1 1 [.bool true] rfl hrq ?c1 (by unfold maxLen; omega) (by omega) ?c4 ?_
  case c1 =>
    intro u hu
    simp at hu
    subst hu
    rfl
  case c4 => simp only [World.size_alloc]; omega
  intro A7 c7 w7 hown hcap hgrow hat
  have hb07 := (hb06.alloc _).grown hgrow (fun e => hne0b e.symm)
  have hb17 := (hb16.alloc _).grown hgrow (fun e => hne0 e.symm)
  have hb27 := (hb26.alloc _).grown hgrow (fun e => hne0c e.symm)
  have hB7 := (hB6.alloc (by omega) _).grown hgrow (by simp only [World.size_alloc]; omega) (fun g hg => (ho6.lt g hg).1)
  have hs7 : w6.heap.size < w7.heap.size := by have := hgrow.size; simp only [World.size_alloc] at this; omega
  have hbs : bools taken ++ [.bool true] = bools (taken ++ [true]) := by simp [bools]
  rw [hbs] at hown
  have fy2 := hb07.frozen 2
  have y2 : w7.cell? ⟨w.heap.size, 2, none⟩ = some (.slice A2 taken.length c2) := hb07.cell 2
  have Hown := Lib.hid hown
  have Hcap7 := Lib.hid hcap
  have Hb07 := Lib.hid hb07
  have Hb17 := Lib.hid hb17
  have Hb27 := Lib.hid hb27
  have HB7 := Lib.hid hB7
  have hlt70 : w.heap.size < w7.heap.size := by omega
  clear hown hcap hat hgrow hb07 hb17 hb27 hB7 ho6 hb06 hb16 hb26 hB6 hrq e0 hbs hne0 hne0b hne0c
  go_wp2_with fail
  have hT : TN w (w7.setCell ⟨w.heap.size, 2, none⟩ (.slice A7 (taken.length + 1) c7)) (.int .i64 room) (.slice A1 nodes.length c1) (.slice A7 (taken.length + 1) c7) (.slice A3 0 c3) (.int .i64 ((taken.length : Int) + 1)) (.int .i64 n1) (.int .i64 n2) (.int .i64 n3) (.int .i64 n4) A7 (taken.length + 1) c7 (bools (taken ++ [true])) := by
    refine ⟨?_, Hb17.out.far (p := ⟨w.heap.size, 2, none⟩) (by show w.heap.size + 1 ≠ w.heap.size; omega) _, Hb27.out.far (p := ⟨w.heap.size, 2, none⟩) (by show w.heap.size + 1 + 1 ≠ w.heap.size; omega) _, Hown.out.far (p := ⟨w.heap.size, 2, none⟩) (Hown.out.ne_blk Hb07.out (by decide)) _, HB7.out.setCell (p := ⟨w.heap.size, 2, none⟩) (Nat.le_refl _) _⟩
    have h := Hb07.out.set_ 2 (.slice A7 (taken.length + 1) c7)
    simpa only [List.setIfInBounds_toArray, List.set_cons_succ, List.set_cons_zero] using h
  generalize (w7.setCell ⟨w.heap.size, 2, none⟩ (.slice A7 (taken.length + 1) c7)) = w8 at *
  obtain ⟨⟨y0, y1', y2', y3⟩, _⟩ := hT.b0.pool
  obtain ⟨x0, x1, x2, x3, x4⟩ := hT.b1.node5
  have hlt80 : w.heap.size + 1 + 1 < w8.heap.size := hT.b2.lt
  have hlt81 : w.heap.size + 1 < w8.heap.size := by omega
  have hlt82 : w.heap.size < w8.heap.size := by omega
  have HT := Lib.hid hT
  have Hn1' := Lib.hid hn1'
  clear hT y2 fy2 Hown Hb07 Hb17 Hb27 HB7 hlt70 hlt0 hlt1 hlt2 hlt50 hlt51 hlt52 hs5 hs7 hsz6 hi1 hz1 hs1 hy1 hn2 hn2' g1 hf
  have T1 := Lib.hid (HT.out.alloc (.cells #[] 29)).drew
  have T2 := Lib.hid ((HT.out.alloc (.cells #[] 29)).alloc (.cells #[.int .i64 ((taken.length : Int) + 1), .int .i64 n1, .int .i64 n2, .int .i64 n3, .int .i64 n4] 29)).drew
  have T3 := Lib.hid ((HT.out.alloc (.cells #[.int .i64 ((taken.length : Int) + 1), .int .i64 n1, .int .i64 n2, .int .i64 n3, .int .i64 n4] 29)).alloc (.cells #[] 29)).drew
  have hlt83 : w.heap.size + 1 + 1 + 1 ≤ w8.heap.size := hlt80
  have O1 := Lib.hid (lit_nodes (w := w8) (base := w.heap.size + 1 + 1 + 1) rfl hlt83).drew
  have O2 := Lib.hid ((lit_nodes (w := w8) (base := w.heap.size + 1 + 1 + 1) rfl hlt83).alloc (.cells #[.int .i64 ((taken.length : Int) + 1), .int .i64 n1, .int .i64 n2, .int .i64 n3, .int .i64 n4] 29)).drew
  have O3 := Lib.hid (lit_nodes (w := w8.alloc (.cells #[.int .i64 ((taken.length : Int) + 1), .int .i64 n1, .int .i64 n2, .int .i64 n3, .int .i64 n4] 29)) (base := w.heap.size + 1 + 1 + 1) (H := w8.heap.size + 1) (by simp only [World.size_alloc]) (by omega)).drew
  have L2 : Hid (Blk (((w8.alloc (.cells #[] 29)).alloc (.cells #[.int .i64 ((taken.length : Int) + 1), .int .i64 n1, .int .i64 n2, .int .i64 n3, .int .i64 n4] 29)).drew) (w8.heap.size + 1) 29 #[.int .i64 ((taken.length : Int) + 1), .int .i64 n1, .int .i64 n2, .int .i64 n3, .int .i64 n4]) := Lib.hid (by
    have h := Blk.new (w8.alloc (.cells #[] 29)) 29 #[.int .i64 ((taken.length : Int) + 1), .int .i64 n1, .int .i64 n2, .int .i64 n3, .int .i64 n4]
    simp only [World.size_alloc] at h
    exact h.drew)
  have L3 := Lib.hid ((Blk.new w8 29 #[.int .i64 ((taken.length : Int) + 1), .int .i64 n1, .int .i64 n2, .int .i64 n3, .int .i64 n4]).alloc (.cells #[] 29)).drew
  have R1 := Lib.hid ((Hh.out.below T1.out.bel).nd)
  have R2 := Lib.hid ((Hh.out.below T2.out.bel).nd)
  have R3 := Lib.hid ((Hh.out.below T3.out.bel).nd)
  have hone : ∀ u ∈ (⟨(taken.length : Int) + 1, n1, n2, n3, n4⟩ : Nd).cells, u.oneCell' = true := fun u hu => one_nds [⟨(taken.length : Int) + 1, n1, n2, n3, n4⟩] u (by simpa [nds] using hu)
  have Hone := Lib.hid hone
  have Hlt := Lib.hid hlt83
  have hmx1 : 0 + nodes.length ≤ maxLen := by unfold maxLen; omega
  have hmx2 : (0 + nodes.length) * 40 ≤ 140737488355328 := by omega
  have hmx3 : nodes.length + 1 ≤ maxLen := by unfold maxLen; omega
  have hmx4 : (nodes.length + 1) * 40 ≤ 140737488355328 := by omega
  have Hm1 := Lib.hid hmx1
  have Hm2 := Lib.hid hmx2
  have Hm3 := Lib.hid hmx3
  have Hm4 := Lib.hid hmx4
  have e0 : 0 + nodes.length = nodes.length := Nat.zero_add _
  have hlt84 : w8.heap.size < ((w8.alloc (.cells #[] 29)).drew).heap.size ∧ w8.heap.size + 1 < (((w8.alloc (.cells #[] 29)).alloc (.cells #[.int .i64 ((taken.length : Int) + 1), .int .i64 n1, .int .i64 n2, .int .i64 n3, .int .i64 n4] 29)).drew).heap.size ∧ w8.heap.size + 1 < (((w8.alloc (.cells #[.int .i64 ((taken.length : Int) + 1), .int .i64 n1, .int .i64 n2, .int .i64 n3, .int .i64 n4] 29)).alloc (.cells #[] 29)).drew).heap.size := ⟨by show _ < (w8.alloc _).heap.size; simp, by show _ < ((w8.alloc _).alloc _).heap.size; simp, by show _ < ((w8.alloc _).alloc _).heap.size; simp⟩
  have Hlt84 := Lib.hid hlt84
  clear hone hlt83 hmx1 hmx2 hmx3 hmx4 hlt84
  go_cut [] (fun wx => ∃ (A10 : Option Addr) (c10 : Nat), TN w wx (.int .i64 room) (.slice A10 (nodes.length + 1) c10) (.slice A7 (taken.length + 1) c7) (.slice A3 0 c3) (.int .i64 ((taken.length : Int) + 1)) (.int .i64 n1) (.int .i64 n2) (.int .i64 n3) (.int .i64 n4) A7 (taken.length + 1) c7 (bools (taken ++ [true])) ∧ Own wx (w.heap.size + 1 + 1 + 1) 29 5 (.slice A10 (nodes.length + 1) c10) (nodes.length + 1) (nds (nodes ++ [⟨(taken.length : Int) + 1, n1, n2, n3, n4⟩])) ∧ nodes.length + 1 ≤ c10)
  case first =>
    --FIRST
    go_region_law (first
      | (refine step_append_R ((w8.alloc (.cells #[] 29)).drew) (by rfl) (.tmp 58) (.tmp 60) _ (by rfl) (w.heap.size + 1 + 1 + 1) 29 i3 (.agg #[.int .i64 0, .int .i64 0, .int .i64 0, .int .i64 0, .int .i64 0]) 5 40 Try.underlying30 hi3 hz3 hs3 hy3 (by rfl) (by decide) (.slice (some ⟨w8.heap.size, 0, none⟩) 0 0) 0 [] (by rfl) O1.out S A1 nodes.length c1 (nds nodes) (by rfl) R1.out (one_nds nodes) Hm1.out Hm2.out T1.out.bel_le ?_; intro A9 c9 w9 hown hcap hgrow hat; have T9 := T1.out.grown hgrow O1.out; rw [e0] at hown; rw [List.nil_append] at hown; rw [e0]; have hs9 := hgrow.size; obtain ⟨⟨y0', y1', y2', y3'⟩, _⟩ := T9.b0.pool; obtain ⟨x0', x1', x2', x3', x4'⟩ := T9.b1.node5; have hlt90 := T9.b2.lt; have hlt91 := T9.b1.lt; have hlt92 := T9.b0.lt; have HT9 := Lib.hid T9; have Hown9 := Lib.hid hown; clear hgrow hat hcap hown T9 hs9)
      | (refine step_append_R (((w8.alloc (.cells #[] 29)).alloc (.cells #[.int .i64 ((taken.length : Int) + 1), .int .i64 n1, .int .i64 n2, .int .i64 n3, .int .i64 n4] 29)).drew) (by rfl) (.tmp 58) (.tmp 60) _ (by rfl) (w.heap.size + 1 + 1 + 1) 29 i3 (.agg #[.int .i64 0, .int .i64 0, .int .i64 0, .int .i64 0, .int .i64 0]) 5 40 Try.underlying30 hi3 hz3 hs3 hy3 (by rfl) (by decide) (.slice (some ⟨w8.heap.size, 0, none⟩) 0 0) 0 [] (by rfl) O2.out S A1 nodes.length c1 (nds nodes) (by rfl) R2.out (one_nds nodes) Hm1.out Hm2.out T2.out.bel_le ?_; intro A9 c9 w9 hown hcap hgrow hat; have T9 := T2.out.grown hgrow O2.out; have L9 := Lib.hid (L2.out.grown hgrow (by simp [Value.ownBlock])); rw [e0] at hown; rw [List.nil_append] at hown; rw [e0]; have hs9 := hgrow.size; obtain ⟨⟨y0', y1', y2', y3'⟩, _⟩ := T9.b0.pool; obtain ⟨x0', x1', x2', x3', x4'⟩ := T9.b1.node5; have hlt90 := T9.b2.lt; have hlt91 := T9.b1.lt; have hlt92 := T9.b0.lt; have HT9 := Lib.hid T9; have Hown9 := Lib.hid hown; clear hgrow hat hcap hown T9 hs9)
      | (refine step_append_R (((w8.alloc (.cells #[.int .i64 ((taken.length : Int) + 1), .int .i64 n1, .int .i64 n2, .int .i64 n3, .int .i64 n4] 29)).alloc (.cells #[] 29)).drew) (by rfl) (.tmp 58) (.tmp 60) _ (by rfl) (w.heap.size + 1 + 1 + 1) 29 i3 (.agg #[.int .i64 0, .int .i64 0, .int .i64 0, .int .i64 0, .int .i64 0]) 5 40 Try.underlying30 hi3 hz3 hs3 hy3 (by rfl) (by decide) (.slice (some ⟨w8.heap.size + 1, 0, none⟩) 0 0) 0 [] (by rfl) O3.out S A1 nodes.length c1 (nds nodes) (by rfl) R3.out (one_nds nodes) Hm1.out Hm2.out T3.out.bel_le ?_; intro A9 c9 w9 hown hcap hgrow hat; have T9 := T3.out.grown hgrow O3.out; have L9 := Lib.hid (L3.out.grown hgrow (by simp [Value.ownBlock])); rw [e0] at hown; rw [List.nil_append] at hown; rw [e0]; have hs9 := hgrow.size; obtain ⟨⟨y0', y1', y2', y3'⟩, _⟩ := T9.b0.pool; obtain ⟨x0', x1', x2', x3', x4'⟩ := T9.b1.node5; have hlt90 := T9.b2.lt; have hlt91 := T9.b1.lt; have hlt92 := T9.b0.lt; have HT9 := Lib.hid T9; have Hown9 := Lib.hid hown; clear hgrow hat hcap hown T9 hs9)
      | (refine step_append_R (w9.alloc (.cells #[.int .i64 ((taken.length : Int) + 1), .int .i64 n1, .int .i64 n2, .int .i64 n3, .int .i64 n4] 29)) (by rfl) (.tmp 61) (.tmp 63) _ (by rfl) (w.heap.size + 1 + 1 + 1) 29 i3 (.agg #[.int .i64 0, .int .i64 0, .int .i64 0, .int .i64 0, .int .i64 0]) 5 40 Try.underlying30 hi3 hz3 hs3 hy3 (by rfl) (by decide) (.slice A9 nodes.length c9) nodes.length (nds nodes) (by rfl) (Hown9.out.alloc _) (fun _ => True) (some ⟨w9.heap.size, 0, none⟩) 1 1 (⟨(taken.length : Int) + 1, n1, n2, n3, n4⟩ : Nd).cells (by rfl) (RQ.five (n := ⟨(taken.length : Int) + 1, n1, n2, n3, n4⟩) (Blk.new w9 _ _)) Hone.out Hm3.out Hm4.out (Nat.le_trans HT9.out.b2.lt (by simp only [World.size_alloc]; omega)) ?_; intro A10 c10 w10 hown hcap hgrow hat; have T10 := (HT9.out.alloc (.cells #[.int .i64 ((taken.length : Int) + 1), .int .i64 n1, .int .i64 n2, .int .i64 n3, .int .i64 n4] 29)).grown hgrow (Hown9.out.alloc (.cells #[.int .i64 ((taken.length : Int) + 1), .int .i64 n1, .int .i64 n2, .int .i64 n3, .int .i64 n4] 29)); rw [← nds_snoc] at hown; obtain ⟨⟨u0, u1, u2, u3⟩, fu0, fu1, fu2, fu3⟩ := T10.b0.pool; obtain ⟨t0, t1, t2, t3, t4⟩ := T10.b1.node5; have hlt100 := T10.b2.lt; have HT10 := Lib.hid T10; have Hown10 := Lib.hid hown; have Hcap10 := Lib.hid hcap; clear hgrow hat hcap hown T10)
      | (refine step_append_R (w9) (by rfl) (.tmp 61) (.tmp 63) _ (by rfl) (w.heap.size + 1 + 1 + 1) 29 i3 (.agg #[.int .i64 0, .int .i64 0, .int .i64 0, .int .i64 0, .int .i64 0]) 5 40 Try.underlying30 hi3 hz3 hs3 hy3 (by rfl) (by decide) (.slice A9 nodes.length c9) nodes.length (nds nodes) (by rfl) Hown9.out (fun _ => True) (some ⟨w8.heap.size + 1, 0, none⟩) 1 1 (⟨(taken.length : Int) + 1, n1, n2, n3, n4⟩ : Nd).cells (by rfl) (RQ.five (n := ⟨(taken.length : Int) + 1, n1, n2, n3, n4⟩) L9.out) Hone.out Hm3.out Hm4.out HT9.out.b2.lt ?_; intro A10 c10 w10 hown hcap hgrow hat; have T10 := HT9.out.grown hgrow Hown9.out; rw [← nds_snoc] at hown; obtain ⟨⟨u0, u1, u2, u3⟩, fu0, fu1, fu2, fu3⟩ := T10.b0.pool; obtain ⟨t0, t1, t2, t3, t4⟩ := T10.b1.node5; have hlt100 := T10.b2.lt; have HT10 := Lib.hid T10; have Hown10 := Lib.hid hown; have Hcap10 := Lib.hid hcap; clear hgrow hat hcap hown T10)
      | (refine step_append_R (w9) (by rfl) (.tmp 61) (.tmp 63) _ (by rfl) (w.heap.size + 1 + 1 + 1) 29 i3 (.agg #[.int .i64 0, .int .i64 0, .int .i64 0, .int .i64 0, .int .i64 0]) 5 40 Try.underlying30 hi3 hz3 hs3 hy3 (by rfl) (by decide) (.slice A9 nodes.length c9) nodes.length (nds nodes) (by rfl) Hown9.out (fun _ => True) (some ⟨w8.heap.size, 0, none⟩) 1 1 (⟨(taken.length : Int) + 1, n1, n2, n3, n4⟩ : Nd).cells (by rfl) (RQ.five (n := ⟨(taken.length : Int) + 1, n1, n2, n3, n4⟩) L9.out) Hone.out Hm3.out Hm4.out HT9.out.b2.lt ?_; intro A10 c10 w10 hown hcap hgrow hat; have T10 := HT9.out.grown hgrow Hown9.out; rw [← nds_snoc] at hown; obtain ⟨⟨u0, u1, u2, u3⟩, fu0, fu1, fu2, fu3⟩ := T10.b0.pool; obtain ⟨t0, t1, t2, t3, t4⟩ := T10.b1.node5; have hlt100 := T10.b2.lt; have HT10 := Lib.hid T10; have Hown10 := Lib.hid hown; have Hcap10 := Lib.hid hcap; clear hgrow hat hcap hown T10))
    all_goals
      go_wp2_with fail
      go_meet
      exact ⟨A10, c10, HT10.out.put1 _, Hown10.out.far (Hown10.out.ne_blk HT10.out.b0 (by decide)) _, Hcap10.out⟩
    --SECOND
  case rest =>
    obtain ⟨A10, c10, hT, ho, hc⟩ := hcut
    obtain ⟨⟨u0, u1, u2, u3⟩, fu0, fu1, fu2, fu3⟩ := hT.b0.pool
    obtain ⟨t0, t1, t2, t3, t4⟩ := hT.b1.node5
    obtain ⟨⟨z0, z1, z2, z3⟩, q0, q1, q2, q3⟩ := hT.b2.pool
    have hgp := hT.row.ne_blk hT.b2 (by decide)
    have hgo := ho.ne_blk hT.b2 (by decide)
    have HTc := Lib.hid hT
    have Hoc := Lib.hid ho
    have Hcc := Lib.hid hc
    have Hgp := Lib.hid hgp
    have Hgo := Lib.hid hgo
    clear hT ho hc hgp hgo T1 T2 T3 O1 O2 O3 L2 L3 R1 R2 R3 x0 x1 x2 x3 x4 y0 y1' y2' y3 HT hlt80 hlt81 hlt82 hi3 hz3 hs3 hy3
    go_wp2_with fail
    go_region
    all_goals go_wp2
    refine bodyPost_ret (v := .tuple #[.agg #[.int .i64 room, .slice A10 (nodes.length + 1) c10, .slice A7 (taken.length + 1) c7, .slice A3 0 c3], .int .i64 ((taken.length : Int) + 1), .int .i64 0]) (by simp [results, Try.results50, go_sem, *]) rfl ?_
    have hBe := (lay4_below HTc.out.bel (g := w.heap.size + 1 + 1) (by omega) (.int .i64 room) (.slice A10 (nodes.length + 1) c10) (.slice A7 (taken.length + 1) c7) (.slice A3 0 c3)).drew
    have hx : ∀ {base e size m : Nat} {v : Value} {ys : List Value} (ho : Own wc base e size v m ys), v.ownBlock ≠ some (w.heap.size + 1 + 1) → Own (lay4 wc (w.heap.size + 1 + 1) (.int .i64 room) (.slice A10 (nodes.length + 1) c10) (.slice A7 (taken.length + 1) c7) (.slice A3 0 c3)).drew base e size v m ys :=
      fun ho h2 => ((((ho.far (p := ⟨w.heap.size + 1 + 1, 0, none⟩) h2 _).far (p := ⟨w.heap.size + 1 + 1, 1, none⟩) h2 _).far (p := ⟨w.heap.size + 1 + 1, 2, none⟩) h2 _).far (p := ⟨w.heap.size + 1 + 1, 3, none⟩) h2 _).drew
    have hh := Hh.out.below hBe
    refine ⟨A10, c10, A7, c7, A3, c3, by simp [WithIds, Rf.val], ⟨?_, ?_, hh.fr.imp fun b h _ => .inl h, by simpa using Hcc.out, by simpa using Hcap7.out, hh.cf⟩, hBe⟩
    · rw [List.length_append]
      exact (RQ.of_own (hx Hoc.out Hgo.out)).imp fun b h _ => .inr (by omega)
    · rw [List.length_append]
      exact (RQ.of_own (hx HTc.out.row Hgp.out)).imp fun b h _ => .inr h
end Go.Proofs.Ytcnejokbldohlaa
