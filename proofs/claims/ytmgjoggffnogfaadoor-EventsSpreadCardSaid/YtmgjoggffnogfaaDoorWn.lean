/- What New makes: pool, orders, tables, store, memo, manager. -/
import Derived.Test.YtmgjoggffnogfaaDoorEd
namespace Go.Proofs.YtmgjoggffnogfaaDoor
set_option linter.unusedSimpArgs false
set_option linter.unusedVariables false
open Go.RowKit
set_option linter.unusedVariables false
theorem ty_agg3 : aggB Tryd.prog 3 = some false := by kernel_rfl
theorem ty_sz3 : sizeB Tryd.prog 3 = some 1 := by kernel_rfl
theorem ty_z3 : zeroB Tryd.prog 3 = some (.int .i64 0) := by kernel_rfl
theorem ty_agg4 : aggB Tryd.prog 4 = some false := by kernel_rfl
theorem ty_sz4 : sizeB Tryd.prog 4 = some 1 := by kernel_rfl
theorem ty_z4 : zeroB Tryd.prog 4 = some (.bool false) := by kernel_rfl
theorem ty_agg147 : aggB Tryd.prog 147 = some true := by kernel_rfl
theorem ty_sz147 : sizeB Tryd.prog 147 = some 5 := by kernel_rfl
theorem ty_z147 : zeroB Tryd.prog 147 = some (.agg #[.int .i64 0, .int .i64 0, .int .i64 0, .int .i64 0, .int .i64 0]) := by kernel_rfl
theorem ty_agg109 : aggB Tryd.prog 109 = some true := by kernel_rfl
theorem ty_sz109 : sizeB Tryd.prog 109 = some 5 := by kernel_rfl
theorem ty_z109 : zeroB Tryd.prog 109 = some (.agg #[.int .i64 0, .slice none 0 0, .slice none 0 0, .slice none 0 0, .int .i64 0]) := by kernel_rfl
theorem ty_agg90 : aggB Tryd.prog 90 = some true := by kernel_rfl
theorem ty_sz90 : sizeB Tryd.prog 90 = some 2 := by kernel_rfl
theorem ty_z90 : zeroB Tryd.prog 90 = some (.agg #[.slice none 0 0, .slice none 0 0]) := by kernel_rfl
theorem ty_agg93 : aggB Tryd.prog 93 = some true := by kernel_rfl
theorem ty_sz93 : sizeB Tryd.prog 93 = some 5 := by kernel_rfl
theorem ty_z93 : zeroB Tryd.prog 93 = some (.agg #[.pointer none, .pointer none, .slice none 0 0, .slice none 0 0, .int .i64 0]) := by kernel_rfl
theorem ty_agg98 : aggB Tryd.prog 98 = some true := by kernel_rfl
theorem ty_sz98 : sizeB Tryd.prog 98 = some 4 := by kernel_rfl
theorem ty_z98 : zeroB Tryd.prog 98 = some (.agg #[.int .i64 0, .slice none 0 0, .int .i64 0, .int .i64 0]) := by kernel_rfl
theorem ty_agg69 : aggB Tryd.prog 69 = some true := by kernel_rfl
theorem ty_sz69 : sizeB Tryd.prog 69 = some 6 := by kernel_rfl
theorem ty_z69 : zeroB Tryd.prog 69 = some (.agg #[.pointer none, .pointer none, .map none, .int .i64 0, .slice none 0 0, .int .i64 0]) := by kernel_rfl
theorem node_info : (Tryd.prog.info? 147).map (fun i => (i.zero, i.size, i.bytes)) = some (some (.agg #[.int .i64 0, .int .i64 0, .int .i64 0, .int .i64 0, .int .i64 0]), 5, 40) := by kernel_rfl
theorem bool_info : (Tryd.prog.info? 4).map (fun i => (i.zero, i.size, i.bytes)) = some (some (.bool false), 1, 1) := by kernel_rfl
theorem int_info : (Tryd.prog.info? 3).map (fun i => (i.zero, i.size, i.bytes)) = some (some (.int .i64 0), 1, 8) := by kernel_rfl
abbrev node0 : Array Value := #[.int .i64 0, .int .i64 0, .int .i64 0, .int .i64 0, .int .i64 0]
theorem made_node : madeCells (Value.cells (.agg #[.int .i64 0, .int .i64 0, .int .i64 0, .int .i64 0, .int .i64 0])) (1 * 5) = node0 := by kernel_rfl
theorem made_bool : madeCells (Value.cells (.bool false)) (1 * 1) = #[.bool false] := by kernel_rfl
theorem pnew_bad (room : Int) (w : World) (h : room < 1 ∨ 1048576 < room) : Calls Tryd.prog 39 #[.int .i64 room] w fun e w' => e = .returned (.tuple #[.pointer none, .int .i64 2]) ∧ w = w' := by
  have h : decide (room < 1) = true ∨ (decide (room < 1) = false ∧ decide (1048576 < room) = true) := by simp only [decide_eq_true_eq, decide_eq_false_iff_not]; omega
  rcases h with h | ⟨h, h2⟩
  all_goals
    go_enter Tryd.func39, Tryd.ntmps39
    go_wp2
    go_ret2
    exact ⟨rfl, rfl⟩
abbrev vSl (n : Nat) (X : Nat) : Value := .slice (some ⟨X, 0, none⟩) n n
abbrev vPt (X : Nat) : Value := .pointer (some ⟨X, 0, none⟩)
set_option maxHeartbeats 1000000 in
set_option maxRecDepth 100000 in
theorem pnew_ok (E : World) (I : PH) (ms : List PH) (room : Int) (w : World) (h1 : 1 ≤ room) (h2 : room ≤ 1048576) (hS : Sat E I ms w) :
    Calls Tryd.prog 39 #[.int .i64 room] w fun e w' => ∃ X A T, e = .returned (.tuple #[.pointer (some ⟨X, 0, none⟩), .int .i64 0]) ∧
      Sat E I (PH.one X (.cells #[.int .i64 room, .slice (some ⟨A, 0, none⟩) 1 1, .slice (some ⟨T, 0, none⟩) 1 1, .slice none 0 0, .int .i64 0] 109) :: PH.one A (.cells node0 147) :: PH.one T (.cells #[.bool false] 4) :: ms) w' := by
  go_enter Tryd.func39, Tryd.ntmps39
  go_wp2_with fail
  refine region_mk [[], [], [], [0, 1, 2], [0, 1, 2, 3], [0, 1, 2, 3, 4], [0, 1, 2, 3, 4, 5]] E I ms
    [fun _ v _ => v = .int .i64 room, fun _ v _ => ∃ X, v = vSl 1 X, fun _ v _ => ∃ X, v = vSl 1 X, fun vals v _ => v = .agg #[.int .i64 room, vals 1, vals 2, .slice none 0 0, .int .i64 0], fun _ v _ => ∃ X, v = vPt X, fun vals v _ => v = vals 4, fun _ v _ => v = .int .i64 0]
    [⟨4, vPt, fun vals => .cells (vals 3).cells 109⟩, ⟨1, vSl 1, fun _ => .cells node0 147⟩, ⟨2, vSl 1, fun _ => .cells #[.bool false] 4⟩]
    (by kernel_rfl) (by kernel_rfl) hS ?last ?ok ?mkd ?plain ?make ?fin
  case last => (repeat' (first | exact trivial | apply And.intro)) <;> (first | exact (fun _ _ _ _ _ h => h) | (intro vals vals' v J h e; first | exact e | (simp only [List.getD_cons_succ, List.getD_cons_zero, List.forall_mem_cons] at h; simp_all)))
  case ok => refine ⟨by simp, fun m hm => ?_⟩; simp only [List.mem_cons, List.not_mem_nil, or_false] at hm; (repeat' (rcases hm with rfl | hm)) <;> (try subst hm) <;> exact ⟨by decide, fun X => rfl, fun vals vals' h => by first | rfl | (simp only [List.getD_cons_succ, List.getD_cons_zero, List.forall_mem_cons] at h; simp_all)⟩
  case mkd =>
    intro m hm vals X J
    simp only [List.mem_cons, List.not_mem_nil, or_false] at hm
    rcases hm with rfl | rfl | rfl <;> exact ⟨X, rfl⟩
  case plain =>
    repeat' (first | exact trivial | apply And.intro)
    all_goals first | trivial | exact .inl rfl | skip
    all_goals
      refine .inr ?_
      intro vals J bs w hsub hg hJ hS
      first
      | (refine Veil.out ?_
         obtain ⟨A, hA⟩ : ∃ A, vals 1 = vSl 1 A := hg.get 1 (by decide)
         obtain ⟨T, hT⟩ : ∃ A, vals 2 = vSl 1 A := hg.get 2 (by decide)
         refine ⟨?_⟩
         have hg0 : vals 0 = .int .i64 room := hg.get 0 (by decide)
         simp only [List.getD_cons_succ, List.getD_cons_zero, Given, VFacts] at hg; simp only [textL, actL, dstAt, opAt, List.getD_cons_succ, List.getD_cons_zero, List.getElem?_cons_succ, List.getElem?_cons_zero, Option.bind_some, if_true, Act.put, List.setIfInBounds_toArray, List.set_cons_succ, List.set_cons_zero, hg0, hA, hT]; refine ⟨?_⟩; refine wpStep_of (fun K hK => ?_); have HK := Lib.hid hK; clear hK; rw [if_pos (by rfl)]
         go_wp2_with fail
         refine HK.out _ _ ⟨rfl, J, PH.le.refl _, hS, ?_⟩
         clear HK
         simp only [VFacts, outOf, List.getD_cons_succ, List.getD_cons_zero, Act.put, List.setIfInBounds_toArray, List.set_cons_succ, List.set_cons_zero, Array.getD_eq_getD_getElem?, List.getElem?_toArray, List.getElem?_cons_succ, List.getElem?_cons_zero, Option.getD_some]
         rw [hA, hT])
      | (simp only [List.getD_cons_succ, List.getD_cons_zero, Given, VFacts] at hg; simp only [textL, actL, dstAt, opAt, List.getD_cons_succ, List.getD_cons_zero, List.getElem?_cons_succ, List.getElem?_cons_zero, Option.bind_some, if_true, Act.put, List.setIfInBounds_toArray, List.set_cons_succ, List.set_cons_zero, hg]; refine ⟨?_⟩; refine wpStep_of (fun K hK => ?_); have HK := Lib.hid hK; clear hK; rw [if_pos (by rfl)]; go_wp2_with fail; refine HK.out _ _ ⟨rfl, J, PH.le.refl _, hS, ?_⟩; clear HK; simp only [VFacts, outOf, List.getD_cons_succ, List.getD_cons_zero, Act.put, List.setIfInBounds_toArray, List.set_cons_succ, List.set_cons_zero, Array.getD_eq_getD_getElem?, List.getElem?_toArray, List.getElem?_cons_succ, List.getElem?_cons_zero, Option.getD_some])
  case make =>
    clear hS
    intro m hm
    simp only [List.mem_cons, List.not_mem_nil, or_false] at hm
    rcases hm with rfl | rfl | rfl
    all_goals intro vals J bs w hsub hg hJ hS
    · simp only [List.getD_cons_succ, List.getD_cons_zero, Given, VFacts] at hg; simp only [textL, actL, dstAt, opAt, List.getD_cons_succ, List.getD_cons_zero, List.getElem?_cons_succ, List.getElem?_cons_zero, Option.bind_some, if_true, Act.put, List.setIfInBounds_toArray, List.set_cons_succ, List.set_cons_zero, hg]; refine ⟨?_⟩; refine wpStep_of (fun K hK => ?_); have HK := Lib.hid hK; clear hK; rw [if_pos (by rfl)]
      refine wp_bx hS rfl rfl fun X w hS => ?_
      refine HK.out _ _ ⟨rfl, J, X, PH.le.refl _, ?_, hS⟩
      simp only [VFacts, outOf, List.getD_cons_succ, List.getD_cons_zero, Act.put, List.setIfInBounds_toArray, List.set_cons_succ, List.set_cons_zero, Array.getD_eq_getD_getElem?, List.getElem?_toArray, List.getElem?_cons_succ, List.getElem?_cons_zero, Option.getD_some]
    · simp only [List.getD_cons_succ, List.getD_cons_zero, Given, VFacts] at hg; simp only [textL, actL, dstAt, opAt, List.getD_cons_succ, List.getD_cons_zero, List.getElem?_cons_succ, List.getElem?_cons_zero, Option.bind_some, if_true, Act.put, List.setIfInBounds_toArray, List.set_cons_succ, List.set_cons_zero, hg]; refine ⟨?_⟩; refine wpStep_of (fun K hK => ?_); have HK := Lib.hid hK; clear hK; rw [if_pos (by rfl)]
      refine wp_mks hS rfl Tryd.underlying106 node_info rfl rfl rfl rfl (Nat.le_refl _) (by decide) (by decide) fun X w hS => ?_
      rw [made_node] at hS
      refine HK.out _ _ ⟨rfl, J, X, PH.le.refl _, ?_, hS⟩
      simp only [VFacts, outOf, List.getD_cons_succ, List.getD_cons_zero, Act.put, List.setIfInBounds_toArray, List.set_cons_succ, List.set_cons_zero, Array.getD_eq_getD_getElem?, List.getElem?_toArray, List.getElem?_cons_succ, List.getElem?_cons_zero, Option.getD_some]
    · simp only [List.getD_cons_succ, List.getD_cons_zero, Given, VFacts] at hg; simp only [textL, actL, dstAt, opAt, List.getD_cons_succ, List.getD_cons_zero, List.getElem?_cons_succ, List.getElem?_cons_zero, Option.bind_some, if_true, Act.put, List.setIfInBounds_toArray, List.set_cons_succ, List.set_cons_zero, hg]; refine ⟨?_⟩; refine wpStep_of (fun K hK => ?_); have HK := Lib.hid hK; clear hK; rw [if_pos (by rfl)]
      refine wp_mks hS rfl Tryd.underlying107 bool_info rfl rfl rfl rfl (Nat.le_refl _) (by decide) (by decide) fun X w hS => ?_
      rw [made_bool] at hS
      refine HK.out _ _ ⟨rfl, J, X, PH.le.refl _, ?_, hS⟩
      simp only [VFacts, outOf, List.getD_cons_succ, List.getD_cons_zero, Act.put, List.setIfInBounds_toArray, List.set_cons_succ, List.set_cons_zero, Array.getD_eq_getD_getElem?, List.getElem?_toArray, List.getElem?_cons_succ, List.getElem?_cons_zero, Option.getD_some]
  case fin =>
    clear hS
    intro vals J w hJ hg hS
    obtain ⟨A, hA⟩ : ∃ A, vals 1 = vSl 1 A := hg.get 1 (by decide)
    obtain ⟨T, hT⟩ : ∃ A, vals 2 = vSl 1 A := hg.get 2 (by decide)
    obtain ⟨X, hX⟩ : ∃ A, vals 4 = vPt A := hg.get 4 (by decide)
    have h3 : vals 3 = .agg #[.int .i64 room, vals 1, vals 2, .slice none 0 0, .int .i64 0] := hg.get 3 (by decide)
    simp only [List.map_cons, List.map_nil, h3, hA, hT, hX, baseOf, List.cons_append, List.nil_append] at hS
    have hS := hS.less hJ
    simp only [List.length_cons, List.length_nil, Nat.reduceAdd, Below_, VFacts, List.getD_cons_succ, List.getD_cons_zero, true_and, and_true] at hg; simp only [List.length_cons, List.length_nil, Nat.reduceAdd, textL, actL, dstAt, opAt, List.getD_cons_succ, List.getD_cons_zero, List.getElem?_cons_succ, List.getElem?_cons_zero, Option.bind_some, if_true, Act.put, List.setIfInBounds_toArray, List.set_cons_succ, List.set_cons_zero, hg]; refine ⟨?_⟩
    go_wp2
    go_ret2
    exact ⟨X, A, T, congrArg (fun v => Ending.returned (.tuple #[v, .int .i64 0])) hX, hS⟩
end Go.Proofs.YtmgjoggffnogfaaDoor
