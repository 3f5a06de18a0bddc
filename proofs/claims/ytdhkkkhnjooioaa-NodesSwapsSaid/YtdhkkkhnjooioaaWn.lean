import Derived.Test.YtdhkkkhnjooioaaEd
namespace Go.Proofs.Ytdhkkkhnjooioaa
set_option linter.unusedSimpArgs false
set_option linter.unusedVariables false
open Go.RowKit
set_option linter.unusedVariables false
theorem ty_agg3 : aggB Try.prog 3 = some false := by kernel_rfl
theorem ty_sz3 : sizeB Try.prog 3 = some 1 := by kernel_rfl
theorem ty_z3 : zeroB Try.prog 3 = some (.int .i64 0) := by kernel_rfl
theorem ty_agg4 : aggB Try.prog 4 = some false := by kernel_rfl
theorem ty_sz4 : sizeB Try.prog 4 = some 1 := by kernel_rfl
theorem ty_z4 : zeroB Try.prog 4 = some (.bool false) := by kernel_rfl
theorem ty_agg59 : aggB Try.prog 59 = some true := by kernel_rfl
theorem ty_sz59 : sizeB Try.prog 59 = some 5 := by kernel_rfl
theorem ty_z59 : zeroB Try.prog 59 = some (.agg #[.int .i64 0, .int .i64 0, .int .i64 0, .int .i64 0, .int .i64 0]) := by kernel_rfl
theorem ty_agg112 : aggB Try.prog 112 = some true := by kernel_rfl
theorem ty_sz112 : sizeB Try.prog 112 = some 5 := by kernel_rfl
theorem ty_z112 : zeroB Try.prog 112 = some (.agg #[.int .i64 0, .slice none 0 0, .slice none 0 0, .slice none 0 0, .int .i64 0]) := by kernel_rfl
theorem ty_agg73 : aggB Try.prog 73 = some true := by kernel_rfl
theorem ty_sz73 : sizeB Try.prog 73 = some 2 := by kernel_rfl
theorem ty_z73 : zeroB Try.prog 73 = some (.agg #[.slice none 0 0, .slice none 0 0]) := by kernel_rfl
theorem ty_agg76 : aggB Try.prog 76 = some true := by kernel_rfl
theorem ty_sz76 : sizeB Try.prog 76 = some 5 := by kernel_rfl
theorem ty_z76 : zeroB Try.prog 76 = some (.agg #[.pointer none, .pointer none, .slice none 0 0, .slice none 0 0, .int .i64 0]) := by kernel_rfl
theorem node_info : (Try.prog.info? 59).map (fun i => (i.zero, i.size, i.bytes)) = some (some (.agg #[.int .i64 0, .int .i64 0, .int .i64 0, .int .i64 0, .int .i64 0]), 5, 40) := by kernel_rfl
theorem bool_info : (Try.prog.info? 4).map (fun i => (i.zero, i.size, i.bytes)) = some (some (.bool false), 1, 1) := by kernel_rfl
theorem int_info : (Try.prog.info? 3).map (fun i => (i.zero, i.size, i.bytes)) = some (some (.int .i64 0), 1, 8) := by kernel_rfl
abbrev node0 : Array Value := #[.int .i64 0, .int .i64 0, .int .i64 0, .int .i64 0, .int .i64 0]
theorem made_node : madeCells (Value.cells (.agg #[.int .i64 0, .int .i64 0, .int .i64 0, .int .i64 0, .int .i64 0])) (1 * 5) = node0 := by kernel_rfl
theorem made_bool : madeCells (Value.cells (.bool false)) (1 * 1) = #[.bool false] := by kernel_rfl
theorem pnew_bad (room : Int) (w : World) (h : room < 1 ∨ 1048576 < room) : Calls Try.prog 36 #[.int .i64 room] w fun e w' => e = .returned (.tuple #[.pointer none, .int .i64 2]) ∧ w = w' := by
  have h : decide (room < 1) = true ∨ (decide (room < 1) = false ∧ decide (1048576 < room) = true) := by simp only [decide_eq_true_eq, decide_eq_false_iff_not]; omega
  rcases h with h | ⟨h, h2⟩
  all_goals
    go_enter Try.func36, Try.ntmps36
    go_wp2
    go_ret2
    exact ⟨rfl, rfl⟩
abbrev vSl (n : Nat) (X : Nat) : Value := .slice (some ⟨X, 0, none⟩) n n
abbrev vPt (X : Nat) : Value := .pointer (some ⟨X, 0, none⟩)
set_option maxHeartbeats 1000000 in
set_option maxRecDepth 100000 in
theorem pnew_ok (E : World) (I : PH) (ms : List PH) (room : Int) (w : World) (h1 : 1 ≤ room) (h2 : room ≤ 1048576) (hS : Sat E I ms w) :
    Calls Try.prog 36 #[.int .i64 room] w fun e w' => ∃ X A T, e = .returned (.tuple #[.pointer (some ⟨X, 0, none⟩), .int .i64 0]) ∧
      Sat E I (PH.one X (.cells #[.int .i64 room, .slice (some ⟨A, 0, none⟩) 1 1, .slice (some ⟨T, 0, none⟩) 1 1, .slice none 0 0, .int .i64 0] 112) :: PH.one A (.cells node0 59) :: PH.one T (.cells #[.bool false] 4) :: ms) w' := by
  go_enter Try.func36, Try.ntmps36
  go_wp2_with fail
  refine region_mk [[], [], [], [0, 1, 2], [0, 1, 2, 3], [0, 1, 2, 3, 4], [0, 1, 2, 3, 4, 5]] E I ms
    [fun _ v _ => v = .int .i64 room, fun _ v _ => ∃ X, v = vSl 1 X, fun _ v _ => ∃ X, v = vSl 1 X, fun vals v _ => v = .agg #[.int .i64 room, vals 1, vals 2, .slice none 0 0, .int .i64 0], fun _ v _ => ∃ X, v = vPt X, fun vals v _ => v = vals 4, fun _ v _ => v = .int .i64 0]
    [⟨4, vPt, fun vals => .cells (vals 3).cells 112⟩, ⟨1, vSl 1, fun _ => .cells node0 59⟩, ⟨2, vSl 1, fun _ => .cells #[.bool false] 4⟩]
    (by kernel_rfl) (by kernel_rfl) hS ?last ?ok ?mkd ?plain ?make ?fin
  case last => (repeat' (first | exact trivial | apply And.intro)) <;> (first | exact (fun _ _ _ _ _ h => h) | (intro vals vals' v J h e; first | exact e | (simp only [zH, zI, List.forall_mem_cons] at h; simp_all)))
  case ok => refine ⟨by simp, fun m hm => ?_⟩; simp only [List.mem_cons, List.not_mem_nil, or_false] at hm; (repeat' (rcases hm with rfl | hm)) <;> (try subst hm) <;> exact ⟨by decide, fun X => rfl, fun vals vals' h => by first | rfl | (simp only [zH, zI, List.forall_mem_cons] at h; simp_all)⟩
  case mkd =>
    intro m hm vals X J
    simp only [List.mem_cons, List.not_mem_nil, or_false] at hm
    rcases hm with rfl | rfl | rfl <;> exact ⟨X, rfl⟩
  case plain =>
    repeat' (first | exact trivial | apply And.intro)
    all_goals first | trivial | exact .inl rfl | skip
    all_goals
      refine .inr ?_
      intro vals J bs w hsub hg hJ hS
      first
      | (refine Veil.out ?_
         obtain ⟨A, hA⟩ : ∃ A, vals 1 = vSl 1 A := hg.get 1 (by decide)
         obtain ⟨T, hT⟩ : ∃ A, vals 2 = vSl 1 A := hg.get 2 (by decide)
         refine ⟨?_⟩
         have hg0 : vals 0 = .int .i64 room := hg.get 0 (by decide)
         simp only [zH, zI, Given, VFacts] at hg; simp only [textL, actL, dstAt, opAt, zH, zI, zA, zB, zK, if_true, Act.put, zE, zF, zG, hg0, hA, hT]; refine ⟨?_⟩; refine wpStep_of (fun K hK => ?_); have HK := Lib.hid hK; clear hK; rw [if_pos (by rfl)]
         go_wp2_with fail
         refine HK.out _ _ ⟨rfl, J, PH.le.refl _, hS, ?_⟩
         clear HK
         simp only [VFacts, outOf, zH, zI, Act.put, zE, zF, zG, zD, zC, zA, zB, zJ]
         rw [hA, hT])
      | (simp only [zH, zI, Given, VFacts] at hg; simp only [textL, actL, dstAt, opAt, zH, zI, zA, zB, zK, if_true, Act.put, zE, zF, zG, hg]; refine ⟨?_⟩; refine wpStep_of (fun K hK => ?_); have HK := Lib.hid hK; clear hK; rw [if_pos (by rfl)]; go_wp2_with fail; refine HK.out _ _ ⟨rfl, J, PH.le.refl _, hS, ?_⟩; clear HK; simp only [VFacts, outOf, zH, zI, Act.put, zE, zF, zG, zD, zC, zA, zB, zJ])
  case make =>
    clear hS
    intro m hm
    simp only [List.mem_cons, List.not_mem_nil, or_false] at hm
    rcases hm with rfl | rfl | rfl
    all_goals intro vals J bs w hsub hg hJ hS
    · simp only [zH, zI, Given, VFacts] at hg; simp only [textL, actL, dstAt, opAt, zH, zI, zA, zB, zK, if_true, Act.put, zE, zF, zG, hg]; refine ⟨?_⟩; refine wpStep_of (fun K hK => ?_); have HK := Lib.hid hK; clear hK; rw [if_pos (by rfl)]
      refine wp_bx hS rfl rfl fun X w hS => ?_
      refine HK.out _ _ ⟨rfl, J, X, PH.le.refl _, ?_, hS⟩
      simp only [VFacts, outOf, zH, zI, Act.put, zE, zF, zG, zD, zC, zA, zB, zJ]
    · simp only [zH, zI, Given, VFacts] at hg; simp only [textL, actL, dstAt, opAt, zH, zI, zA, zB, zK, if_true, Act.put, zE, zF, zG, hg]; refine ⟨?_⟩; refine wpStep_of (fun K hK => ?_); have HK := Lib.hid hK; clear hK; rw [if_pos (by rfl)]
      refine wp_mks hS rfl Try.underlying48 node_info rfl rfl rfl rfl (Nat.le_refl _) (by decide) (by decide) fun X w hS => ?_
      rw [made_node] at hS
      refine HK.out _ _ ⟨rfl, J, X, PH.le.refl _, ?_, hS⟩
      simp only [VFacts, outOf, zH, zI, Act.put, zE, zF, zG, zD, zC, zA, zB, zJ]
    · simp only [zH, zI, Given, VFacts] at hg; simp only [textL, actL, dstAt, opAt, zH, zI, zA, zB, zK, if_true, Act.put, zE, zF, zG, hg]; refine ⟨?_⟩; refine wpStep_of (fun K hK => ?_); have HK := Lib.hid hK; clear hK; rw [if_pos (by rfl)]
      refine wp_mks hS rfl Try.underlying32 bool_info rfl rfl rfl rfl (Nat.le_refl _) (by decide) (by decide) fun X w hS => ?_
      rw [made_bool] at hS
      refine HK.out _ _ ⟨rfl, J, X, PH.le.refl _, ?_, hS⟩
      simp only [VFacts, outOf, zH, zI, Act.put, zE, zF, zG, zD, zC, zA, zB, zJ]
  case fin =>
    clear hS
    intro vals J w hJ hg hS
    obtain ⟨A, hA⟩ : ∃ A, vals 1 = vSl 1 A := hg.get 1 (by decide)
    obtain ⟨T, hT⟩ : ∃ A, vals 2 = vSl 1 A := hg.get 2 (by decide)
    obtain ⟨X, hX⟩ : ∃ A, vals 4 = vPt A := hg.get 4 (by decide)
    have h3 : vals 3 = .agg #[.int .i64 room, vals 1, vals 2, .slice none 0 0, .int .i64 0] := hg.get 3 (by decide)
    simp only [List.map_cons, List.map_nil, h3, hA, hT, hX, baseOf, List.cons_append, List.nil_append] at hS
    have hS := hS.less hJ
    simp only [List.length_cons, List.length_nil, Nat.reduceAdd, Below_, VFacts, zH, zI, true_and, and_true] at hg; simp only [List.length_cons, List.length_nil, Nat.reduceAdd, textL, actL, dstAt, opAt, zH, zI, zA, zB, zK, if_true, Act.put, zE, zF, zG, hg]; refine ⟨?_⟩
    go_wp2
    go_ret2
    exact ⟨X, A, T, congrArg (fun v => Ending.returned (.tuple #[v, .int .i64 0])) hX, hS⟩
end Go.Proofs.Ytdhkkkhnjooioaa
