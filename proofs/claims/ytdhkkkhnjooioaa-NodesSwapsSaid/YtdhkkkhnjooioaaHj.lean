import Derived.Test.YtdhkkkhnjooioaaHi
import Derived.Test.YtdhkkkhnjooioaaFa
namespace Go.Proofs.Ytdhkkkhnjooioaa
set_option linter.unusedSimpArgs false
set_option linter.unusedVariables false
open Go.RowKit
set_option linter.unusedVariables false
section
variable {w : World} {S : Nat} {s : G.St}
theorem ssplit_any (h : StR (heapOf w) S s) (f v : Nat) (hf : f < 9223372036854775808) : Calls Try.prog 74 #[vPt S, nv f, nv v] w fun e w' => e = .returned (.tuple #[nv (s.split f v).1, nv (s.split f v).2]) ∧ Below w.heap.size w w' := by
  cases hn : s.nd (f / 2) with
  | none =>
    have hr : s.split f v = (f, f) := by rw [G.split_eq, hn]
    have HC := Lib.hid (sat_none h f hf hn)
    rw [hr]
    clear h
    go_enter Try.func74, Try.ntmps74
    go_wp2_with (go_at_call 33; (with_reducible refine Calls.mono HC.out ?_); rintro e w2 ⟨rfl, hE⟩; have HE := Lib.hid hE; clear hE)
    go_ret2
    exact ⟨rfl, HE.out⟩
  | some n =>
    have HC := Lib.hid (sat_some h f hf hn)
    by_cases hv : n.v = v
    · have hr : s.split f v = (G.flipIf n.lo (f % 2 == 1), G.flipIf n.hi (f % 2 == 1)) := by rw [G.split_eq, hn]; exact if_pos hv
      rw [hr]
      rw [hv] at HC
      clear h
      go_enter Try.func74, Try.ntmps74
      go_wp2_with (go_at_call 33; (with_reducible refine Calls.mono HC.out ?_); rintro e w2 ⟨rfl, hE⟩; have HE := Lib.hid hE; clear hE)
      go_ret2
      exact ⟨rfl, HE.out⟩
    · have hr : s.split f v = (f, f) := by rw [G.split_eq, hn]; exact if_neg hv
      have hv' : ¬ (n.v : Int) = (v : Int) := by omega
      rw [hr]
      clear h
      go_enter Try.func74, Try.ntmps74
      go_wp2_with (go_at_call 33; (with_reducible refine Calls.mono HC.out ?_); rintro e w2 ⟨rfl, hE⟩; have HE := Lib.hid hE; clear hE)
      go_ret2
      exact ⟨rfl, HE.out⟩
set_option maxRecDepth 100000 in
set_option maxHeartbeats 1000000 in
theorem sunder_any (h : StR (heapOf w) S s) (f : Nat) (l : Int) (hf : f < 9223372036854775808) : Calls Try.prog 60 #[vPt S, nv f, .int .i64 l] w fun e w' => e = .returned (.bool (s.under f l)) ∧ Below w.heap.size w w' := by
  have hR := h
  obtain ⟨h0, L, P, vV, vL, vT, vC, gs, h1, iS1, h3, h4, h5, h6, h7, h8, h9, hP, h11, h12, h13, h14⟩ := h
  have HN := Lib.hid (fun w' : World => enode_any w' f hf)
  have HA := Lib.hid (fun (w' : World) (hle : (heapOf w).le (heapOf w')) => pat_nat (hP.le hle) (f / 2))
  have HV5 := Lib.hid (ndW_cells (f / 2) (s.pl.nd (f / 2))).1
  have HV1 := Lib.hid (ndW_cells (f / 2) (s.pl.nd (f / 2))).2
  have HLv := Lib.hid (fun (w' : World) (v : Int) (hle : (heapOf w).le (heapOf w')) => slevel_any (hR.le hle) v)
  have hz : f / 2 = 0 → s.pl.nd (f / 2) = none := fun h => by rw [h]; exact G.Pl.nd_zero _
  clear h0 h1 h3 h4 h5 h6 h7 h8 h9 hP h11 h12 h13 h14 hR
  have hS : Sat w (heapOf w) ([] ++ []) w := Sat.start w
  have u1 : s.pl.nd (f / 2) = none → s.under f l = (f / 2 == 0) := fun ho => by unfold G.St.under G.St.nd; simp [ho]
  have u2 : ∀ n, s.pl.nd (f / 2) = some n → ¬ f / 2 = 0 → s.under f l = decide (s.level n.v > l) := fun n ho hc => by unfold G.St.under G.St.nd; simp [ho, hc]
  cases hn : s.pl.nd (f / 2) with
  | none =>
    rw [hn] at HA HV5 HV1
    rw [u1 hn]
    clear u1 u2 hn hz HLv
    go_enter Try.func60, Try.ntmps60
    go_wp2_with fail
    refine region_fnV [[], [0], [0, 1], [0, 1, 2], [], [4], [0, 1, 2, 3, 4, 5], [0, 1, 2, 3, 4, 5, 6], [0, 1, 2, 3, 4, 5, 6, 7], [0, 1, 2, 3, 4, 5, 6, 7], [], [0, 1, 2, 3, 4, 5, 6, 7, 8, 10], [0, 1, 2, 3, 4, 5, 6, 7, 8, 9, 10, 11]] _ _ [] _ [⟨10, 11, 59, #[.int .i64 0, .int .i64 0, .int .i64 0, .int .i64 0, .int .i64 0], fun cs _ => cs = (ndW (f / 2) none).cells⟩] [fun v _ => v = vPt S, fun v _ => v = vPt S, fun v _ => v = .pointer (some ⟨S, 1, none⟩), fun v _ => v = vPt P, fun v _ => v = nv (f), fun v _ => v = nv ((f) / 2), fun v _ => v = .tuple #[ndW (f / 2) none, .bool (false)], fun v _ => v = .tuple #[ndW (f / 2) none, .bool (false)], fun v _ => v = ndW (f / 2) none, fun v _ => v = .bool (false), fun _ _ => True, fun _ _ => True, fun v _ => v = .bool (false)]
      (by kernel_rfl) (by kernel_rfl) (by simp) hS ?_ ?monoC ?okb ?dal ?fill ?plain ?fin
    · repeat (first | exact Lasting.nil | refine Lasting.cons (fun _ _ _ _ h => h) ?_)
    case monoC =>
      intro b' hb' cs J K hJK
      simp only [List.mem_cons, List.not_mem_nil, or_false] at hb'
      subst hb'
      exact fun h => h
    case okb =>
      intro b' hb'
      simp only [List.mem_cons, List.not_mem_nil, or_false] at hb'
      subst hb'
      exact ⟨by simp, ⟨rfl, rfl, rfl⟩, ⟨_, zeroB_eq ty_z59, rfl⟩, ⟨rfl, rfl, _, rfl⟩, by simp, sizeB_eq ty_sz59⟩
    case dal =>
      intro b' hb' v' J
      simp only [List.mem_cons, List.not_mem_nil, or_false] at hb'
      subst hb'
      exact ⟨trivial, trivial⟩
    case fill =>
      intro b' hb' vals J hJ hg
      simp only [List.mem_cons, List.not_mem_nil, or_false] at hb'
      subst hb'
      simp only [zH, zI, Given, Facts] at hg
      refine ⟨ndW (f / 2) none, by simp only [storeArg, textL, actL, dstAt, opAt, zH, zI, zA, zB, zK, if_true, Act.put, zE, zF, zG, Act.eval, zD, zC, zJ, hg], HV5.out, HV1.out, rfl⟩
    case plain =>
      repeat' (first | exact trivial | apply And.intro)
      all_goals first
        | (refine .inl (by rfl))
        | ((refine .inr ?_; intro vals J bs w hg hJ hS; simp only [zH, zI, Given, Facts] at hg; simp only [textL, actL, dstAt, opAt, zH, zI, zA, zB, zK, if_true, Act.put, zE, zF, zG, hg]; refine ⟨?_⟩; refine wpStep_of (fun K hK => ?_); have HK := Lib.hid hK; clear hK; rw [if_pos (by rfl)]; (first | ((with_reducible refine atLoad ?_); first | ((refine' wp_ldi1 (v := _) hS hJ ?ha rfl ?hc ?_); (case ha => first | exact ty_agg67); (case hc => assumption))) | (go_wp2_with (first | (go_at_call 50; (with_reducible refine Calls.mono (HN.out _) ?_); rintro e w2 ⟨rfl, rfl⟩) | (go_at_call 49; ((with_reducible refine Calls.mono (HA.out _ (PH.le.trans hJ hS.ile)) ?_); rintro e w2 ⟨rfl, hb2⟩; have hS2 := hS.below_ hb2; clear hS hb2; have hS := hS2; clear hS2))))); (first | refine HK.out _ _ ⟨rfl, J, PH.le.refl _, hS, ?_⟩ | refine HK.out _ _ ⟨rfl, _, hJ2, hS, ?_⟩); clear HK; simp only [Facts, outOf, zH, zI, Act.put, zE, zF, zG, zD, zC, zA, zB, zJ]); done)

    case fin =>
      intro vals J bs w hJ hg hS hB
      have hE := Lib.hid (hS.end_ hJ)
      clear hB hS HA HV5 HV1 iS1
      by_cases hc : f / 2 = 0
      · rw [hc] at HN
        simp only [List.length_cons, List.length_nil, Nat.reduceAdd, Below_, Facts, zH, zI, true_and, and_true] at hg; simp only [List.length_cons, List.length_nil, Nat.reduceAdd, textL, actL, dstAt, opAt, zH, zI, zA, zB, zK, if_true, Act.put, zE, zF, zG, hg]; refine ⟨?_⟩
        clear hg
        go_wp2_with (first | (go_at_call 50; (with_reducible refine Calls.mono (HN.out _) ?_); rintro e w2 ⟨rfl, rfl⟩))
        go_ret
        exact ⟨by rw [hc]; rfl, hE.out⟩
      · have e2 : ¬ ((f / 2 : Nat) : Int) = 0 := by omega
        simp only [List.length_cons, List.length_nil, Nat.reduceAdd, Below_, Facts, zH, zI, true_and, and_true] at hg; simp only [List.length_cons, List.length_nil, Nat.reduceAdd, textL, actL, dstAt, opAt, zH, zI, zA, zB, zK, if_true, Act.put, zE, zF, zG, hg]; refine ⟨?_⟩
        clear hg
        go_wp2_with (first | (go_at_call 50; (with_reducible refine Calls.mono (HN.out _) ?_); rintro e w2 ⟨rfl, rfl⟩))
        go_ret
        have e3 : (((f : Int) / 2) == 0) = false := by rw [beq_eq_false_iff_ne]; omega
        refine ⟨?_, hE.out⟩
        show Ending.returned (.bool ((f : Int) / 2 == 0)) = _
        rw [e3, show (f / 2 == 0) = false from beq_eq_false_iff_ne.2 hc]
  | some n =>
    rw [hn] at HA HV5 HV1
    have hc : ¬ f / 2 = 0 := fun h => by rw [hz h] at hn; cases hn
    rw [u2 n hn hc]
    have e2 : ¬ ((f / 2 : Nat) : Int) = 0 := by omega
    clear u1 u2 hn hz
    go_enter Try.func60, Try.ntmps60
    go_wp2_with fail
    refine region_fnV [[], [0], [0, 1], [0, 1, 2], [], [4], [0, 1, 2, 3, 4, 5], [0, 1, 2, 3, 4, 5, 6], [0, 1, 2, 3, 4, 5, 6, 7], [0, 1, 2, 3, 4, 5, 6, 7], [], [0, 1, 2, 3, 4, 5, 6, 7, 8, 10], [0, 1, 2, 3, 4, 5, 6, 7, 8, 9, 10, 11]] _ _ [] _ [⟨10, 11, 59, #[.int .i64 0, .int .i64 0, .int .i64 0, .int .i64 0, .int .i64 0], fun cs _ => cs = (ndW (f / 2) (some n)).cells⟩] [fun v _ => v = vPt S, fun v _ => v = vPt S, fun v _ => v = .pointer (some ⟨S, 1, none⟩), fun v _ => v = vPt P, fun v _ => v = nv (f), fun v _ => v = nv ((f) / 2), fun v _ => v = .tuple #[ndW (f / 2) (some n), .bool (true)], fun v _ => v = .tuple #[ndW (f / 2) (some n), .bool (true)], fun v _ => v = ndW (f / 2) (some n), fun v _ => v = .bool (true), fun _ _ => True, fun _ _ => True, fun v _ => v = .bool (true)]
      (by kernel_rfl) (by kernel_rfl) (by simp) hS ?_ ?monoC ?okb ?dal ?fill ?plain ?fin
    · repeat (first | exact Lasting.nil | refine Lasting.cons (fun _ _ _ _ h => h) ?_)
    case monoC =>
      intro b' hb' cs J K hJK
      simp only [List.mem_cons, List.not_mem_nil, or_false] at hb'
      subst hb'
      exact fun h => h
    case okb =>
      intro b' hb'
      simp only [List.mem_cons, List.not_mem_nil, or_false] at hb'
      subst hb'
      exact ⟨by simp, ⟨rfl, rfl, rfl⟩, ⟨_, zeroB_eq ty_z59, rfl⟩, ⟨rfl, rfl, _, rfl⟩, by simp, sizeB_eq ty_sz59⟩
    case dal =>
      intro b' hb' v' J
      simp only [List.mem_cons, List.not_mem_nil, or_false] at hb'
      subst hb'
      exact ⟨trivial, trivial⟩
    case fill =>
      intro b' hb' vals J hJ hg
      simp only [List.mem_cons, List.not_mem_nil, or_false] at hb'
      subst hb'
      simp only [zH, zI, Given, Facts] at hg
      refine ⟨ndW (f / 2) (some n), by simp only [storeArg, textL, actL, dstAt, opAt, zH, zI, zA, zB, zK, if_true, Act.put, zE, zF, zG, Act.eval, zD, zC, zJ, hg], HV5.out, HV1.out, rfl⟩
    case plain =>
      repeat' (first | exact trivial | apply And.intro)
      all_goals first
        | (refine .inl (by rfl))
        | ((refine .inr ?_; intro vals J bs w hg hJ hS; simp only [zH, zI, Given, Facts] at hg; simp only [textL, actL, dstAt, opAt, zH, zI, zA, zB, zK, if_true, Act.put, zE, zF, zG, hg]; refine ⟨?_⟩; refine wpStep_of (fun K hK => ?_); have HK := Lib.hid hK; clear hK; rw [if_pos (by rfl)]; (first | ((with_reducible refine atLoad ?_); first | ((refine' wp_ldi1 (v := _) hS hJ ?ha rfl ?hc ?_); (case ha => first | exact ty_agg67); (case hc => assumption))) | (go_wp2_with (first | (go_at_call 50; (with_reducible refine Calls.mono (HN.out _) ?_); rintro e w2 ⟨rfl, rfl⟩) | (go_at_call 49; ((with_reducible refine Calls.mono (HA.out _ (PH.le.trans hJ hS.ile)) ?_); rintro e w2 ⟨rfl, hb2⟩; have hS2 := hS.below_ hb2; clear hS hb2; have hS := hS2; clear hS2))))); (first | refine HK.out _ _ ⟨rfl, J, PH.le.refl _, hS, ?_⟩ | refine HK.out _ _ ⟨rfl, _, hJ2, hS, ?_⟩); clear HK; simp only [Facts, outOf, zH, zI, Act.put, zE, zF, zG, zD, zC, zA, zB, zJ]); done)

    case fin =>
      intro vals J bs w1 hJ hg hS hB
      cases hB with
      | cons h1 hB =>
      cases hB
      simp only [Bx.st, if_true] at h1
      obtain ⟨Y, cY, eY, rfl, zY, rfl⟩ := h1
      have e10 : vals 10 = vPt Y := eY
      clear HA HV5 HV1 iS1
      have hS := hS.less hJ
      simp only [List.nil_append, List.cons_append] at hS
      have hS : Sat w (heapOf w) [PH.one Y (.cells #[nv (f / 2), nv n.v, nv n.lo, nv n.hi, nv n.refs] 59)] w1 := hS
      simp only [List.length_cons, List.length_nil, Nat.reduceAdd, Below_, Facts, zH, zI, true_and, and_true] at hg; simp only [List.length_cons, List.length_nil, Nat.reduceAdd, textL, actL, dstAt, opAt, zH, zI, zA, zB, zK, if_true, Act.put, zE, zF, zG, hg]; refine ⟨?_⟩
      clear hg
      simp only [e10]
      go_wp2_with (first | (go_at_call 50; (with_reducible refine Calls.mono (HN.out _) ?_); rintro e w2 ⟨rfl, rfl⟩) | (go_at_call 23; (with_reducible refine Calls.mono (HLv.out _ _ hS.ile) ?_); rintro e w2 ⟨rfl, rfl⟩) | ((with_reducible refine atList ?_); first | ((with_reducible refine isGuard ?_); first | go_skip | ((with_reducible refine guarded_no ?hw ?_); (case hw => (simp only [Region.wanted, yielded, zC, zA, zB, zK]; first | exact (rfl : (some true == some false) = false) | exact (rfl : (some false == some true) = false))); (try simp only [Act.put, zE, zF, zG])) | ((with_reducible refine guarded_yes ?hw ?_); case hw => (simp only [Region.wanted, yielded, zC, zA, zB, zK, beq_self_eq_true]; done)) | ((refine' guarded_cases (b := _) ?hy ?_ ?_); (case hy => (simp only [yielded, zC, zA, zB, zK]; exact rfl)); all_goals (intro hb; (try simp only [Bool.not_true, Bool.not_false] at hb); (try simp only [hb]); (try simp only [Act.put, zE, zF, zG]); first | ((have hf : False := by (simp at hb; done)); cases hf) | ((have hf : False := by (simp at hb; omega)); cases hf) | skip))) | ((with_reducible refine isLoad ?_); (first | (refine ld1 0 hS rfl rfl ?ha rfl rfl rfl ?_; (case ha => exact ty_agg3)) | ((refine' ldI1 (v := _) hS rfl rfl ?ha rfl ?hb ?_); (case ha => exact ty_agg3); (case hb => assumption))); (try simp only [Act.put, zE, zF, zG]))))
      have e3 : (((f : Int) / 2) == 0) = false := by rw [beq_eq_false_iff_ne]; omega
      go_ret
      refine ⟨?_, hS.end_ (PH.le.refl _)⟩
      show Ending.returned (.bool ((f : Int) / 2 == 0 || decide (l < s.level n.v))) = _
      rw [e3]
      rfl
end
end Go.Proofs.Ytdhkkkhnjooioaa
