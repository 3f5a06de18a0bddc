import Derived.Test.YtdhkkkhnjooioaaHu
namespace Go.Proofs.Ytdhkkkhnjooioaa
set_option linter.unusedSimpArgs false
set_option linter.unusedVariables false
open Go.RowKit
set_option linter.unusedVariables false
set_option maxRecDepth 100000 in
set_option maxHeartbeats 4000000 in
theorem sheld_any {w : World} {S : Nat} {s : G.St} (h : StR (heapOf w) S s) (f : Int) (hf : f < 9223372036854775808) : Calls Try.prog 34 #[vPt S, .int .i64 f] w fun e w' => e = .returned (nv (s.held f)) ∧ Below w.heap.size w w' := by
  have HI := Lib.hid (fun (w' : World) (hle : (heapOf w).le (heapOf w')) => sis_any (h.le hle) f hf)
  unfold G.St.held
  cases b1 : s.is f with
  | false =>
    rw [b1] at HI
    have hS := Sat.start w
    go_enter Try.func34, Try.ntmps34
    go_wp2_with (first | (go_at_call 32; (with_reducible refine Calls.mono (HI.out _ hS.ile) ?_); rintro e w2 ⟨rfl, hb⟩; replace hS := hS.below_ hb; clear hb))
    go_ret
    exact ⟨rfl, hS.end_ (PH.le.refl _)⟩
  | true =>
  obtain ⟨f, rfl⟩ : ∃ a : Nat, f = (a : Int) := ⟨f.toNat, by have : 0 ≤ f := by { unfold G.St.is at b1; simp only [Bool.and_eq_true, decide_eq_true_eq] at b1; exact b1.1 }; omega⟩
  have HN := Lib.hid (fun w' : World => enode_any w' f (by omega))
  rw [b1] at HI
  obtain ⟨h0, L, P, vV, vL, vT, vC, gs, h1, iS1, h3, h4, h5, h6, h7, h8, h9, hP, h11, h12, h13, h14⟩ := h
  have hpat := fun (w' : World) (hle : (heapOf w).le (heapOf w')) => pat_nat (hP.le hle) (f / 2)
  clear hf h0 h1 h3 h4 h5 h6 h7 h8 h9 hP h11 h12 h13 h14
  simp only [Bool.not_true, Bool.false_eq_true, if_false, Int.toNat_natCast]
  have hS : Sat w (heapOf w) ([] ++ []) w := Sat.start w
  have key : ∀ n : G.Nd, ndW (f / 2) (s.pl.nd (f / 2)) = .agg #[nv (f / 2), nv n.v, nv n.lo, nv n.hi, nv n.refs] ∨ ndW (f / 2) (s.pl.nd (f / 2)) ≠ .agg #[nv (f / 2), nv n.v, nv n.lo, nv n.hi, nv n.refs] := fun n => Classical.em _
  clear key
  cases hn : s.nd (f / 2) with
  | none =>
    rw [show s.pl.nd (f / 2) = none from hn] at hpat
    have HA := Lib.hid hpat
    have HV5 := Lib.hid (ndW_cells (f / 2) none).1
    have HV1 := Lib.hid (ndW_cells (f / 2) none).2
    clear hpat hn
    go_enter Try.func34, Try.ntmps34
    go_wp2_with (first | (go_at_call 32; (with_reducible refine Calls.mono (HI.out _ hS.ile) ?_); rintro e w2 ⟨rfl, hb⟩; replace hS := hS.below_ hb; clear hb))
    refine region_fnV [[], [0], [0, 1], [0, 1, 2], [], [4], [0, 1, 2, 3, 4, 5], [0, 1, 2, 3, 4, 5, 6], [0, 1, 2, 3, 4, 5, 6, 7], [0, 1, 2, 3, 4, 5, 6, 7], [], [0, 1, 2, 3, 4, 5, 6, 7, 8, 10], [0, 1, 2, 3, 4, 5, 6, 7, 8, 9, 10, 11]] _ _ [] _ [⟨10, 11, 59, #[.int .i64 0, .int .i64 0, .int .i64 0, .int .i64 0, .int .i64 0], fun cs _ => cs = (ndW (f / 2) none).cells⟩] [fun v _ => v = vPt S, fun v _ => v = vPt S, fun v _ => v = .pointer (some ⟨S, 1, none⟩), fun v _ => v = vPt P, fun v _ => v = nv (f), fun v _ => v = nv ((f) / 2), fun v _ => v = .tuple #[ndW (f / 2) none, .bool (false)], fun v _ => v = .tuple #[ndW (f / 2) none, .bool (false)], fun v _ => v = ndW (f / 2) none, fun v _ => v = .bool (false), fun _ _ => True, fun _ _ => True, fun v _ => v = .bool (false)]
      (by kernel_rfl) (by kernel_rfl) (by simp) hS ?_ ?monoC ?okb ?dal ?fill ?plain ?fin
    · repeat (first | exact Lasting.nil | refine Lasting.cons (fun _ _ _ _ h => h) ?_)
    case monoC =>
      intro b' hb' cs J K hJK
      simp only [List.mem_cons, List.not_mem_nil, or_false] at hb'
      subst hb'
      exact fun h => h
    case okb =>
      intro b' hb'
      simp only [List.mem_cons, List.not_mem_nil, or_false] at hb'
      subst hb'
      exact ⟨by simp, ⟨rfl, rfl, rfl⟩, ⟨_, zeroB_eq ty_z59, rfl⟩, ⟨rfl, rfl, _, rfl⟩, by simp, sizeB_eq ty_sz59⟩
    case dal =>
      intro b' hb' v' J
      simp only [List.mem_cons, List.not_mem_nil, or_false] at hb'
      subst hb'
      exact ⟨trivial, trivial⟩
    case fill =>
      intro b' hb' vals J hJ hg
      simp only [List.mem_cons, List.not_mem_nil, or_false] at hb'
      subst hb'
      simp only [zH, zI, Given, Facts] at hg
      refine ⟨ndW (f / 2) none, by simp only [storeArg, textL, actL, dstAt, opAt, zH, zI, zA, zB, zK, if_true, Act.put, zE, zF, zG, Act.eval, zD, zC, zJ, hg], HV5.out, HV1.out, rfl⟩
    case plain =>
      repeat' (first | exact trivial | apply And.intro)
      all_goals first
        | (refine .inl (by rfl))
        | ((refine .inr ?_; intro vals J bs w hg hJ hS; simp only [zH, zI, Given, Facts] at hg; simp only [textL, actL, dstAt, opAt, zH, zI, zA, zB, zK, if_true, Act.put, zE, zF, zG, hg]; refine ⟨?_⟩; refine wpStep_of (fun K hK => ?_); have HK := Lib.hid hK; clear hK; rw [if_pos (by rfl)]; (first | ((with_reducible refine atLoad ?_); first | ((refine' wp_ldi1 (v := _) hS hJ ?ha rfl ?hc ?_); (case ha => first | exact ty_agg67); (case hc => assumption))) | (go_wp2_with (first | (go_at_call 50; (with_reducible refine Calls.mono (HN.out _) ?_); rintro e w2 ⟨rfl, rfl⟩) | (go_at_call 49; ((with_reducible refine Calls.mono (HA.out _ (PH.le.trans hJ hS.ile)) ?_); rintro e w2 ⟨rfl, hb2⟩; have hS2 := hS.below_ hb2; clear hS hb2; have hS := hS2; clear hS2))))); (first | refine HK.out _ _ ⟨rfl, J, PH.le.refl _, hS, ?_⟩ | refine HK.out _ _ ⟨rfl, _, hJ2, hS, ?_⟩); clear HK; simp only [Facts, outOf, zH, zI, Act.put, zE, zF, zG, zD, zC, zA, zB, zJ]); done)

    case fin =>
      intro vals J9 bs w1 hJ9 hg hS hB
      cases hB with
      | cons h1 hB =>
      cases hB
      simp only [Bx.st, if_true] at h1
      obtain ⟨Y, cY, eY, rfl, zY, rfl⟩ := h1
      have e10 : vals 10 = vPt Y := eY
      clear HA HV5 HV1
      have hS := hS.less hJ9
      simp only [List.nil_append, List.cons_append] at hS
      have hS : Sat w (heapOf w) [PH.one Y (.cells #[.int .i64 0, .int .i64 0, .int .i64 0, .int .i64 0, .int .i64 0] 59)] w1 := hS
      simp only [List.length_cons, List.length_nil, Nat.reduceAdd, Below_, Facts, zH, zI, true_and, and_true] at hg; simp only [List.length_cons, List.length_nil, Nat.reduceAdd, textL, actL, dstAt, opAt, zH, zI, zA, zB, zK, if_true, Act.put, zE, zF, zG, hg]; refine ⟨?_⟩
      clear hg
      simp only [e10]
      go_wp2_with (first | ((with_reducible refine atList ?_); first | ((with_reducible refine isLoad ?_); (first | (refine ld1 0 hS rfl rfl ?ha rfl rfl rfl ?_; (case ha => exact ty_agg3)) | ((refine' ldI1 (v := _) hS rfl rfl ?ha rfl ?hb ?_); (case ha => exact ty_agg3); (case hb => assumption))); (try simp only [Act.put, zE, zF, zG])) | ((with_reducible refine isStore ?_); (first | (refine stN 0 hS rfl rfl rfl rfl rfl ?ha rfl rfl ?_; (case ha => exact ty_sz59))); clear hS; intro w hS; (try simp only [zF, zG, zE, Act.eval, zD, zC, zA, zB, zJ, Value.cells] at hS); (try simp only [Act.put, zE, zF, zG])) | ((with_reducible refine isAlloc ?_); (refine' al (z := _) hS rfl rfl ?ha ?_); (case ha => exact ty_z59); clear hS; intro X w hS; (try simp only [Act.eval, zD, zC, zA, zB, zJ, Value.cells] at hS); (try simp only [Act.put, zE, zF, zG]))))
      go_ret
      exact ⟨rfl, hS.end_ (PH.le.refl _)⟩
  | some n =>
    rw [show s.pl.nd (f / 2) = some n from hn] at hpat
    have HA := Lib.hid hpat
    have HV5 := Lib.hid (ndW_cells (f / 2) (some n)).1
    have HV1 := Lib.hid (ndW_cells (f / 2) (some n)).2
    clear hpat hn
    go_enter Try.func34, Try.ntmps34
    go_wp2_with (first | (go_at_call 32; (with_reducible refine Calls.mono (HI.out _ hS.ile) ?_); rintro e w2 ⟨rfl, hb⟩; replace hS := hS.below_ hb; clear hb))
    refine region_fnV [[], [0], [0, 1], [0, 1, 2], [], [4], [0, 1, 2, 3, 4, 5], [0, 1, 2, 3, 4, 5, 6], [0, 1, 2, 3, 4, 5, 6, 7], [0, 1, 2, 3, 4, 5, 6, 7], [], [0, 1, 2, 3, 4, 5, 6, 7, 8, 10], [0, 1, 2, 3, 4, 5, 6, 7, 8, 9, 10, 11]] _ _ [] _ [⟨10, 11, 59, #[.int .i64 0, .int .i64 0, .int .i64 0, .int .i64 0, .int .i64 0], fun cs _ => cs = (ndW (f / 2) (some n)).cells⟩] [fun v _ => v = vPt S, fun v _ => v = vPt S, fun v _ => v = .pointer (some ⟨S, 1, none⟩), fun v _ => v = vPt P, fun v _ => v = nv (f), fun v _ => v = nv ((f) / 2), fun v _ => v = .tuple #[ndW (f / 2) (some n), .bool (true)], fun v _ => v = .tuple #[ndW (f / 2) (some n), .bool (true)], fun v _ => v = ndW (f / 2) (some n), fun v _ => v = .bool (true), fun _ _ => True, fun _ _ => True, fun v _ => v = .bool (true)]
      (by kernel_rfl) (by kernel_rfl) (by simp) hS ?_ ?monoC ?okb ?dal ?fill ?plain ?fin
    · repeat (first | exact Lasting.nil | refine Lasting.cons (fun _ _ _ _ h => h) ?_)
    case monoC =>
      intro b' hb' cs J K hJK
      simp only [List.mem_cons, List.not_mem_nil, or_false] at hb'
      subst hb'
      exact fun h => h
    case okb =>
      intro b' hb'
      simp only [List.mem_cons, List.not_mem_nil, or_false] at hb'
      subst hb'
      exact ⟨by simp, ⟨rfl, rfl, rfl⟩, ⟨_, zeroB_eq ty_z59, rfl⟩, ⟨rfl, rfl, _, rfl⟩, by simp, sizeB_eq ty_sz59⟩
    case dal =>
      intro b' hb' v' J
      simp only [List.mem_cons, List.not_mem_nil, or_false] at hb'
      subst hb'
      exact ⟨trivial, trivial⟩
    case fill =>
      intro b' hb' vals J hJ hg
      simp only [List.mem_cons, List.not_mem_nil, or_false] at hb'
      subst hb'
      simp only [zH, zI, Given, Facts] at hg
      refine ⟨ndW (f / 2) (some n), by simp only [storeArg, textL, actL, dstAt, opAt, zH, zI, zA, zB, zK, if_true, Act.put, zE, zF, zG, Act.eval, zD, zC, zJ, hg], HV5.out, HV1.out, rfl⟩
    case plain =>
      repeat' (first | exact trivial | apply And.intro)
      all_goals first
        | (refine .inl (by rfl))
        | ((refine .inr ?_; intro vals J bs w hg hJ hS; simp only [zH, zI, Given, Facts] at hg; simp only [textL, actL, dstAt, opAt, zH, zI, zA, zB, zK, if_true, Act.put, zE, zF, zG, hg]; refine ⟨?_⟩; refine wpStep_of (fun K hK => ?_); have HK := Lib.hid hK; clear hK; rw [if_pos (by rfl)]; (first | ((with_reducible refine atLoad ?_); first | ((refine' wp_ldi1 (v := _) hS hJ ?ha rfl ?hc ?_); (case ha => first | exact ty_agg67); (case hc => assumption))) | (go_wp2_with (first | (go_at_call 50; (with_reducible refine Calls.mono (HN.out _) ?_); rintro e w2 ⟨rfl, rfl⟩) | (go_at_call 49; ((with_reducible refine Calls.mono (HA.out _ (PH.le.trans hJ hS.ile)) ?_); rintro e w2 ⟨rfl, hb2⟩; have hS2 := hS.below_ hb2; clear hS hb2; have hS := hS2; clear hS2))))); (first | refine HK.out _ _ ⟨rfl, J, PH.le.refl _, hS, ?_⟩ | refine HK.out _ _ ⟨rfl, _, hJ2, hS, ?_⟩); clear HK; simp only [Facts, outOf, zH, zI, Act.put, zE, zF, zG, zD, zC, zA, zB, zJ]); done)

    case fin =>
      intro vals J9 bs w1 hJ9 hg hS hB
      cases hB with
      | cons h1 hB =>
      cases hB
      simp only [Bx.st, if_true] at h1
      obtain ⟨Y, cY, eY, rfl, zY, rfl⟩ := h1
      have e10 : vals 10 = vPt Y := eY
      clear HA HV5 HV1
      have hS := hS.less hJ9
      simp only [List.nil_append, List.cons_append] at hS
      have hS : Sat w (heapOf w) [PH.one Y (.cells #[nv (f / 2), nv n.v, nv n.lo, nv n.hi, nv n.refs] 59)] w1 := hS
      simp only [List.length_cons, List.length_nil, Nat.reduceAdd, Below_, Facts, zH, zI, true_and, and_true] at hg; simp only [List.length_cons, List.length_nil, Nat.reduceAdd, textL, actL, dstAt, opAt, zH, zI, zA, zB, zK, if_true, Act.put, zE, zF, zG, hg]; refine ⟨?_⟩
      clear hg
      simp only [e10]
      go_wp2_with (first | ((with_reducible refine atList ?_); first | ((with_reducible refine isLoad ?_); (first | (refine ld1 0 hS rfl rfl ?ha rfl rfl rfl ?_; (case ha => exact ty_agg3)) | ((refine' ldI1 (v := _) hS rfl rfl ?ha rfl ?hb ?_); (case ha => exact ty_agg3); (case hb => assumption))); (try simp only [Act.put, zE, zF, zG])) | ((with_reducible refine isStore ?_); (first | (refine stN 0 hS rfl rfl rfl rfl rfl ?ha rfl rfl ?_; (case ha => exact ty_sz59))); clear hS; intro w hS; (try simp only [zF, zG, zE, Act.eval, zD, zC, zA, zB, zJ, Value.cells] at hS); (try simp only [Act.put, zE, zF, zG])) | ((with_reducible refine isAlloc ?_); (refine' al (z := _) hS rfl rfl ?ha ?_); (case ha => exact ty_z59); clear hS; intro X w hS; (try simp only [Act.eval, zD, zC, zA, zB, zJ, Value.cells] at hS); (try simp only [Act.put, zE, zF, zG]))))
      go_ret
      exact ⟨rfl, hS.end_ (PH.le.refl _)⟩
end Go.Proofs.Ytdhkkkhnjooioaa
