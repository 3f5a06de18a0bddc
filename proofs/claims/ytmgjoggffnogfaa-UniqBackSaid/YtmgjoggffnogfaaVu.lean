/- UniqBack: the walk. -/
import Derived.Test.YtmgjoggffnogfaaVr
namespace Go.Proofs.Ytmgjoggffnogfaa
set_option linter.unusedSimpArgs false
set_option linter.unusedVariables false
open Go.RowKit
set_option linter.unusedVariables false
theorem cut_len (es : List En) (lo hi : Int) : (cutE es lo hi).length ≤ es.length := List.length_filter_le _ _
theorem find_cut (es : List En) (lo hi : Int) : findE (cutE es lo hi) lo hi = none := by
  unfold findE cutE
  simp only [Option.map_eq_none_iff, List.find?_eq_none, List.mem_filter, decide_eq_true_eq]
  rintro e ⟨_, h⟩
  exact h
theorem cut_same {es : List En} {lo hi : Int} (h : findE es lo hi = none) : cutE es lo hi = es := by
  unfold cutE
  rw [List.filter_eq_self]
  intro e he
  have := find_none h e he
  exact decide_eq_true fun h2 => this ⟨(Prod.mk.inj h2).1, (Prod.mk.inj h2).2⟩
theorem find_put' (es : List En) (lo hi id : Int) (c : Nat) (h : findE es lo hi = none) : findE (putE es lo hi id c) lo hi = some id := by
  unfold findE putE at *
  rw [Option.map_eq_none_iff] at h
  rw [List.find?_append, h]
  simp
theorem cut_put (es : List En) (lo hi id : Int) (c : Nat) (h : findE es lo hi = none) : cutE (putE es lo hi id c) lo hi = es := by
  have h2 := cut_same h
  unfold cutE putE at *
  rw [List.filter_append, h2]
  simp
theorem cut_any (E w : World) (I : PH) (ms : List PH) (g M : Nat) (es : List En) (c : Nat) (lo hi : Int) (hS : Sat E I (tbv g M :: tbm M es c :: ms) w) (hok : MapOk (rows es) c) :
    Calls Try.prog 16 #[.pointer (some ⟨g, 0, none⟩), .int .i64 lo, .int .i64 hi] w fun e w' => ∃ cd : Int, e = .returned (.int .i64 cd) ∧ Sat E I (tbv g M :: tbm M (cutE es lo hi) c :: ms) w' := by
  cases hf : findE es lo hi with
  | none =>
    rw [cut_same hf]
    refine (cut_no E w I ms g M es c lo hi hS hf).mono ?_
    rintro e w' ⟨rfl, rfl⟩
    exact ⟨_, rfl, hS⟩
  | some i =>
    refine (cut_yes E w I ms g M es c lo hi i hS hok hf).mono ?_
    rintro e w' ⟨rfl, h⟩
    exact ⟨_, rfl, h⟩
set_option maxHeartbeats 8000000 in
set_option maxRecDepth 100000 in
theorem uback_any (W : World) (A : Option Addr) (cap : Nat) (acts : List Ac) (lo hi id : Int) (hA : RowA (heapOf W) A acts) (hcap : acts.length ≤ maxLen) :
    Calls Try.prog 5 #[.slice A acts.length cap, .int .i64 lo, .int .i64 hi, .int .i64 id] W fun e w' => e = .returned (.bool true) ∧ Below W.heap.size W w' := by
  have hS := Sat.start W
  have hm : (acts.length : Int) ≤ 9223372036854775807 := by unfold maxLen at hcap; omega
  have HA := Lib.hid hA
  clear hA hcap
  by_cases h60 : (acts.length : Int) > 60
  · go_enter Try.func5, Try.ntmps5
    go_wp2_with (first | (go_at_call 6; ((with_reducible refine Calls.mono (new_any _ _ _ _ hS) ?_); clear hS; rintro e w ⟨g, M, rfl, hS⟩)) | (go_at_call 7; ((with_reducible refine Calls.mono (lives_any _ _ _ _ hS) ?_); clear hS; rintro e w ⟨rfl, hS⟩)))
    go_ret
    exact ⟨rfl, hS.end_ (PH.le.refl _)⟩
  have hn : (acts.length : Int) ≤ 60 := by omega
  clear hm h60
  go_enter Try.func5, Try.ntmps5
  go_wp2_with (first | (go_at_call 6; ((with_reducible refine Calls.mono (new_any _ _ _ _ hS) ?_); clear hS; rintro e w ⟨g, M, rfl, hS⟩)))
  go_loopw [36] (fun v33 wr => ∃ (k : Nat) (es : List En) (c : Nat), k ≤ acts.length ∧ v33 = .int .i64 (k : Int) ∧ es.length ≤ k ∧ MapOk (rows es) c ∧ Sat W (heapOf W) [tbv g M, tbm M es c] wr) (fun v33 _ => acts.length - (intOf v33).toNat)
  case atStart => exact ⟨0, [], 0, Nat.zero_le _, rfl, Nat.le_refl _, MapOk.nil, hS⟩
  case round =>
    obtain ⟨k, es, c, hk, rfl, hel, hok, hS⟩ := hrel
    have k0 : (0 : Int) ≤ (k : Int) := by omega
    by_cases hlt : k < acts.length
    · obtain ⟨X, off, rfl, hcs2⟩ := HA.out.at_ hlt
      generalize acts[k] = a at *
      obtain ⟨a1, a2, a3, a4⟩ := a
      unfold Ac.cells at hcs2
      simp only at hcs2
      have ki : (k : Int) < (acts.length : Int) := by omega
      obtain ⟨hok2, hel2⟩ := doT_ok hok ⟨a1, a2, a3, a4⟩
      have CT := Lib.hid (fun w' J' ms' (h : Sat W J' (tbv g M :: tbm M es c :: ms') w') => do_any W w' J' ms' g M es c ⟨a1, a2, a3, a4⟩ hok h)
      generalize doT es c ⟨a1, a2, a3, a4⟩ = r at *
      obtain ⟨code, es2, c2⟩ := r
      simp only at hok2 hel2 CT
      have Hel2 := Lib.hid (Nat.le_trans hel2 (Nat.succ_le_succ hel))
      have Hok2 := Lib.hid hok2
      unfold Ac.agg at CT
      simp only at CT
      clear hok hel hel2 hok2
      go_wp2_with (first | ((with_reducible refine atList ?_); first | ((with_reducible refine isGuard ?_); first | go_skip | (refine guarded_yes ?hw ?_; case hw => (simp only [Region.wanted, yielded, List.getElem?_toArray, List.getElem?_cons_succ, List.getElem?_cons_zero, Option.bind_some, beq_self_eq_true]; done)) | ((refine' guarded_cases (b := _) ?hy ?_ ?_); (case hy => (simp only [yielded, List.getElem?_toArray, List.getElem?_cons_succ, List.getElem?_cons_zero, Option.bind_some]; exact rfl)); all_goals (intro hb; (try simp only [Bool.not_true, Bool.not_false] at hb); (try simp only [hb]); (try simp only [Act.put, List.setIfInBounds_toArray, List.set_cons_succ, List.set_cons_zero]); first | ((have hf : False := by (simp at hb; done)); cases hf) | ((have hf : False := by (simp at hb; omega)); cases hf) | skip))) | ((with_reducible refine isLoad ?_); first | (refine ld1 0 hS rfl rfl ?ha rfl rfl rfl ?_; (case ha => first | exact ty_agg3); (try simp only [Act.put, List.setIfInBounds_toArray, List.set_cons_succ, List.set_cons_zero])) | (refine ld1 1 hS rfl rfl ?ha rfl rfl rfl ?_; (case ha => first | exact ty_agg3); (try simp only [Act.put, List.setIfInBounds_toArray, List.set_cons_succ, List.set_cons_zero])) | (refine ld1 2 hS rfl rfl ?ha rfl rfl rfl ?_; (case ha => first | exact ty_agg3); (try simp only [Act.put, List.setIfInBounds_toArray, List.set_cons_succ, List.set_cons_zero])) | (refine ldN 0 hS rfl rfl ?ha rfl rfl ?hb ?_; (case ha => first | exact ty_agg28); (case hb => first | exact ty_sz28); (try simp only [Act.put, List.setIfInBounds_toArray, List.set_cons_succ, List.set_cons_zero])) | (refine ldN 1 hS rfl rfl ?ha rfl rfl ?hb ?_; (case ha => first | exact ty_agg28); (case hb => first | exact ty_sz28); (try simp only [Act.put, List.setIfInBounds_toArray, List.set_cons_succ, List.set_cons_zero])) | (refine ldN 2 hS rfl rfl ?ha rfl rfl ?hb ?_; (case ha => first | exact ty_agg28); (case hb => first | exact ty_sz28); (try simp only [Act.put, List.setIfInBounds_toArray, List.set_cons_succ, List.set_cons_zero])) | ((refine' ldI1 (v := _) hS rfl rfl ?ha rfl ?hb ?_); (case ha => first | exact ty_agg3); (case hb => assumption); (try simp only [Act.put, List.setIfInBounds_toArray, List.set_cons_succ, List.set_cons_zero])) | ((refine' ldIN (vs := _) hS rfl rfl ?ha rfl ?hc ?hb ?_); (case ha => first | exact ty_agg28); (case hc => assumption); (case hb => first | exact ty_sz28); (try simp only [Act.put, List.setIfInBounds_toArray, List.set_cons_succ, List.set_cons_zero]))) | ((with_reducible refine isStore ?_); first | (refine st1 0 hS rfl rfl rfl rfl rfl ?ha rfl rfl ?hb ?_; (case ha => first | exact ty_sz3); (case hb => (simp; done)); clear hS; intro w hS; (try simp only [List.set_cons_succ, List.set_cons_zero, List.setIfInBounds_toArray, Act.eval, Array.getD_eq_getD_getElem?, List.getElem?_toArray, List.getElem?_cons_succ, List.getElem?_cons_zero, Option.getD_some, Value.cells] at hS); (try simp only [Act.put, List.setIfInBounds_toArray, List.set_cons_succ, List.set_cons_zero])) | (refine st1 1 hS rfl rfl rfl rfl rfl ?ha rfl rfl ?hb ?_; (case ha => first | exact ty_sz3); (case hb => (simp; done)); clear hS; intro w hS; (try simp only [List.set_cons_succ, List.set_cons_zero, List.setIfInBounds_toArray, Act.eval, Array.getD_eq_getD_getElem?, List.getElem?_toArray, List.getElem?_cons_succ, List.getElem?_cons_zero, Option.getD_some, Value.cells] at hS); (try simp only [Act.put, List.setIfInBounds_toArray, List.set_cons_succ, List.set_cons_zero])) | (refine st1 2 hS rfl rfl rfl rfl rfl ?ha rfl rfl ?hb ?_; (case ha => first | exact ty_sz3); (case hb => (simp; done)); clear hS; intro w hS; (try simp only [List.set_cons_succ, List.set_cons_zero, List.setIfInBounds_toArray, Act.eval, Array.getD_eq_getD_getElem?, List.getElem?_toArray, List.getElem?_cons_succ, List.getElem?_cons_zero, Option.getD_some, Value.cells] at hS); (try simp only [Act.put, List.setIfInBounds_toArray, List.set_cons_succ, List.set_cons_zero])) | (refine stN 0 hS rfl rfl rfl rfl rfl ?ha rfl rfl ?_; (case ha => first | exact ty_sz28); clear hS; intro w hS; (try simp only [List.set_cons_succ, List.set_cons_zero, List.setIfInBounds_toArray, Act.eval, Array.getD_eq_getD_getElem?, List.getElem?_toArray, List.getElem?_cons_succ, List.getElem?_cons_zero, Option.getD_some, Value.cells] at hS); (try simp only [Act.put, List.setIfInBounds_toArray, List.set_cons_succ, List.set_cons_zero])) | (refine stN 1 hS rfl rfl rfl rfl rfl ?ha rfl rfl ?_; (case ha => first | exact ty_sz28); clear hS; intro w hS; (try simp only [List.set_cons_succ, List.set_cons_zero, List.setIfInBounds_toArray, Act.eval, Array.getD_eq_getD_getElem?, List.getElem?_toArray, List.getElem?_cons_succ, List.getElem?_cons_zero, Option.getD_some, Value.cells] at hS); (try simp only [Act.put, List.setIfInBounds_toArray, List.set_cons_succ, List.set_cons_zero])) | (refine stN 2 hS rfl rfl rfl rfl rfl ?ha rfl rfl ?_; (case ha => first | exact ty_sz28); clear hS; intro w hS; (try simp only [List.set_cons_succ, List.set_cons_zero, List.setIfInBounds_toArray, Act.eval, Array.getD_eq_getD_getElem?, List.getElem?_toArray, List.getElem?_cons_succ, List.getElem?_cons_zero, Option.getD_some, Value.cells] at hS); (try simp only [Act.put, List.setIfInBounds_toArray, List.set_cons_succ, List.set_cons_zero]))) | ((with_reducible refine isBox ?_); refine bx hS rfl rfl rfl ?_; clear hS; intro X w hS; (try simp only [Act.eval, Array.getD_eq_getD_getElem?, List.getElem?_toArray, List.getElem?_cons_succ, List.getElem?_cons_zero, Option.getD_some, Value.cells] at hS); (try simp only [Act.put, List.setIfInBounds_toArray, List.set_cons_succ, List.set_cons_zero])) | ((with_reducible refine isAlloc ?_); (refine' al (z := _) hS rfl rfl ?ha ?_); (case ha => first | exact ty_z28 | exact ty_z3); clear hS; intro X w hS; (try simp only [Act.eval, Array.getD_eq_getD_getElem?, List.getElem?_toArray, List.getElem?_cons_succ, List.getElem?_cons_zero, Option.getD_some, Value.cells] at hS); (try simp only [Act.put, List.setIfInBounds_toArray, List.set_cons_succ, List.set_cons_zero]))) | (go_at_call 9; ((with_reducible refine Calls.mono (CT.out _ _ _ (rot2 hS)) ?_); clear hS; rintro e w ⟨rfl, hS⟩)))
      exact ⟨⟨k + 1, es2, c2, by omega, by go_num, Hel2.out, Hok2.out, unrot2 (x := _) (ms := []) hS⟩, by simp [intOf]; omega⟩
    · have hl : (outE (cutE es lo hi)).take ((100 : Int).toNat) = outE (cutE es lo hi) := List.take_of_length_le (by rw [out_len]; have := cut_len es lo hi; show _ ≤ 100; omega)
      have hok1 := hok.cute lo hi
      have hf1 := find_cut es lo hi
      have hlen1 := cut_len es lo hi
      have CC := Lib.hid (fun w' ms' (h : Sat W (heapOf W) (tbv g M :: tbm M es c :: ms') w') => cut_any W w' _ ms' g M es c lo hi h hok)
      generalize cutE es lo hi = es1 at *
      have CTO := Lib.hid (fun w' ms' (h : Sat W (heapOf W) (tbv g M :: tbm M es1 c :: ms') w') => told_law W w' _ ms' g M es1 c 100 hok1 (by omega) h)
      have hok2 := hok1.pute hf1 id
      have hf2 := find_put' es1 lo hi id c hf1
      have hc2 := cut_put es1 lo hi id c hf1
      have hlen2 : (putE es1 lo hi id c).length = es1.length + 1 := by simp [putE]
      have CPU := Lib.hid (fun w' J ms' (h : Sat W J (tbv g M :: tbm M es1 c :: ms') w') => put_yes W w' J ms' g M es1 c lo hi id h hok1 hf1)
      have CFI := Lib.hid (fun w' (h : TbIn (heapOf w') g M (putE es1 lo hi id c) (c + 1)) => find_any w' g M _ _ lo hi h)
      have CLE := Lib.hid (fun w' (h : TbIn (heapOf w') g M (putE es1 lo hi id c) (c + 1)) => len_any w' g M _ _ h)
      have CCU := Lib.hid (fun w' J ms' (h : Sat W J (tbv g M :: tbm M (putE es1 lo hi id c) (c + 1) :: ms') w') => cut_yes W w' J ms' g M _ (c + 1) lo hi id h hok2 hf2)
      have hok3 : MapOk (rows es1) (c + 1) := by rw [← hc2]; exact hok2.cute lo hi
      have CT3 := Lib.hid (fun w' J ms' (h : Sat W J (tbv g M :: tbm M es1 (c + 1) :: ms') w') => told_law W w' J ms' g M es1 (c + 1) 100 hok3 (by omega) h)
      rw [hf2] at CFI
      rw [hc2] at CCU
      rw [hl] at CTO CT3
      have hxl := out_len es1
      rw [hlen2] at CLE
      simp only [Option.getD_some, Option.isSome_some] at CFI
      have hxs : (outE es1).length ≤ 60 := by omega
      rw [← hxl] at CLE
      generalize outE es1 = xs at *
      generalize putE es1 lo hi id c = es2 at *
      have hx0 : (0 : Int) ≤ (xs.length : Int) := by omega
      have hx1 : (xs.length : Int) ≤ 60 := by omega
      clear hl hok hok1 hf1 hlen1 hok2 hf2 hc2 hlen2 hok3 hxl hel
      go_wp2_with (first | (go_at_call 16; ((with_reducible refine Calls.mono (CC.out _ _ hS) ?_); clear hS; rintro e w ⟨cd, rfl, hS⟩)) | (go_at_call 13; ((with_reducible refine Calls.mono (CTO.out _ _ hS) ?_); clear hS; rintro e w ⟨vt, mo, rfl, hO, hS⟩; refine Held_.in_ ?_)))
      refine Held_.out ?_
      obtain ⟨J2, j1, j2, hS2⟩ := frz1 hS
      have hRO := hO.row j2
      have hS := hS2
      clear hS2 hO j2
      have hRO2 := hRO
      obtain ⟨Aa, ca, rfl, hca, hcm, h8⟩ := hRO2
      have HRO := Lib.hid hRO
      have HJ := Lib.hid j1
      clear hRO j1 hca hcm h8
      go_wp2_with (first | (go_at_call 15; ((with_reducible refine Calls.mono (CPU.out _ _ _ hS) ?_); clear hS; rintro e w ⟨rfl, hS⟩)) | (go_at_call 11; (have hT := hS.tb (g := g) (M := M) (es := es2) (c := c + 1) (.head _) (.tail _ (.head _)); (with_reducible refine Calls.mono (CFI.out _ hT) ?_); clear hT; rintro e w' ⟨rfl, rfl⟩)) | (go_at_call 12; (have hT := hS.tb (g := g) (M := M) (es := es2) (c := c + 1) (.head _) (.tail _ (.head _)); (with_reducible refine Calls.mono (CLE.out _ hT) ?_); clear hT; rintro e w' ⟨rfl, rfl⟩)) | (go_at_call 16; ((with_reducible refine Calls.mono (CCU.out _ _ _ hS) ?_); clear hS; rintro e w ⟨rfl, hS⟩)) | (go_at_call 13; ((with_reducible refine Calls.mono (CT3.out _ _ _ hS) ?_); clear hS; rintro e w ⟨vt, mo, rfl, hO, hS⟩; refine Held_.in_ ?_)))
      refine Held_.out ?_
      obtain ⟨J3, j3, j4, hS3⟩ := frz1 hS
      have hRM := hO.row j4
      have hS := hS3
      clear hS3 hO j4
      have CS := Lib.hid (fun w' ms' (h : Sat W J3 ms' w') => lsame_any W w' J3 ms' _ _ xs (HRO.out.le j3) hRM (by omega) h)
      have HJ3 := Lib.hid (HJ.out.trans j3)
      clear j3 hRM HRO HJ CT3 CTO CPU CFI CLE CCU CC
      go_wp2_with (first | (go_at_call 7; ((with_reducible refine Calls.mono (lives_any _ _ _ _ hS) ?_); clear hS; rintro e w ⟨rfl, hS⟩)) | (go_at_call 14; ((with_reducible refine Calls.mono (CS.out _ _ hS) ?_); clear hS; rintro e w ⟨rfl, hS⟩)))
      go_ret
      exact ⟨rfl, hS.end_ HJ3.out⟩
end Go.Proofs.Ytmgjoggffnogfaa
