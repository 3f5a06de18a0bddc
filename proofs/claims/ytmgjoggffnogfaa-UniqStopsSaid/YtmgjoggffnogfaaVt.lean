/- UniqStops: the walk. -/
import Derived.Test.YtmgjoggffnogfaaVr
namespace Go.Proofs.Ytmgjoggffnogfaa
set_option linter.unusedSimpArgs false
set_option linter.unusedVariables false
open Go.RowKit
set_option linter.unusedVariables false
theorem RowN.take {J : PH} {A : Option Addr} {xs : List Ne} {c : Nat} (h : RowN J (.slice A xs.length c) xs) (k : Nat) (hk : k ≤ xs.length) : RowN J (.slice A k c) (xs.take k) := by
  have hl : (xs.take k).length = k := by simp; omega
  obtain ⟨A', c', e, h2, h3, h4⟩ := h
  injection e with e1 _ e3
  subst e1 e3
  refine ⟨A, c, by rw [hl], by rw [hl]; omega, h3, fun hn => ?_⟩
  rw [hl] at hn
  obtain ⟨X, off, rfl, hc⟩ := h4 (by omega)
  refine ⟨X, off, rfl, fun j v hj => hc j v ?_⟩
  have e2 : xs.flatMap Ne.cells = (xs.take k).flatMap Ne.cells ++ (xs.drop k).flatMap Ne.cells := by rw [← List.flatMap_append, List.take_append_drop]
  rw [e2, List.getElem?_append_left (List.getElem?_eq_some_iff.1 hj).1]
  exact hj
theorem isMin {P : Program} {a : Act} {w : World} {Q : Exit → Act → World → Prop} {ops : Array Oper} {rest : List Oper} {dst : Option Tmp} {type : TypeId} {pos : String} {after : Array Edge} {x y : Operand} {t t' : TypeId} {p q r : Int}
    (hx : a.eval x = .int .i64 p) (hy : a.eval y = .int .i64 q) (hr : (if q < p then q else p) = r) (h : wpList P ops Q rest (a.put dst (.int .i64 r)) w) :
    wpList P ops Q (⟨dst, .call { callee := .builtin .min, args := #[x, y], argTypes := #[t, t'] }, type, pos, after, none⟩ :: rest) a w :=
  wpList_plain rfl fun _ hK => by
    unfold Oper.wp execOp
    simp only [resolve, invoke, builtin, Sem.run_bind, Sem.run_pure, Result.andThen_ok, List.map_toArray, List.map_cons, List.map_nil, hx, hy, Builtin.min_, List.foldlM_cons, List.foldlM_nil, Builtin.min2, hr]
    exact hK _ _ h
set_option maxHeartbeats 8000000 in
set_option maxRecDepth 100000 in
theorem ustops_any (W : World) (A : Option Addr) (cap : Nat) (acts : List Ac) (most : Int) (hA : RowA (heapOf W) A acts) (hcap : acts.length ≤ maxLen) :
    Calls Try.prog 4 #[.slice A acts.length cap, .int .i64 most] W fun e w' => e = .returned (.bool true) ∧ Below W.heap.size W w' := by
  have hS := Sat.start W
  have hm : (acts.length : Int) ≤ 9223372036854775807 := by unfold maxLen at hcap; omega
  have HA := Lib.hid hA
  clear hA hcap
  by_cases h60 : (acts.length : Int) > 60
  · go_enter Try.func4, Try.ntmps4
    go_wp2_with (first | (go_at_call 11; refine (nil_find _ _ _).mono ?_; rintro e w' ⟨rfl, rfl⟩) | (go_at_call 12; refine (nil_len _).mono ?_; rintro e w' ⟨rfl, rfl⟩) | (go_at_call 15; refine (nil_put _ _ _ _).mono ?_; rintro e w' ⟨rfl, rfl⟩) | (go_at_call 16; refine (nil_cut _ _ _).mono ?_; rintro e w' ⟨rfl, rfl⟩) | (go_at_call 17; refine (nil_clear _).mono ?_; rintro e w' ⟨rfl, rfl⟩) | (go_at_call 6; ((with_reducible refine Calls.mono (new_any _ _ _ _ hS) ?_); clear hS; rintro e w ⟨g, M, rfl, hS⟩)) | (go_at_call 7; ((with_reducible refine Calls.mono (lives_any _ _ _ _ hS) ?_); clear hS; rintro e w ⟨rfl, hS⟩)))
    go_ret
    exact ⟨rfl, hS.end_ (PH.le.refl _)⟩
  by_cases h1 : most < 1
  · have hn : (acts.length : Int) ≤ 60 := by omega
    go_enter Try.func4, Try.ntmps4
    go_wp2_with (first | (go_at_call 11; refine (nil_find _ _ _).mono ?_; rintro e w' ⟨rfl, rfl⟩) | (go_at_call 12; refine (nil_len _).mono ?_; rintro e w' ⟨rfl, rfl⟩) | (go_at_call 15; refine (nil_put _ _ _ _).mono ?_; rintro e w' ⟨rfl, rfl⟩) | (go_at_call 16; refine (nil_cut _ _ _).mono ?_; rintro e w' ⟨rfl, rfl⟩) | (go_at_call 17; refine (nil_clear _).mono ?_; rintro e w' ⟨rfl, rfl⟩) | (go_at_call 6; ((with_reducible refine Calls.mono (new_any _ _ _ _ hS) ?_); clear hS; rintro e w ⟨g, M, rfl, hS⟩)) | (go_at_call 7; ((with_reducible refine Calls.mono (lives_any _ _ _ _ hS) ?_); clear hS; rintro e w ⟨rfl, hS⟩)))
    go_ret
    exact ⟨rfl, hS.end_ (PH.le.refl _)⟩
  by_cases h2 : most > 60
  · have hn : (acts.length : Int) ≤ 60 := by omega
    have hq : 1 ≤ most := by omega
    go_enter Try.func4, Try.ntmps4
    go_wp2_with (first | (go_at_call 11; refine (nil_find _ _ _).mono ?_; rintro e w' ⟨rfl, rfl⟩) | (go_at_call 12; refine (nil_len _).mono ?_; rintro e w' ⟨rfl, rfl⟩) | (go_at_call 15; refine (nil_put _ _ _ _).mono ?_; rintro e w' ⟨rfl, rfl⟩) | (go_at_call 16; refine (nil_cut _ _ _).mono ?_; rintro e w' ⟨rfl, rfl⟩) | (go_at_call 17; refine (nil_clear _).mono ?_; rintro e w' ⟨rfl, rfl⟩) | (go_at_call 6; ((with_reducible refine Calls.mono (new_any _ _ _ _ hS) ?_); clear hS; rintro e w ⟨g, M, rfl, hS⟩)) | (go_at_call 7; ((with_reducible refine Calls.mono (lives_any _ _ _ _ hS) ?_); clear hS; rintro e w ⟨rfl, hS⟩)))
    go_ret
    exact ⟨rfl, hS.end_ (PH.le.refl _)⟩
  have hn : (acts.length : Int) ≤ 60 := by omega
  have hq : 1 ≤ most := by omega
  have hq2 : most ≤ 60 := by omega
  clear hm h60 h1 h2
  go_enter Try.func4, Try.ntmps4
  go_wp2_with (first | (go_at_call 11; refine (nil_find _ _ _).mono ?_; rintro e w' ⟨rfl, rfl⟩) | (go_at_call 12; refine (nil_len _).mono ?_; rintro e w' ⟨rfl, rfl⟩) | (go_at_call 15; refine (nil_put _ _ _ _).mono ?_; rintro e w' ⟨rfl, rfl⟩) | (go_at_call 16; refine (nil_cut _ _ _).mono ?_; rintro e w' ⟨rfl, rfl⟩) | (go_at_call 17; refine (nil_clear _).mono ?_; rintro e w' ⟨rfl, rfl⟩) | (go_at_call 6; ((with_reducible refine Calls.mono (new_any _ _ _ _ hS) ?_); clear hS; rintro e w ⟨g, M, rfl, hS⟩)))
  go_loopw [65] (fun v33 wr => ∃ (k : Nat) (es : List En) (c : Nat), k ≤ acts.length ∧ v33 = .int .i64 (k : Int) ∧ es.length ≤ k ∧ MapOk (rows es) c ∧ Sat W (heapOf W) [tbv g M, tbm M es c] wr) (fun v33 _ => acts.length - (intOf v33).toNat)
  case atStart => exact ⟨0, [], 0, Nat.zero_le _, rfl, Nat.le_refl _, MapOk.nil, hS⟩
  case round =>
    obtain ⟨k, es, c, hk, rfl, hel, hok, hS⟩ := hrel
    have k0 : (0 : Int) ≤ (k : Int) := by omega
    by_cases hlt : k < acts.length
    · obtain ⟨X, off, rfl, hcs2⟩ := HA.out.at_ hlt
      generalize acts[k] = a at *
      obtain ⟨a1, a2, a3, a4⟩ := a
      unfold Ac.cells at hcs2
      simp only at hcs2
      have ki : (k : Int) < (acts.length : Int) := by omega
      obtain ⟨hok2, hel2⟩ := doT_ok hok ⟨a1, a2, a3, a4⟩
      have CT := Lib.hid (fun w' J' ms' (h : Sat W J' (tbv g M :: tbm M es c :: ms') w') => do_any W w' J' ms' g M es c ⟨a1, a2, a3, a4⟩ hok h)
      generalize doT es c ⟨a1, a2, a3, a4⟩ = r at *
      obtain ⟨code, es2, c2⟩ := r
      simp only at hok2 hel2 CT
      have Hel2 := Lib.hid (Nat.le_trans hel2 (Nat.succ_le_succ hel))
      have Hok2 := Lib.hid hok2
      unfold Ac.agg at CT
      simp only at CT
      clear hok hel hel2 hok2
      go_wp2_with (first | ((with_reducible refine atList ?_); first | ((with_reducible refine isGuard ?_); first | go_skip | (refine guarded_yes ?hw ?_; case hw => (simp only [Region.wanted, yielded, List.getElem?_toArray, List.getElem?_cons_succ, List.getElem?_cons_zero, Option.bind_some, beq_self_eq_true]; done)) | ((refine' guarded_cases (b := _) ?hy ?_ ?_); (case hy => (simp only [yielded, List.getElem?_toArray, List.getElem?_cons_succ, List.getElem?_cons_zero, Option.bind_some]; exact rfl)); all_goals (intro hb; (try simp only [Bool.not_true, Bool.not_false] at hb); (try simp only [hb]); (try simp only [Act.put, List.setIfInBounds_toArray, List.set_cons_succ, List.set_cons_zero]); first | ((have hf : False := by (simp at hb; done)); cases hf) | ((have hf : False := by (simp at hb; omega)); cases hf) | skip))) | ((with_reducible refine isLoad ?_); first | (refine ld1 0 hS rfl rfl ?ha rfl rfl rfl ?_; (case ha => first | exact ty_agg3); (try simp only [Act.put, List.setIfInBounds_toArray, List.set_cons_succ, List.set_cons_zero])) | (refine ld1 1 hS rfl rfl ?ha rfl rfl rfl ?_; (case ha => first | exact ty_agg3); (try simp only [Act.put, List.setIfInBounds_toArray, List.set_cons_succ, List.set_cons_zero])) | (refine ld1 2 hS rfl rfl ?ha rfl rfl rfl ?_; (case ha => first | exact ty_agg3); (try simp only [Act.put, List.setIfInBounds_toArray, List.set_cons_succ, List.set_cons_zero])) | (refine ldN 0 hS rfl rfl ?ha rfl rfl ?hb ?_; (case ha => first | exact ty_agg28); (case hb => first | exact ty_sz28); (try simp only [Act.put, List.setIfInBounds_toArray, List.set_cons_succ, List.set_cons_zero])) | (refine ldN 1 hS rfl rfl ?ha rfl rfl ?hb ?_; (case ha => first | exact ty_agg28); (case hb => first | exact ty_sz28); (try simp only [Act.put, List.setIfInBounds_toArray, List.set_cons_succ, List.set_cons_zero])) | (refine ldN 2 hS rfl rfl ?ha rfl rfl ?hb ?_; (case ha => first | exact ty_agg28); (case hb => first | exact ty_sz28); (try simp only [Act.put, List.setIfInBounds_toArray, List.set_cons_succ, List.set_cons_zero])) | ((refine' ldI1 (v := _) hS rfl rfl ?ha rfl ?hb ?_); (case ha => first | exact ty_agg3); (case hb => assumption); (try simp only [Act.put, List.setIfInBounds_toArray, List.set_cons_succ, List.set_cons_zero])) | ((refine' ldIN (vs := _) hS rfl rfl ?ha rfl ?hc ?hb ?_); (case ha => first | exact ty_agg28); (case hc => assumption); (case hb => first | exact ty_sz28); (try simp only [Act.put, List.setIfInBounds_toArray, List.set_cons_succ, List.set_cons_zero]))) | ((with_reducible refine isStore ?_); first | (refine st1 0 hS rfl rfl rfl rfl rfl ?ha rfl rfl ?hb ?_; (case ha => first | exact ty_sz3); (case hb => (simp; done)); clear hS; intro w hS; (try simp only [List.set_cons_succ, List.set_cons_zero, List.setIfInBounds_toArray, Act.eval, Array.getD_eq_getD_getElem?, List.getElem?_toArray, List.getElem?_cons_succ, List.getElem?_cons_zero, Option.getD_some, Value.cells] at hS); (try simp only [Act.put, List.setIfInBounds_toArray, List.set_cons_succ, List.set_cons_zero])) | (refine st1 1 hS rfl rfl rfl rfl rfl ?ha rfl rfl ?hb ?_; (case ha => first | exact ty_sz3); (case hb => (simp; done)); clear hS; intro w hS; (try simp only [List.set_cons_succ, List.set_cons_zero, List.setIfInBounds_toArray, Act.eval, Array.getD_eq_getD_getElem?, List.getElem?_toArray, List.getElem?_cons_succ, List.getElem?_cons_zero, Option.getD_some, Value.cells] at hS); (try simp only [Act.put, List.setIfInBounds_toArray, List.set_cons_succ, List.set_cons_zero])) | (refine st1 2 hS rfl rfl rfl rfl rfl ?ha rfl rfl ?hb ?_; (case ha => first | exact ty_sz3); (case hb => (simp; done)); clear hS; intro w hS; (try simp only [List.set_cons_succ, List.set_cons_zero, List.setIfInBounds_toArray, Act.eval, Array.getD_eq_getD_getElem?, List.getElem?_toArray, List.getElem?_cons_succ, List.getElem?_cons_zero, Option.getD_some, Value.cells] at hS); (try simp only [Act.put, List.setIfInBounds_toArray, List.set_cons_succ, List.set_cons_zero])) | (refine stN 0 hS rfl rfl rfl rfl rfl ?ha rfl rfl ?_; (case ha => first | exact ty_sz28); clear hS; intro w hS; (try simp only [List.set_cons_succ, List.set_cons_zero, List.setIfInBounds_toArray, Act.eval, Array.getD_eq_getD_getElem?, List.getElem?_toArray, List.getElem?_cons_succ, List.getElem?_cons_zero, Option.getD_some, Value.cells] at hS); (try simp only [Act.put, List.setIfInBounds_toArray, List.set_cons_succ, List.set_cons_zero])) | (refine stN 1 hS rfl rfl rfl rfl rfl ?ha rfl rfl ?_; (case ha => first | exact ty_sz28); clear hS; intro w hS; (try simp only [List.set_cons_succ, List.set_cons_zero, List.setIfInBounds_toArray, Act.eval, Array.getD_eq_getD_getElem?, List.getElem?_toArray, List.getElem?_cons_succ, List.getElem?_cons_zero, Option.getD_some, Value.cells] at hS); (try simp only [Act.put, List.setIfInBounds_toArray, List.set_cons_succ, List.set_cons_zero])) | (refine stN 2 hS rfl rfl rfl rfl rfl ?ha rfl rfl ?_; (case ha => first | exact ty_sz28); clear hS; intro w hS; (try simp only [List.set_cons_succ, List.set_cons_zero, List.setIfInBounds_toArray, Act.eval, Array.getD_eq_getD_getElem?, List.getElem?_toArray, List.getElem?_cons_succ, List.getElem?_cons_zero, Option.getD_some, Value.cells] at hS); (try simp only [Act.put, List.setIfInBounds_toArray, List.set_cons_succ, List.set_cons_zero]))) | ((with_reducible refine isBox ?_); refine bx hS rfl rfl rfl ?_; clear hS; intro X w hS; (try simp only [Act.eval, Array.getD_eq_getD_getElem?, List.getElem?_toArray, List.getElem?_cons_succ, List.getElem?_cons_zero, Option.getD_some, Value.cells] at hS); (try simp only [Act.put, List.setIfInBounds_toArray, List.set_cons_succ, List.set_cons_zero])) | ((with_reducible refine isAlloc ?_); (refine' al (z := _) hS rfl rfl ?ha ?_); (case ha => first | exact ty_z28 | exact ty_z3); clear hS; intro X w hS; (try simp only [Act.eval, Array.getD_eq_getD_getElem?, List.getElem?_toArray, List.getElem?_cons_succ, List.getElem?_cons_zero, Option.getD_some, Value.cells] at hS); (try simp only [Act.put, List.setIfInBounds_toArray, List.set_cons_succ, List.set_cons_zero]))) | (go_at_call 9; ((with_reducible refine Calls.mono (CT.out _ _ _ (rot2 hS)) ?_); clear hS; rintro e w ⟨rfl, hS⟩)))
      exact ⟨⟨k + 1, es2, c2, by omega, by go_num, Hel2.out, Hok2.out, unrot2 (x := _) (ms := []) hS⟩, by simp [intOf]; omega⟩
    · have hl : (outE es).take ((100 : Int).toNat) = outE es := List.take_of_length_le (by rw [out_len]; show es.length ≤ 100; omega)
      have CTO := Lib.hid (fun w' ms' (h : Sat W (heapOf W) (tbv g M :: tbm M es c :: ms') w') => told_law W w' _ ms' g M es c 100 hok (by omega) h)
      have CTM := Lib.hid (fun w' J ms' (h : Sat W J (tbv g M :: tbm M es c :: ms') w') => told_law W w' J ms' g M es c most hok (by omega) h)
      rw [hl] at CTO
      have hxl := out_len es
      have Hxl := Lib.hid hxl
      generalize outE es = xs at *
      have hx1 : xs.length ≤ 100000 := by omega
      have hx2 : (xs.length : Int) ≤ 60 := by omega
      have hx3 : (0 : Int) ≤ (xs.length : Int) := by omega
      clear hl hok
      go_wp2_with (first | (go_at_call 13; ((with_reducible refine Calls.mono (CTO.out _ _ hS) ?_); clear hS; rintro e w ⟨vt, mo, rfl, hO, hS⟩; refine Held_.in_ ?_)))
      refine Held_.out ?_
      obtain ⟨J2, j1, j2, hS2⟩ := frz1 hS
      have hRO := hO.row j2
      have hS := hS2
      clear hS2 hO j2
      obtain ⟨Aa, ca, rfl, hca, hcm, h8⟩ := id hRO
      clear h8
      have HRO := Lib.hid hRO
      have HJ := Lib.hid j1
      have hcai : (xs.length : Int) ≤ (ca : Int) := by omega
      clear hRO j1 hca hcm
      go_wp2_with (first | (go_at_call 13; ((with_reducible refine Calls.mono (CTM.out _ _ _ hS) ?_); clear hS; rintro e w ⟨vt, mo, rfl, hO, hS⟩; refine Held_.in_ ?_)))
      refine Held_.out ?_
      obtain ⟨J3, j3, j4, hS3⟩ := frz1 hS
      have hRM := hO.row j4
      have hS := hS3
      clear hS3 hO j4
      obtain ⟨Am, cm, rfl, hcb, hcn, h8⟩ := id hRM
      clear h8
      have hll : (xs.take most.toNat).length = min most.toNat xs.length := List.length_take
      have hTK := (HRO.out.le j3).take ((xs.take most.toNat).length) (by rw [hll]; omega)
      have hee : xs.take ((xs.take most.toNat).length) = xs.take most.toNat := by
        rw [hll]
        rcases Nat.le_total most.toNat xs.length with h | h
        · rw [Nat.min_eq_left h]
        · rw [Nat.min_eq_right h, List.take_of_length_le h]; simp
      rw [hee] at hTK
      have CS := Lib.hid (fun w' ms' (h : Sat W J3 ms' w') => lsame_any W w' J3 ms' _ _ (xs.take most.toNat) hRM hTK (by rw [hll]; omega) h)
      have HJ3 := Lib.hid (HJ.out.trans j3)
      generalize hlg : (xs.take most.toNat).length = ln at *
      have ln0 : (0 : Int) ≤ (ln : Int) := by omega
      have ln1 : (ln : Int) ≤ (xs.length : Int) := by omega
      have ln2 : (ln : Int) ≤ 60 := by omega
      have ln3 : ln ≤ ca := by omega
      clear j3 hRM hTK hee hcb hcn HRO HJ CTM CTO hxl
      have Hll := Lib.hid hll
      clear hlg ln1 ln2 ln3 ln0
      go_wp2_with (first | (go_at_call 7; ((with_reducible refine Calls.mono (lives_any _ _ _ _ hS) ?_); clear hS; rintro e w ⟨rfl, hS⟩)))
      · have e1 : min most.toNat xs.length = ln := Hll.out.symm
        have e2 : (min most (es.length : Int)).toNat = ln := by have := Hxl.out; omega
        rw [e1, e2]
        refine Calls.mono (CS.out _ _ hS) ?_
        clear hS
        rintro e w ⟨rfl, hS⟩
        clear hll e1 e2
        go_wp2
        go_ret
        exact ⟨rfl, hS.end_ HJ3.out⟩
      · rename_i hne
        have hf : False := by have := Hxl.out; omega
        cases hf
end Go.Proofs.Ytmgjoggffnogfaa
