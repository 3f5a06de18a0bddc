/- UniqPlays: the walk. -/
import Derived.Test.YtmgjoggffnogfaaVq
namespace Go.Proofs.Ytmgjoggffnogfaa
set_option linter.unusedSimpArgs false
set_option linter.unusedVariables false
open Go.RowKit
set_option linter.unusedVariables false
theorem enc_ne (es : List En) (n : Nat) : ((srtE es).take n).flatMap (encN es) = ((outE es).take n).flatMap Ne.cells := by
  unfold outE
  rw [← List.map_take, List.flatMap_map]
  rfl
theorem told_law (E w : World) (I : PH) (ms : List PH) (g M : Nat) (es : List En) (c : Nat) (most : Int) (hok : MapOk (rows es) c) (hlen : es.length ≤ 100000) (hS : Sat E I (tbv g M :: tbm M es c :: ms) w) :
    Calls Try.prog 13 #[.pointer (some ⟨g, 0, none⟩), .int .i64 most] w fun e w' => ∃ v mo, e = .returned (.tuple #[v, .bool true]) ∧ OwnP mo 38 3 v ((outE es).take most.toNat).length (((outE es).take most.toNat).flatMap Ne.cells) ∧ Sat E I (mo :: tbv g M :: tbm M es c :: ms) w' := by
  have f1 := hS.freeze
  have f2 := f1.freeze
  have o1 : I.off (tbv g M) := hS.off (.head _)
  have o2 : (I.join (tbv g M)).off (tbm M es c) := f1.off (.head _)
  refine (told_in E w _ ms g M es c most hok hlen ?_ ?_ f2).mono ?_
  · exact PH.le_join _ _ _ _ (PH.le_join_right o1 _ _ (PH.one_self _ _))
  · exact PH.le_join_right o2 _ _ (PH.one_self _ _)
  · rintro e w' ⟨v, mo, rfl, hO, hS'⟩
    have hl : ((srtE es).take most.toNat).length = ((outE es).take most.toNat).length := by unfold outE; simp
    rw [enc_ne, hl] at hO
    exact ⟨v, mo, rfl, hO, ((hS'.thaw o2).thaw o1).perm ((List.Perm.cons _ (List.Perm.swap _ _ _)).trans (List.Perm.swap _ _ _))⟩
/-- A slice of operations that comes in. -/
def RowA (J : PH) (A : Option Addr) (xs : List Ac) : Prop := 0 < xs.length → ∃ X off, A = some ⟨X, off, none⟩ ∧ Cells J X off (xs.flatMap Ac.cells)
theorem flat4 : ∀ (xs : List Ac) (k : Nat) (n : Ac), xs[k]? = some n → ∀ j v, n.cells[j]? = some v → (xs.flatMap Ac.cells)[k * 4 + j]? = some v
  | [], _, _, h, _, _, _ => by simp at h
  | x :: xs, 0, n, h, j, v, hj => by
    simp at h; subst h
    rw [List.flatMap_cons, Nat.zero_mul, Nat.zero_add, List.getElem?_append_left (List.getElem?_eq_some_iff.1 hj).1]
    exact hj
  | x :: xs, k + 1, n, h, j, v, hj => by
    have h4 : x.cells.length = 4 := rfl
    rw [List.flatMap_cons, List.getElem?_append_right (by rw [h4]; omega), h4, show (k + 1) * 4 + j - 4 = k * 4 + j by omega]
    exact flat4 xs k n (by simpa using h) j v hj
theorem RowA.at_ {J : PH} {A : Option Addr} {xs : List Ac} (h : RowA J A xs) {k : Nat} (hk : k < xs.length) : ∃ X off, A = some ⟨X, off, none⟩ ∧ Cells J X (off + k * 4) xs[k].cells := by
  obtain ⟨X, off, rfl, hc⟩ := h (by omega)
  refine ⟨X, off, rfl, fun j v hj => ?_⟩
  rw [Nat.add_assoc]
  exact hc _ _ (flat4 xs k _ (List.getElem?_eq_getElem hk) j v hj)
set_option maxHeartbeats 4000000 in
set_option maxRecDepth 100000 in
theorem uplays_any (W : World) (A : Option Addr) (cap : Nat) (acts : List Ac) (lo hi : Int) (hA : RowA (heapOf W) A acts) (hcap : acts.length ≤ maxLen) :
    Calls Try.prog 3 #[.slice A acts.length cap, .int .i64 lo, .int .i64 hi] W fun e w' => e = .returned (.bool true) ∧ Below W.heap.size W w' := by
  have hS := Sat.start W
  have hm : (acts.length : Int) ≤ 9223372036854775807 := by unfold maxLen at hcap; omega
  have HA := Lib.hid hA
  clear hA hcap
  by_cases h60 : (acts.length : Int) > 60
  · go_enter Try.func3, Try.ntmps3
    go_wp2_with (first | (go_at_call 6; ((with_reducible refine Calls.mono (new_any _ _ _ _ hS) ?_); clear hS; rintro e w ⟨g, M, rfl, hS⟩)) | (go_at_call 7; ((with_reducible refine Calls.mono (lives_any _ _ _ _ hS) ?_); clear hS; rintro e w ⟨rfl, hS⟩)))
    go_ret
    exact ⟨rfl, hS.end_ (PH.le.refl _)⟩
  · have hn : (acts.length : Int) ≤ 60 := by omega
    clear hm
    go_enter Try.func3, Try.ntmps3
    go_wp2_with (first | (go_at_call 6; ((with_reducible refine Calls.mono (new_any _ _ _ _ hS) ?_); clear hS; rintro e w ⟨g, M, rfl, hS⟩)))
    go_loopw [8, 33] (fun v8 v33 wr => ∃ (k : Nat) (es : List En) (c : Nat) (J : PH), k ≤ acts.length ∧ v33 = .int .i64 (k : Int) ∧ es.length ≤ k ∧ MapOk (rows es) c ∧ (heapOf W).le J ∧ RowN J v8 (outE es) ∧ Sat W J [tbv g M, tbm M es c] wr) (fun _ v33 _ => acts.length - (intOf v33).toNat)
    case atStart => exact ⟨0, [], 0, heapOf W, Nat.zero_le _, rfl, Nat.le_refl _, MapOk.nil, PH.le.refl _, by rw [out_nil]; exact RowN.nil _, hS⟩
    case round =>
      obtain ⟨k, es, c, J, hk, rfl, hel, hok, hJ, hR, hS⟩ := hrel
      have k0 : (0 : Int) ≤ (k : Int) := by omega
      by_cases hlt : k < acts.length
      · obtain ⟨X, off, rfl, hcs⟩ := HA.out.at_ hlt
        have hcs2 := hcs.le hJ
        clear hcs
        generalize acts[k] = a at *
        obtain ⟨a1, a2, a3, a4⟩ := a
        unfold Ac.cells at hcs2
        simp only at hcs2
        have ki : (k : Int) < (acts.length : Int) := by omega
        obtain ⟨hok2, hel2⟩ := doT_ok hok ⟨a1, a2, a3, a4⟩
        have CD := Lib.hid (fun w' ms' (h : Sat W J ms' w') => rdo_any W w' J ms' _ es c ⟨a1, a2, a3, a4⟩ hok hR (by omega) h)
        have CT := Lib.hid (fun w' J' ms' (h : Sat W J' (tbv g M :: tbm M es c :: ms') w') => do_any W w' J' ms' g M es c ⟨a1, a2, a3, a4⟩ hok h)
        generalize doT es c ⟨a1, a2, a3, a4⟩ = r at *
        obtain ⟨code, es2, c2⟩ := r
        simp only at hok2 hel2 CD CT
        have hel3 : es2.length ≤ 1000 := by omega
        have Hel2 := Lib.hid (Nat.le_trans hel2 (Nat.succ_le_succ hel))
        have Hok2 := Lib.hid hok2
        have HJ := Lib.hid hJ
        unfold Ac.agg at CD CT
        simp only at CD CT
        clear hok hR hel hel2 hJ
        go_wp2_with (first | ((with_reducible refine atList ?_); first | ((with_reducible refine isGuard ?_); first | go_skip | (refine guarded_yes ?hw ?_; case hw => (simp only [Region.wanted, yielded, List.getElem?_toArray, List.getElem?_cons_succ, List.getElem?_cons_zero, Option.bind_some, beq_self_eq_true]; done)) | ((refine' guarded_cases (b := _) ?hy ?_ ?_); (case hy => (simp only [yielded, List.getElem?_toArray, List.getElem?_cons_succ, List.getElem?_cons_zero, Option.bind_some]; exact rfl)); all_goals (intro hb; (try simp only [Bool.not_true, Bool.not_false] at hb); (try simp only [hb]); (try simp only [Act.put, List.setIfInBounds_toArray, List.set_cons_succ, List.set_cons_zero]); first | ((have hf : False := by (simp at hb; done)); cases hf) | ((have hf : False := by (simp at hb; omega)); cases hf) | skip))) | ((with_reducible refine isLoad ?_); first | (refine ld1 0 hS rfl rfl ?ha rfl rfl rfl ?_; (case ha => first | exact ty_agg3); (try simp only [Act.put, List.setIfInBounds_toArray, List.set_cons_succ, List.set_cons_zero])) | (refine ld1 1 hS rfl rfl ?ha rfl rfl rfl ?_; (case ha => first | exact ty_agg3); (try simp only [Act.put, List.setIfInBounds_toArray, List.set_cons_succ, List.set_cons_zero])) | (refine ld1 2 hS rfl rfl ?ha rfl rfl rfl ?_; (case ha => first | exact ty_agg3); (try simp only [Act.put, List.setIfInBounds_toArray, List.set_cons_succ, List.set_cons_zero])) | (refine ldN 0 hS rfl rfl ?ha rfl rfl ?hb ?_; (case ha => first | exact ty_agg28); (case hb => first | exact ty_sz28); (try simp only [Act.put, List.setIfInBounds_toArray, List.set_cons_succ, List.set_cons_zero])) | (refine ldN 1 hS rfl rfl ?ha rfl rfl ?hb ?_; (case ha => first | exact ty_agg28); (case hb => first | exact ty_sz28); (try simp only [Act.put, List.setIfInBounds_toArray, List.set_cons_succ, List.set_cons_zero])) | (refine ldN 2 hS rfl rfl ?ha rfl rfl ?hb ?_; (case ha => first | exact ty_agg28); (case hb => first | exact ty_sz28); (try simp only [Act.put, List.setIfInBounds_toArray, List.set_cons_succ, List.set_cons_zero])) | ((refine' ldI1 (v := _) hS rfl rfl ?ha rfl ?hb ?_); (case ha => first | exact ty_agg3); (case hb => assumption); (try simp only [Act.put, List.setIfInBounds_toArray, List.set_cons_succ, List.set_cons_zero])) | ((refine' ldIN (vs := _) hS rfl rfl ?ha rfl ?hc ?hb ?_); (case ha => first | exact ty_agg28); (case hc => assumption); (case hb => first | exact ty_sz28); (try simp only [Act.put, List.setIfInBounds_toArray, List.set_cons_succ, List.set_cons_zero]))) | ((with_reducible refine isStore ?_); first | (refine st1 0 hS rfl rfl rfl rfl rfl ?ha rfl rfl ?hb ?_; (case ha => first | exact ty_sz3); (case hb => (simp; done)); clear hS; intro w hS; (try simp only [List.set_cons_succ, List.set_cons_zero, List.setIfInBounds_toArray, Act.eval, Array.getD_eq_getD_getElem?, List.getElem?_toArray, List.getElem?_cons_succ, List.getElem?_cons_zero, Option.getD_some, Value.cells] at hS); (try simp only [Act.put, List.setIfInBounds_toArray, List.set_cons_succ, List.set_cons_zero])) | (refine st1 1 hS rfl rfl rfl rfl rfl ?ha rfl rfl ?hb ?_; (case ha => first | exact ty_sz3); (case hb => (simp; done)); clear hS; intro w hS; (try simp only [List.set_cons_succ, List.set_cons_zero, List.setIfInBounds_toArray, Act.eval, Array.getD_eq_getD_getElem?, List.getElem?_toArray, List.getElem?_cons_succ, List.getElem?_cons_zero, Option.getD_some, Value.cells] at hS); (try simp only [Act.put, List.setIfInBounds_toArray, List.set_cons_succ, List.set_cons_zero])) | (refine st1 2 hS rfl rfl rfl rfl rfl ?ha rfl rfl ?hb ?_; (case ha => first | exact ty_sz3); (case hb => (simp; done)); clear hS; intro w hS; (try simp only [List.set_cons_succ, List.set_cons_zero, List.setIfInBounds_toArray, Act.eval, Array.getD_eq_getD_getElem?, List.getElem?_toArray, List.getElem?_cons_succ, List.getElem?_cons_zero, Option.getD_some, Value.cells] at hS); (try simp only [Act.put, List.setIfInBounds_toArray, List.set_cons_succ, List.set_cons_zero])) | (refine stN 0 hS rfl rfl rfl rfl rfl ?ha rfl rfl ?_; (case ha => first | exact ty_sz28); clear hS; intro w hS; (try simp only [List.set_cons_succ, List.set_cons_zero, List.setIfInBounds_toArray, Act.eval, Array.getD_eq_getD_getElem?, List.getElem?_toArray, List.getElem?_cons_succ, List.getElem?_cons_zero, Option.getD_some, Value.cells] at hS); (try simp only [Act.put, List.setIfInBounds_toArray, List.set_cons_succ, List.set_cons_zero])) | (refine stN 1 hS rfl rfl rfl rfl rfl ?ha rfl rfl ?_; (case ha => first | exact ty_sz28); clear hS; intro w hS; (try simp only [List.set_cons_succ, List.set_cons_zero, List.setIfInBounds_toArray, Act.eval, Array.getD_eq_getD_getElem?, List.getElem?_toArray, List.getElem?_cons_succ, List.getElem?_cons_zero, Option.getD_some, Value.cells] at hS); (try simp only [Act.put, List.setIfInBounds_toArray, List.set_cons_succ, List.set_cons_zero])) | (refine stN 2 hS rfl rfl rfl rfl rfl ?ha rfl rfl ?_; (case ha => first | exact ty_sz28); clear hS; intro w hS; (try simp only [List.set_cons_succ, List.set_cons_zero, List.setIfInBounds_toArray, Act.eval, Array.getD_eq_getD_getElem?, List.getElem?_toArray, List.getElem?_cons_succ, List.getElem?_cons_zero, Option.getD_some, Value.cells] at hS); (try simp only [Act.put, List.setIfInBounds_toArray, List.set_cons_succ, List.set_cons_zero]))) | ((with_reducible refine isBox ?_); refine bx hS rfl rfl rfl ?_; clear hS; intro X w hS; (try simp only [Act.eval, Array.getD_eq_getD_getElem?, List.getElem?_toArray, List.getElem?_cons_succ, List.getElem?_cons_zero, Option.getD_some, Value.cells] at hS); (try simp only [Act.put, List.setIfInBounds_toArray, List.set_cons_succ, List.set_cons_zero])) | ((with_reducible refine isAlloc ?_); (refine' al (z := _) hS rfl rfl ?ha ?_); (case ha => first | exact ty_z28 | exact ty_z3); clear hS; intro X w hS; (try simp only [Act.eval, Array.getD_eq_getD_getElem?, List.getElem?_toArray, List.getElem?_cons_succ, List.getElem?_cons_zero, Option.getD_some, Value.cells] at hS); (try simp only [Act.put, List.setIfInBounds_toArray, List.set_cons_succ, List.set_cons_zero]))) | (go_at_call 8; ((with_reducible refine Calls.mono (CD.out _ _ hS) ?_); clear hS; rintro e w ⟨v1, J1, rfl, hJ1, hR1, hS⟩; have hR1 := Lib.hid hR1; have hJ1 := Lib.hid hJ1)) | (go_at_call 9; ((with_reducible refine Calls.mono (CT.out _ _ _ (rot2 hS)) ?_); clear hS; rintro e w ⟨rfl, hS⟩)))
        have hRx := hR1.out
        obtain ⟨A1, c1, rfl, hc1, hc2, _⟩ := hRx
        have hxl := out_len es2
        have hRx := hR1.out
        have CF := Lib.hid (fun w' (h : J1.le (heapOf w')) => rfind_any w' _ (outE es2) lo hi (hR1.out.le h) (by rw [hxl]; omega))
        have CL := Lib.hid (fun w' (h : TbIn (heapOf w') g M es2 c2) => len_any w' g M es2 c2 h)
        have CT2 := Lib.hid (fun w' (h : TbIn (heapOf w') g M es2 c2) => find_any w' g M es2 c2 lo hi h)
        have HR1 := Lib.hid hRx
        cases hf : findE es2 lo hi with
        | none =>
          have hfi : fI (outE es2) lo hi = -1 := by unfold fI; rw [fIdx_none Hok2.out hf]
          rw [hfi] at CF
          rw [hf] at CT2
          simp only [Option.getD_none, Option.isSome_none] at CT2
          rw [← hxl] at CL
          generalize hx : outE es2 = xs at *
          have Hx := Lib.hid hx
          have hx0 : (0 : Int) ≤ (xs.length : Int) := by omega
          have hx1 : (xs.length : Int) ≤ 1000 := by omega
          clear hf hfi hx hRx hR1 hxl hc1 hc2
          refine (CF.out _ hS.ile).mono ?_
          rintro e w' ⟨rfl, rfl⟩
          go_wp2_with (first | ((with_reducible refine atList ?_); first | ((with_reducible refine isGuard ?_); first | go_skip | (refine guarded_yes ?hw ?_; case hw => (simp only [Region.wanted, yielded, List.getElem?_toArray, List.getElem?_cons_succ, List.getElem?_cons_zero, Option.bind_some, beq_self_eq_true]; done)) | ((refine' guarded_cases (b := _) ?hy ?_ ?_); (case hy => (simp only [yielded, List.getElem?_toArray, List.getElem?_cons_succ, List.getElem?_cons_zero, Option.bind_some]; exact rfl)); all_goals (intro hb; (try simp only [Bool.not_true, Bool.not_false] at hb); (try simp only [hb]); (try simp only [Act.put, List.setIfInBounds_toArray, List.set_cons_succ, List.set_cons_zero]); first | ((have hf : False := by (simp at hb; done)); cases hf) | ((have hf : False := by (simp at hb; omega)); cases hf) | skip))) | ((with_reducible refine isLoad ?_); first | (refine ld1 0 hS rfl rfl ?ha rfl rfl rfl ?_; (case ha => first | exact ty_agg3); (try simp only [Act.put, List.setIfInBounds_toArray, List.set_cons_succ, List.set_cons_zero])) | (refine ld1 1 hS rfl rfl ?ha rfl rfl rfl ?_; (case ha => first | exact ty_agg3); (try simp only [Act.put, List.setIfInBounds_toArray, List.set_cons_succ, List.set_cons_zero])) | (refine ldN 0 hS rfl rfl ?ha rfl rfl ?hb ?_; (case ha => first | exact ty_agg28); (case hb => first | exact ty_sz28); (try simp only [Act.put, List.setIfInBounds_toArray, List.set_cons_succ, List.set_cons_zero])) | (refine ldN 1 hS rfl rfl ?ha rfl rfl ?hb ?_; (case ha => first | exact ty_agg28); (case hb => first | exact ty_sz28); (try simp only [Act.put, List.setIfInBounds_toArray, List.set_cons_succ, List.set_cons_zero])) | ((refine' ldI1 (v := _) hS rfl rfl ?ha rfl ?hb ?_); (case ha => first | exact ty_agg3); (case hb => assumption); (try simp only [Act.put, List.setIfInBounds_toArray, List.set_cons_succ, List.set_cons_zero])) | ((refine' ldIN (vs := _) hS rfl rfl ?ha rfl ?hc ?hb ?_); (case ha => first | exact ty_agg28); (case hc => assumption); (case hb => first | exact ty_sz28); (try simp only [Act.put, List.setIfInBounds_toArray, List.set_cons_succ, List.set_cons_zero]))) | ((with_reducible refine isStore ?_); first | (refine st1 0 hS rfl rfl rfl rfl rfl ?ha rfl rfl ?hb ?_; (case ha => first | exact ty_sz3); (case hb => (simp; done)); clear hS; intro w hS; (try simp only [List.set_cons_succ, List.set_cons_zero, List.setIfInBounds_toArray, Act.eval, Array.getD_eq_getD_getElem?, List.getElem?_toArray, List.getElem?_cons_succ, List.getElem?_cons_zero, Option.getD_some, Value.cells] at hS); (try simp only [Act.put, List.setIfInBounds_toArray, List.set_cons_succ, List.set_cons_zero])) | (refine st1 1 hS rfl rfl rfl rfl rfl ?ha rfl rfl ?hb ?_; (case ha => first | exact ty_sz3); (case hb => (simp; done)); clear hS; intro w hS; (try simp only [List.set_cons_succ, List.set_cons_zero, List.setIfInBounds_toArray, Act.eval, Array.getD_eq_getD_getElem?, List.getElem?_toArray, List.getElem?_cons_succ, List.getElem?_cons_zero, Option.getD_some, Value.cells] at hS); (try simp only [Act.put, List.setIfInBounds_toArray, List.set_cons_succ, List.set_cons_zero])) | (refine stN 0 hS rfl rfl rfl rfl rfl ?ha rfl rfl ?_; (case ha => first | exact ty_sz28); clear hS; intro w hS; (try simp only [List.set_cons_succ, List.set_cons_zero, List.setIfInBounds_toArray, Act.eval, Array.getD_eq_getD_getElem?, List.getElem?_toArray, List.getElem?_cons_succ, List.getElem?_cons_zero, Option.getD_some, Value.cells] at hS); (try simp only [Act.put, List.setIfInBounds_toArray, List.set_cons_succ, List.set_cons_zero])) | (refine stN 1 hS rfl rfl rfl rfl rfl ?ha rfl rfl ?_; (case ha => first | exact ty_sz28); clear hS; intro w hS; (try simp only [List.set_cons_succ, List.set_cons_zero, List.setIfInBounds_toArray, Act.eval, Array.getD_eq_getD_getElem?, List.getElem?_toArray, List.getElem?_cons_succ, List.getElem?_cons_zero, Option.getD_some, Value.cells] at hS); (try simp only [Act.put, List.setIfInBounds_toArray, List.set_cons_succ, List.set_cons_zero]))) | ((with_reducible refine isBox ?_); refine bx hS rfl rfl rfl ?_; clear hS; intro X w hS; (try simp only [Act.eval, Array.getD_eq_getD_getElem?, List.getElem?_toArray, List.getElem?_cons_succ, List.getElem?_cons_zero, Option.getD_some, Value.cells] at hS); (try simp only [Act.put, List.setIfInBounds_toArray, List.set_cons_succ, List.set_cons_zero])) | ((with_reducible refine isAlloc ?_); (refine' al (z := _) hS rfl rfl ?ha ?_); (case ha => first | exact ty_z28 | exact ty_z3); clear hS; intro X w hS; (try simp only [Act.eval, Array.getD_eq_getD_getElem?, List.getElem?_toArray, List.getElem?_cons_succ, List.getElem?_cons_zero, Option.getD_some, Value.cells] at hS); (try simp only [Act.put, List.setIfInBounds_toArray, List.set_cons_succ, List.set_cons_zero]))) | (go_at_call 11; (have hT := hS.tb (g := g) (M := M) (es := es2) (c := c2) (.head _) (.tail _ (.head _)); (with_reducible refine Calls.mono (CT2.out _ hT) ?_); clear hT; rintro e w' ⟨rfl, rfl⟩)) | (go_at_call 12; (have hT := hS.tb (g := g) (M := M) (es := es2) (c := c2) (.head _) (.tail _ (.head _)); (with_reducible refine Calls.mono (CL.out _ hT) ?_); clear hT; rintro e w' ⟨rfl, rfl⟩)))
          exact ⟨⟨k + 1, es2, c2, J1, by omega, by go_num, Hel2.out, Hok2.out, HJ.out.trans hJ1.out, by rw [Hx.out]; exact HR1.out, unrot2 (x := _) (ms := []) hS⟩, by simp [intOf]; omega⟩
        | some i =>
          obtain ⟨q, hq, hget, _⟩ := fIdx_some Hok2.out hf
          have hfi : fI (outE es2) lo hi = (q : Int) := by unfold fI; rw [hq]
          rw [hfi] at CF
          rw [hf] at CT2
          simp only [Option.getD_some, Option.isSome_some] at CT2
          rw [← hxl] at CL
          obtain ⟨X2, off2, rfl, hcx⟩ := hR1.out.at_ hget
          have f2 := hcx 2 _ rfl
          have hql := (List.getElem?_eq_some_iff.1 hget).1
          generalize hx : outE es2 = xs at *
          have Hx := Lib.hid hx
          have hx0 : (0 : Int) ≤ (xs.length : Int) := by omega
          have hx1 : (xs.length : Int) ≤ 1000 := by omega
          have q0 : (0 : Int) ≤ (q : Int) := by omega
          have q1 : (q : Int) < (xs.length : Int) := by omega
          clear hf hfi hx hRx hR1 hxl hc1 hc2 hq hget hcx hql
          refine (CF.out _ hS.ile).mono ?_
          rintro e w' ⟨rfl, rfl⟩
          go_wp2_with (first | ((with_reducible refine atList ?_); first | ((with_reducible refine isGuard ?_); first | go_skip | (refine guarded_yes ?hw ?_; case hw => (simp only [Region.wanted, yielded, List.getElem?_toArray, List.getElem?_cons_succ, List.getElem?_cons_zero, Option.bind_some, beq_self_eq_true]; done)) | ((refine' guarded_cases (b := _) ?hy ?_ ?_); (case hy => (simp only [yielded, List.getElem?_toArray, List.getElem?_cons_succ, List.getElem?_cons_zero, Option.bind_some]; exact rfl)); all_goals (intro hb; (try simp only [Bool.not_true, Bool.not_false] at hb); (try simp only [hb]); (try simp only [Act.put, List.setIfInBounds_toArray, List.set_cons_succ, List.set_cons_zero]); first | ((have hf : False := by (simp at hb; done)); cases hf) | ((have hf : False := by (simp at hb; omega)); cases hf) | skip))) | ((with_reducible refine isLoad ?_); first | (refine ld1 0 hS rfl rfl ?ha rfl rfl rfl ?_; (case ha => first | exact ty_agg3); (try simp only [Act.put, List.setIfInBounds_toArray, List.set_cons_succ, List.set_cons_zero])) | (refine ld1 1 hS rfl rfl ?ha rfl rfl rfl ?_; (case ha => first | exact ty_agg3); (try simp only [Act.put, List.setIfInBounds_toArray, List.set_cons_succ, List.set_cons_zero])) | (refine ldN 0 hS rfl rfl ?ha rfl rfl ?hb ?_; (case ha => first | exact ty_agg28); (case hb => first | exact ty_sz28); (try simp only [Act.put, List.setIfInBounds_toArray, List.set_cons_succ, List.set_cons_zero])) | (refine ldN 1 hS rfl rfl ?ha rfl rfl ?hb ?_; (case ha => first | exact ty_agg28); (case hb => first | exact ty_sz28); (try simp only [Act.put, List.setIfInBounds_toArray, List.set_cons_succ, List.set_cons_zero])) | ((refine' ldI1 (v := _) hS rfl rfl ?ha rfl ?hb ?_); (case ha => first | exact ty_agg3); (case hb => assumption); (try simp only [Act.put, List.setIfInBounds_toArray, List.set_cons_succ, List.set_cons_zero])) | ((refine' ldIN (vs := _) hS rfl rfl ?ha rfl ?hc ?hb ?_); (case ha => first | exact ty_agg28); (case hc => assumption); (case hb => first | exact ty_sz28); (try simp only [Act.put, List.setIfInBounds_toArray, List.set_cons_succ, List.set_cons_zero]))) | ((with_reducible refine isStore ?_); first | (refine st1 0 hS rfl rfl rfl rfl rfl ?ha rfl rfl ?hb ?_; (case ha => first | exact ty_sz3); (case hb => (simp; done)); clear hS; intro w hS; (try simp only [List.set_cons_succ, List.set_cons_zero, List.setIfInBounds_toArray, Act.eval, Array.getD_eq_getD_getElem?, List.getElem?_toArray, List.getElem?_cons_succ, List.getElem?_cons_zero, Option.getD_some, Value.cells] at hS); (try simp only [Act.put, List.setIfInBounds_toArray, List.set_cons_succ, List.set_cons_zero])) | (refine st1 1 hS rfl rfl rfl rfl rfl ?ha rfl rfl ?hb ?_; (case ha => first | exact ty_sz3); (case hb => (simp; done)); clear hS; intro w hS; (try simp only [List.set_cons_succ, List.set_cons_zero, List.setIfInBounds_toArray, Act.eval, Array.getD_eq_getD_getElem?, List.getElem?_toArray, List.getElem?_cons_succ, List.getElem?_cons_zero, Option.getD_some, Value.cells] at hS); (try simp only [Act.put, List.setIfInBounds_toArray, List.set_cons_succ, List.set_cons_zero])) | (refine stN 0 hS rfl rfl rfl rfl rfl ?ha rfl rfl ?_; (case ha => first | exact ty_sz28); clear hS; intro w hS; (try simp only [List.set_cons_succ, List.set_cons_zero, List.setIfInBounds_toArray, Act.eval, Array.getD_eq_getD_getElem?, List.getElem?_toArray, List.getElem?_cons_succ, List.getElem?_cons_zero, Option.getD_some, Value.cells] at hS); (try simp only [Act.put, List.setIfInBounds_toArray, List.set_cons_succ, List.set_cons_zero])) | (refine stN 1 hS rfl rfl rfl rfl rfl ?ha rfl rfl ?_; (case ha => first | exact ty_sz28); clear hS; intro w hS; (try simp only [List.set_cons_succ, List.set_cons_zero, List.setIfInBounds_toArray, Act.eval, Array.getD_eq_getD_getElem?, List.getElem?_toArray, List.getElem?_cons_succ, List.getElem?_cons_zero, Option.getD_some, Value.cells] at hS); (try simp only [Act.put, List.setIfInBounds_toArray, List.set_cons_succ, List.set_cons_zero]))) | ((with_reducible refine isBox ?_); refine bx hS rfl rfl rfl ?_; clear hS; intro X w hS; (try simp only [Act.eval, Array.getD_eq_getD_getElem?, List.getElem?_toArray, List.getElem?_cons_succ, List.getElem?_cons_zero, Option.getD_some, Value.cells] at hS); (try simp only [Act.put, List.setIfInBounds_toArray, List.set_cons_succ, List.set_cons_zero])) | ((with_reducible refine isAlloc ?_); (refine' al (z := _) hS rfl rfl ?ha ?_); (case ha => first | exact ty_z28 | exact ty_z3); clear hS; intro X w hS; (try simp only [Act.eval, Array.getD_eq_getD_getElem?, List.getElem?_toArray, List.getElem?_cons_succ, List.getElem?_cons_zero, Option.getD_some, Value.cells] at hS); (try simp only [Act.put, List.setIfInBounds_toArray, List.set_cons_succ, List.set_cons_zero]))) | (go_at_call 11; (have hT := hS.tb (g := g) (M := M) (es := es2) (c := c2) (.head _) (.tail _ (.head _)); (with_reducible refine Calls.mono (CT2.out _ hT) ?_); clear hT; rintro e w' ⟨rfl, rfl⟩)) | (go_at_call 12; (have hT := hS.tb (g := g) (M := M) (es := es2) (c := c2) (.head _) (.tail _ (.head _)); (with_reducible refine Calls.mono (CL.out _ hT) ?_); clear hT; rintro e w' ⟨rfl, rfl⟩)))
          exact ⟨⟨k + 1, es2, c2, J1, by omega, by go_num, Hel2.out, Hok2.out, HJ.out.trans hJ1.out, by rw [Hx.out]; exact HR1.out, unrot2 (x := _) (ms := []) hS⟩, by simp [intOf]; omega⟩
      · have hl : (outE es).take ((100 : Int).toNat) = outE es := List.take_of_length_le (by rw [out_len]; show es.length ≤ 100; omega)
        have CTO := Lib.hid (fun w' (h : Sat W J [tbv g M, tbm M es c] w') => told_law W w' J [] g M es c 100 hok (by omega) h)
        rw [hl] at CTO
        have hxl := out_len es
        generalize outE es = xs at *
        have HR := Lib.hid hR
        have HJ := Lib.hid hJ
        have hx1 : xs.length ≤ 100000 := by omega
        clear hl hR hJ hok
        go_wp2_with (first | (go_at_call 13; ((with_reducible refine Calls.mono (CTO.out _ hS) ?_); clear hS; rintro e w ⟨vt, mo, rfl, hO, hS⟩; refine Held_.in_ ?_)))
        refine Held_.out ?_
        obtain ⟨J2, j1, j2, hS2⟩ := frz1 hS
        have hRO := hO.row j2
        have CS := Lib.hid (fun w' ms' (h : Sat W J2 ms' w') => lsame_any W w' J2 ms' vt _ xs hRO (HR.out.le j1) hx1 h)
        have HJ2 := Lib.hid (HJ.out.trans j1)
        have hS := hS2
        clear hS2 hO hRO j1 j2
        go_wp2_with (first | (go_at_call 7; ((with_reducible refine Calls.mono (lives_any _ _ _ _ hS) ?_); clear hS; rintro e w ⟨rfl, hS⟩)) | (go_at_call 14; ((with_reducible refine Calls.mono (CS.out _ _ hS) ?_); clear hS; rintro e w ⟨rfl, hS⟩)))
        go_ret
        exact ⟨rfl, hS.end_ HJ2.out⟩
end Go.Proofs.Ytmgjoggffnogfaa
