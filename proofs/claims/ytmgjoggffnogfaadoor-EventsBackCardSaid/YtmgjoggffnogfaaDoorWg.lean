/- The reference's Parse. -/
import Derived.Test.YtmgjoggffnogfaaDoorWf
namespace Go.Proofs.YtmgjoggffnogfaaDoor
set_option linter.unusedSimpArgs false
set_option linter.unusedVariables false
open Go.RowKit
set_option linter.unusedVariables false
theorem seg_split {l : List Nat} {f i : Nat} (hf : f ≤ i) (h : l[i]? = some 10) (hno : ∀ t c, f ≤ t → t < i → l[t]? = some c → c ≠ 10) : l.drop f = (l.drop f).take (i - f) ++ 10 :: l.drop (i + 1) ∧ 10 ∉ (l.drop f).take (i - f) := by
  refine ⟨?_, fun hm => ?_⟩
  · have hlt := (List.getElem?_eq_some_iff.1 h).1
    have h2 := (List.getElem?_eq_some_iff.1 h).2
    conv => lhs; rw [← List.take_append_drop (i - f) (l.drop f)]
    rw [List.drop_drop, show f + (i - f) = i by omega, List.drop_eq_getElem_cons hlt, h2]
  · obtain ⟨t, ht⟩ := List.mem_iff_getElem?.1 hm
    rw [List.getElem?_take] at ht
    split at ht
    · rw [List.getElem?_drop] at ht
      exact hno (f + t) 10 (by omega) (by omega) ht rfl
    · cases ht
set_option maxHeartbeats 4000000 in
set_option maxRecDepth 100000 in
theorem rparse28_any (E : World) (I : PH) (ms : List PH) (s : ByteArray) (w : World) (hS : Sat E I ms w) :
    Calls Tryd.prog 15 #[.string s] w fun e w' => ∃ v m, e = .returned (.tuple #[v, .int .i64 (prsE (lst s))]) ∧ OwnP m 47 3 v (prsL (lst s)).length (evR (prsL (lst s))) ∧ Sat E I (m :: ms) w' := by
  by_cases hlen : 65536 < s.size
  · have h1 : prsE (lst s) = 4 := by unfold prsE; rw [if_pos (by rw [lst_length]; exact hlen)]
    have h2 : prsL (lst s) = [] := by unfold prsL; rw [if_pos (by rw [lst_length]; exact hlen)]
    rw [h1, h2]
    go_enter Tryd.func15, Tryd.ntmps15
    go_wp2
    go_ret2
    exact ⟨_, _, rfl, OwnP.nil _ _, hS.empty⟩
  · have hlen2 : (s.size : Int) ≤ 65536 := by omega
    have HB := Lib.hid (fun h => prs_bad (l := lst s) (by rw [lst_length]; omega) h)
    have HG := Lib.hid (fun xs h => prs_good (l := lst s) (xs := xs) (by rw [lst_length]; omega) h)
    clear hlen
    go_enter Tryd.func15, Tryd.ntmps15
    go_wp2
    have hS0 := hS.empty
    clear hS
    have hS := hS0
    clear hS0
    go_loopw [4, 5, 6] (fun v4 v5 v6 wr => ∃ (f i : Nat) (xs : List Ev) (m : PH), xs.length ≤ 256 ∧ f ≤ i ∧ i ≤ s.size ∧ v5 = .int .i64 (f : Int) ∧ v6 = .int .i64 (i : Int) ∧ OwnP m 47 3 v4 xs.length (evR xs) ∧ prs (lst s) = (prsW (256 - xs.length) (spl 10 ((lst s).drop f))).map (xs ++ ·) ∧ (∀ t c, f ≤ t → t < i → (lst s)[t]? = some c → c ≠ 10) ∧ Sat E I (m :: ms) wr) (fun _ _ v6 _ => (s.size - intOf v6).toNat)
    case atStart => exact ⟨0, 0, [], _, by simp, by omega, by omega, rfl, rfl, OwnP.nil _ _, by simp [prs], fun t c h1 h2 => by omega, hS⟩
    case round =>
      clear hS
      obtain ⟨f, i, xs, m, hxs, hfi, his, rfl, rfl, hO, HP, hno, hS⟩ := hrel
      have k0 : (xs.length : Int) ≤ 256 := by omega
      obtain ⟨A, c, rfl, hc⟩ := hO.shape
      by_cases hlt : i < s.size
      · obtain ⟨b, hb, hb2, hbl⟩ := byteI s i hlt
        by_cases h10 : b = 10
        · subst h10
          obtain ⟨hd, hx⟩ := seg_split hfi hbl hno
          rw [hd, prsW_hit _ _ hx] at HP
          have hlx : lst (s.extract f i) = ((lst s).drop f).take (i - f) := lst_ext s f i
          rw [← hlx] at HP
          have EV := Lib.hid (fun w hS => line_any E I (m :: ms) (s.extract f i) w (by rw [ByteArray.size_extract]; omega) hS)
          have HHP := Lib.hid HP
          have hif : (f : Int) ≤ i := by omega
          have his2 : (i : Int) < s.size := by omega
          have hmn : min i s.size = i := by omega
          clear hd hx hlx HP hno hbl
          by_cases hk : xs.length = 256
          · have hfin := HB.out (by rw [HHP.out, hk]; rfl)
            have HF := Lib.hid hfin
            have k1 : ((xs.length : Int) == 256) = true := by rw [beq_iff_eq]; omega
            clear HHP HG HB hfin
            go_wp2_with (first | (go_at_call 31; (with_reducible refine Calls.mono (EV.out _ hS) ?_); clear hS; rintro e w ⟨w0, w1, w2, fb, rfl, hev, hS⟩; clear hev) | ((with_reducible refine atList ?_); first | ((with_reducible refine isBoxD 7 ?_); refine bx hS rfl rfl rfl ?_; clear hS; intro XV w hS; (try simp only [Act.eval, Array.getD_eq_getD_getElem?, List.getElem?_toArray, List.getElem?_cons_succ, List.getElem?_cons_zero, Option.getD_some, Value.cells] at hS); (try simp only [Act.put, List.setIfInBounds_toArray, List.set_cons_succ, List.set_cons_zero])) | ((with_reducible refine isAllocD 7 ?_); (refine' al (z := _) hS rfl rfl ?ha ?_); (case ha => first | exact ty_z47); clear hS; intro XV w hS; (try simp only [Act.eval, Array.getD_eq_getD_getElem?, List.getElem?_toArray, List.getElem?_cons_succ, List.getElem?_cons_zero, Option.getD_some, Value.cells] at hS); (try simp only [Act.put, List.setIfInBounds_toArray, List.set_cons_succ, List.set_cons_zero])) | ((with_reducible refine isGuard ?_); first | go_skip | ((with_reducible refine guarded_no ?hw ?_); (case hw => (simp only [Region.wanted, yielded, List.getElem?_toArray, List.getElem?_cons_succ, List.getElem?_cons_zero, Option.bind_some]; first | exact (rfl : (some true == some false) = false) | exact (rfl : (some false == some true) = false))); (try simp only [Act.put, List.setIfInBounds_toArray, List.set_cons_succ, List.set_cons_zero])) | ((with_reducible refine guarded_yes ?hw ?_); case hw => (simp only [Region.wanted, yielded, List.getElem?_toArray, List.getElem?_cons_succ, List.getElem?_cons_zero, Option.bind_some, beq_self_eq_true]; done)) | ((refine' guarded_cases (b := _) ?hy ?_ ?_); (case hy => (simp only [yielded, List.getElem?_toArray, List.getElem?_cons_succ, List.getElem?_cons_zero, Option.bind_some]; exact rfl)); all_goals (intro hb; (try simp only [Bool.not_true, Bool.not_false] at hb); (try simp only [hb]); (try simp only [Act.put, List.setIfInBounds_toArray, List.set_cons_succ, List.set_cons_zero]); first | ((have hf : False := by (simp at hb; done)); cases hf) | ((have hf : False := by (simp at hb; omega)); cases hf) | skip))) | ((with_reducible refine isLoad ?_); first | (refine ldN 0 hS rfl rfl ?ha rfl rfl ?hb ?_; (case ha => first | exact ty_agg47); (case hb => first | exact ty_sz47); (try simp only [Act.put, List.setIfInBounds_toArray, List.set_cons_succ, List.set_cons_zero])) | (refine ldN 1 hS rfl rfl ?ha rfl rfl ?hb ?_; (case ha => first | exact ty_agg47); (case hb => first | exact ty_sz47); (try simp only [Act.put, List.setIfInBounds_toArray, List.set_cons_succ, List.set_cons_zero])) | (refine ldN 2 hS rfl rfl ?ha rfl rfl ?hb ?_; (case ha => first | exact ty_agg47); (case hb => first | exact ty_sz47); (try simp only [Act.put, List.setIfInBounds_toArray, List.set_cons_succ, List.set_cons_zero])) | ((refine' ldIN (vs := _) hS rfl rfl ?ha rfl ?hc ?hb ?_); (case ha => first | exact ty_agg47); (case hc => assumption); (case hb => first | exact ty_sz47); (try simp only [Act.put, List.setIfInBounds_toArray, List.set_cons_succ, List.set_cons_zero]))) | ((with_reducible refine isStore ?_); first | (refine stN 0 hS rfl rfl rfl rfl rfl ?ha rfl rfl ?_; (case ha => first | exact ty_sz47); clear hS; intro w hS; (try simp only [List.set_cons_succ, List.set_cons_zero, List.setIfInBounds_toArray, Act.eval, Array.getD_eq_getD_getElem?, List.getElem?_toArray, List.getElem?_cons_succ, List.getElem?_cons_zero, Option.getD_some, Value.cells] at hS); (try simp only [Act.put, List.setIfInBounds_toArray, List.set_cons_succ, List.set_cons_zero])) | (refine stN 1 hS rfl rfl rfl rfl rfl ?ha rfl rfl ?_; (case ha => first | exact ty_sz47); clear hS; intro w hS; (try simp only [List.set_cons_succ, List.set_cons_zero, List.setIfInBounds_toArray, Act.eval, Array.getD_eq_getD_getElem?, List.getElem?_toArray, List.getElem?_cons_succ, List.getElem?_cons_zero, Option.getD_some, Value.cells] at hS); (try simp only [Act.put, List.setIfInBounds_toArray, List.set_cons_succ, List.set_cons_zero])) | (refine stN 2 hS rfl rfl rfl rfl rfl ?ha rfl rfl ?_; (case ha => first | exact ty_sz47); clear hS; intro w hS; (try simp only [List.set_cons_succ, List.set_cons_zero, List.setIfInBounds_toArray, Act.eval, Array.getD_eq_getD_getElem?, List.getElem?_toArray, List.getElem?_cons_succ, List.getElem?_cons_zero, Option.getD_some, Value.cells] at hS); (try simp only [Act.put, List.setIfInBounds_toArray, List.set_cons_succ, List.set_cons_zero]))) | ((with_reducible refine isBox ?_); refine bx hS rfl rfl rfl ?_; clear hS; intro X w hS; (try simp only [Act.eval, Array.getD_eq_getD_getElem?, List.getElem?_toArray, List.getElem?_cons_succ, List.getElem?_cons_zero, Option.getD_some, Value.cells] at hS); (try simp only [Act.put, List.setIfInBounds_toArray, List.set_cons_succ, List.set_cons_zero])) | ((with_reducible refine isAlloc ?_); (refine' al (z := _) hS rfl rfl ?ha ?_); (case ha => first | exact ty_z47); clear hS; intro X w hS; (try simp only [Act.eval, Array.getD_eq_getD_getElem?, List.getElem?_toArray, List.getElem?_cons_succ, List.getElem?_cons_zero, Option.getD_some, Value.cells] at hS); (try simp only [Act.put, List.setIfInBounds_toArray, List.set_cons_succ, List.set_cons_zero])) | ((with_reducible refine isBuildSlice ?_); (refine' bsl hS ?hr ?_); (case hr => (intro w0; go_simp; rfl)); clear hS; intro XS w hS; (try simp only [Act.eval, Array.getD_eq_getD_getElem?, List.getElem?_toArray, List.getElem?_cons_succ, List.getElem?_cons_zero, Option.getD_some, Value.cells] at hS); (try simp only [Act.put, List.setIfInBounds_toArray, List.set_cons_succ, List.set_cons_zero]))))
            all_goals
              go_ret2
              rw [HF.out.1, HF.out.2]
              exact ⟨_, _, rfl, OwnP.nil _ _, hS.drop.drop.empty⟩
          · have k1 : ((xs.length : Int) == 256) = false := by rw [beq_eq_false_iff_ne]; omega
            go_wp2_with (first | (go_at_call 31; (with_reducible refine Calls.mono (EV.out _ hS) ?_); clear hS; rintro e w ⟨w0, w1, w2, fb, rfl, hev, hS⟩; have HEV := Lib.hid hev; clear hev) | ((with_reducible refine atList ?_); first | ((with_reducible refine isBoxD 7 ?_); refine bx hS rfl rfl rfl ?_; clear hS; intro XV w hS; (try simp only [Act.eval, Array.getD_eq_getD_getElem?, List.getElem?_toArray, List.getElem?_cons_succ, List.getElem?_cons_zero, Option.getD_some, Value.cells] at hS); (try simp only [Act.put, List.setIfInBounds_toArray, List.set_cons_succ, List.set_cons_zero])) | ((with_reducible refine isAllocD 7 ?_); (refine' al (z := _) hS rfl rfl ?ha ?_); (case ha => first | exact ty_z47); clear hS; intro XV w hS; (try simp only [Act.eval, Array.getD_eq_getD_getElem?, List.getElem?_toArray, List.getElem?_cons_succ, List.getElem?_cons_zero, Option.getD_some, Value.cells] at hS); (try simp only [Act.put, List.setIfInBounds_toArray, List.set_cons_succ, List.set_cons_zero])) | ((with_reducible refine isGuard ?_); first | go_skip | ((with_reducible refine guarded_no ?hw ?_); (case hw => (simp only [Region.wanted, yielded, List.getElem?_toArray, List.getElem?_cons_succ, List.getElem?_cons_zero, Option.bind_some]; first | exact (rfl : (some true == some false) = false) | exact (rfl : (some false == some true) = false))); (try simp only [Act.put, List.setIfInBounds_toArray, List.set_cons_succ, List.set_cons_zero])) | ((with_reducible refine guarded_yes ?hw ?_); case hw => (simp only [Region.wanted, yielded, List.getElem?_toArray, List.getElem?_cons_succ, List.getElem?_cons_zero, Option.bind_some, beq_self_eq_true]; done)) | ((refine' guarded_cases (b := _) ?hy ?_ ?_); (case hy => (simp only [yielded, List.getElem?_toArray, List.getElem?_cons_succ, List.getElem?_cons_zero, Option.bind_some]; exact rfl)); all_goals (intro hb; (try simp only [Bool.not_true, Bool.not_false] at hb); (try simp only [hb]); (try simp only [Act.put, List.setIfInBounds_toArray, List.set_cons_succ, List.set_cons_zero]); first | ((have hf : False := by (simp at hb; done)); cases hf) | ((have hf : False := by (simp at hb; omega)); cases hf) | skip))) | ((with_reducible refine isLoad ?_); first | (refine ldN 0 hS rfl rfl ?ha rfl rfl ?hb ?_; (case ha => first | exact ty_agg47); (case hb => first | exact ty_sz47); (try simp only [Act.put, List.setIfInBounds_toArray, List.set_cons_succ, List.set_cons_zero])) | (refine ldN 1 hS rfl rfl ?ha rfl rfl ?hb ?_; (case ha => first | exact ty_agg47); (case hb => first | exact ty_sz47); (try simp only [Act.put, List.setIfInBounds_toArray, List.set_cons_succ, List.set_cons_zero])) | (refine ldN 2 hS rfl rfl ?ha rfl rfl ?hb ?_; (case ha => first | exact ty_agg47); (case hb => first | exact ty_sz47); (try simp only [Act.put, List.setIfInBounds_toArray, List.set_cons_succ, List.set_cons_zero])) | ((refine' ldIN (vs := _) hS rfl rfl ?ha rfl ?hc ?hb ?_); (case ha => first | exact ty_agg47); (case hc => assumption); (case hb => first | exact ty_sz47); (try simp only [Act.put, List.setIfInBounds_toArray, List.set_cons_succ, List.set_cons_zero]))) | ((with_reducible refine isStore ?_); first | (refine stN 0 hS rfl rfl rfl rfl rfl ?ha rfl rfl ?_; (case ha => first | exact ty_sz47); clear hS; intro w hS; (try simp only [List.set_cons_succ, List.set_cons_zero, List.setIfInBounds_toArray, Act.eval, Array.getD_eq_getD_getElem?, List.getElem?_toArray, List.getElem?_cons_succ, List.getElem?_cons_zero, Option.getD_some, Value.cells] at hS); (try simp only [Act.put, List.setIfInBounds_toArray, List.set_cons_succ, List.set_cons_zero])) | (refine stN 1 hS rfl rfl rfl rfl rfl ?ha rfl rfl ?_; (case ha => first | exact ty_sz47); clear hS; intro w hS; (try simp only [List.set_cons_succ, List.set_cons_zero, List.setIfInBounds_toArray, Act.eval, Array.getD_eq_getD_getElem?, List.getElem?_toArray, List.getElem?_cons_succ, List.getElem?_cons_zero, Option.getD_some, Value.cells] at hS); (try simp only [Act.put, List.setIfInBounds_toArray, List.set_cons_succ, List.set_cons_zero])) | (refine stN 2 hS rfl rfl rfl rfl rfl ?ha rfl rfl ?_; (case ha => first | exact ty_sz47); clear hS; intro w hS; (try simp only [List.set_cons_succ, List.set_cons_zero, List.setIfInBounds_toArray, Act.eval, Array.getD_eq_getD_getElem?, List.getElem?_toArray, List.getElem?_cons_succ, List.getElem?_cons_zero, Option.getD_some, Value.cells] at hS); (try simp only [Act.put, List.setIfInBounds_toArray, List.set_cons_succ, List.set_cons_zero]))) | ((with_reducible refine isBox ?_); refine bx hS rfl rfl rfl ?_; clear hS; intro X w hS; (try simp only [Act.eval, Array.getD_eq_getD_getElem?, List.getElem?_toArray, List.getElem?_cons_succ, List.getElem?_cons_zero, Option.getD_some, Value.cells] at hS); (try simp only [Act.put, List.setIfInBounds_toArray, List.set_cons_succ, List.set_cons_zero])) | ((with_reducible refine isAlloc ?_); (refine' al (z := _) hS rfl rfl ?ha ?_); (case ha => first | exact ty_z47); clear hS; intro X w hS; (try simp only [Act.eval, Array.getD_eq_getD_getElem?, List.getElem?_toArray, List.getElem?_cons_succ, List.getElem?_cons_zero, Option.getD_some, Value.cells] at hS); (try simp only [Act.put, List.setIfInBounds_toArray, List.set_cons_succ, List.set_cons_zero])) | ((with_reducible refine isBuildSlice ?_); (refine' bsl hS ?hr ?_); (case hr => (intro w0; go_simp; rfl)); clear hS; intro XS w hS; (try simp only [Act.eval, Array.getD_eq_getD_getElem?, List.getElem?_toArray, List.getElem?_cons_succ, List.getElem?_cons_zero, Option.getD_some, Value.cells] at hS); (try simp only [Act.put, List.setIfInBounds_toArray, List.set_cons_succ, List.set_cons_zero]))) | (at_builtin; (refine' apP (p := _) (m := _) (v := _) (n := _) (xs := _) (news := _) 2 (.inr (List.Mem.head _)) hS rfl rfl rfl Tryd.underlying22 ev_info rfl (by decide) rfl ?hown rfl ?hl ?hcl ?h1 ?h63 ?hby ?_); (case hown => assumption); (case hcl => exact Cells.one _ _ _ _); (case hl => rfl); (case h1 => rfl); (case h63 => go_light; unfold maxLen; omega); (case hby => go_light; omega); clear hS hO; intro v1 m1 w hO hS; (try simp only [List.set_cons_succ, List.set_cons_zero] at hS); (try simp only [Act.put, List.setIfInBounds_toArray, List.set_cons_succ, List.set_cons_zero])))
            rotate_left
            · have hfb : fb = false := by cases fb <;> simp_all
              subst hfb
              have hev : evL (lst (s.extract f i)) = none := by have h := HEV.out; unfold EvR at h; rw [if_neg (by simp)] at h; exact h
              have h2 := HHP.out
              rw [show 256 - xs.length = (256 - (xs.length + 1)) + 1 by omega] at h2
              rw [hev] at h2
              have HF := HB.out h2
              go_ret2
              rw [HF.1, HF.2]
              exact ⟨_, _, rfl, OwnP.nil _ _, hS.drop.drop.empty⟩
            · have hfb : fb = true := by cases fb <;> simp_all
              subst hfb
              have hev : evL (lst (s.extract f i)) = some (w0, w1, w2) := by have h := HEV.out; unfold EvR at h; rw [if_pos rfl] at h; exact h
              have h2 := HHP.out
              rw [show 256 - xs.length = (256 - (xs.length + 1)) + 1 by omega] at h2
              rw [hev] at h2
              refine ⟨⟨i + 1, i + 1, xs ++ [(w0, w1, w2)], _, by simp; omega, by omega, by omega, by go_num, by go_num, ?_, ?_, fun t c h1 h2 => by omega, hS.drop.drop⟩, by simp [intOf]; omega⟩
              · have := hO
                rw [List.length_append, ← evR_add]
                exact this
              · rw [h2, List.length_append]
                simp only [List.length_cons, List.length_nil]
                cases prsW (256 - (xs.length + 1)) (spl 10 ((lst s).drop (i + 1))) <;> simp
        · have hne : ((b : Int) != 10) = true := by rw [bne_iff_ne]; omega
          have HHP := Lib.hid HP
          have HN := Lib.hid (fun t c' (h1 : f ≤ t) (ht : t < i + 1) (hc' : (lst s)[t]? = some c') => show c' ≠ 10 from by
            by_cases e : t = i
            · subst e; rw [hbl] at hc'; injection hc' with hc'; omega
            · exact hno t c' h1 (by omega) hc')
          clear HP hno hbl
          go_wp2
          go_round
          case rel => exact ⟨f, i + 1, xs, m, hxs, by omega, by omega, rfl, by go_num, hO, HHP.out, HN.out, hS⟩
          case measure => simp [intOf]; omega
      · have hie : i = s.size := by omega
        subst hie
        have hno2 : 10 ∉ (lst s).drop f := fun h => by
          obtain ⟨t, ht⟩ := List.mem_iff_getElem?.1 h
          rw [List.getElem?_drop] at ht
          have := (List.getElem?_eq_some_iff.1 ht).1
          rw [lst_length] at this
          exact hno (f + t) 10 (by omega) this ht rfl
        by_cases hf : f = s.size
        · have hdn : (lst s).drop f = [] := List.drop_eq_nil_of_le (by rw [lst_length]; omega)
          rw [hdn, prsW_nil] at HP
          have HF := Lib.hid (HG.out xs (by rw [HP]; simp))
          have hb1 : ((f : Int) != s.size) = false := by rw [bne_eq_false_iff_eq]; omega
          clear HP hno hno2 hdn HG HB
          go_wp2
          go_ret2
          rw [HF.out.1, HF.out.2]
          exact ⟨_, _, rfl, hO, hS⟩
        · have hdn : (lst s).drop f ≠ [] := fun h => by
            have := congrArg List.length h
            rw [List.length_drop, lst_length] at this
            simp at this; omega
          rw [prsW_miss _ hno2 hdn] at HP
          have HF := Lib.hid (HB.out (by rw [HP]; rfl))
          have hb1 : ((f : Int) != s.size) = true := by rw [bne_iff_ne]; omega
          clear HP hno hno2 hdn HG HB
          go_wp2
          go_ret2
          rw [HF.out.1, HF.out.2]
          exact ⟨_, _, rfl, OwnP.nil _ _, hS.drop.empty⟩
end Go.Proofs.YtmgjoggffnogfaaDoor
