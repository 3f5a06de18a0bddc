/- The reference of uniq: Cut, Do. -/
import Derived.Test.YtmgjoggffnogfaaVn
namespace Go.Proofs.Ytmgjoggffnogfaa
set_option linter.unusedSimpArgs false
set_option linter.unusedVariables false
open Go.RowKit
set_option linter.unusedVariables false
theorem RowN.slice {J : PH} {A : Option Addr} {xs : List Ne} {c : Nat} (h : RowN J (.slice A xs.length c) xs) {i n : Nat} (hn : i + n ≤ xs.length) (h0 : 0 < n) : ∃ X off, A = some ⟨X, off, none⟩ ∧ Cells J X (off + i * 3) (((xs.drop i).take n).flatMap Ne.cells) := by
  obtain ⟨A', c', e, _, _, h4⟩ := h
  injection e with e1
  subst e1
  obtain ⟨X, off, rfl, hc⟩ := h4 (by omega)
  refine ⟨X, off, rfl, fun j v hj => ?_⟩
  have h3 := hc.part (i * 3) (n * 3) j v
  refine h3 ?_
  have hfl : ∀ l : List Ne, (l.flatMap Ne.cells).length = l.length * 3 := fun l => by
    induction l with
    | nil => rfl
    | cons x l ih => rw [List.flatMap_cons, List.length_append, ih, Ne.len3, List.length_cons]; omega
  have e1 : (xs.flatMap Ne.cells).drop (i * 3) = (xs.drop i).flatMap Ne.cells := by
    conv => lhs; rw [← List.take_append_drop i xs]
    rw [List.flatMap_append, List.drop_append_of_le_length (by rw [hfl, List.length_take]; omega), List.drop_eq_nil_of_le (by rw [hfl, List.length_take]; omega), List.nil_append]
  have e2 : ((xs.drop i).flatMap Ne.cells).take (n * 3) = ((xs.drop i).take n).flatMap Ne.cells := by
    conv => lhs; rw [← List.take_append_drop n (xs.drop i)]
    have hl : (((xs.drop i).take n).flatMap Ne.cells).length = n * 3 := by rw [hfl, List.length_take, List.length_drop]; omega
    rw [List.flatMap_append, List.take_append_of_le_length (by omega), List.take_of_length_le (by omega)]
  rw [e1, e2]
  exact hj
theorem rcut_no (w : World) (v : Value) (xs : List Ne) (lo hi : Int) (hR : RowN (heapOf w) v xs) (hl : xs.length ≤ 100000) (hf : fIdx xs lo hi = none) :
    Calls Try.prog 19 #[v, .int .i64 lo, .int .i64 hi] w fun e w' => e = .returned (.tuple #[v, .int .i64 5]) ∧ w = w' := by
  have hfi : fI xs lo hi = -1 := by unfold fI; rw [hf]
  have CF := Lib.hid (rfind_any w v xs lo hi hR hl)
  rw [hfi] at CF
  obtain ⟨A, c, rfl, hc1, hc2, _⟩ := hR
  clear hfi hf hc1 hc2
  go_enter Try.func19, Try.ntmps19
  go_wp2_with (go_at_call 10; ((with_reducible refine Calls.mono CF.out ?_); rintro e w' ⟨rfl, rfl⟩))
  go_ret2
  exact ⟨rfl, rfl⟩
set_option maxHeartbeats 4000000 in
set_option maxRecDepth 100000 in
theorem rcut_yes (E w : World) (I : PH) (ms : List PH) (v : Value) (xs : List Ne) (lo hi : Int) (k : Nat) (hR : RowN I v xs) (hl : xs.length ≤ 100000) (hf : fIdx xs lo hi = some k) (hS : Sat E I ms w) :
    Calls Try.prog 19 #[v, .int .i64 lo, .int .i64 hi] w fun e w' => ∃ v' J, e = .returned (.tuple #[v', .int .i64 0]) ∧ I.le J ∧ RowN J v' (xs.eraseIdx k) ∧ Sat E J ms w' := by
  have hfi : fI xs lo hi = (k : Int) := by unfold fI; rw [hf]
  have hk : k < xs.length := by
    unfold fIdx at hf
    exact (List.findIdx?_eq_some_iff_getElem.1 hf).1
  have CF := Lib.hid (fun w' (h : I.le (heapOf w')) => rfind_any w' v xs lo hi (hR.le h) hl)
  rw [hfi] at CF
  have hR2 := hR
  obtain ⟨A, c, rfl, hc1, hc2, _⟩ := hR2
  have hA : ∃ X off, A = some ⟨X, off, none⟩ := by
    obtain ⟨X, off, h, _⟩ := hR.slice (i := 0) (n := 1) (by omega) (by omega)
    exact ⟨X, off, h⟩
  obtain ⟨X, off, rfl⟩ := hA
  have k0 : (0 : Int) ≤ (k : Int) := by omega
  have k1 : (k : Int) < (xs.length : Int) := by omega
  have k2 : (xs.length : Int) ≤ 100000 := by omega
  have k3 : (xs.length : Int) ≤ (c : Int) := by omega
  have HR := Lib.hid hR
  have Hc2 := Lib.hid hc2
  clear hfi hf hR hc2
  go_enter Try.func19, Try.ntmps19
  go_wp2_with (go_at_call 10; ((with_reducible refine Calls.mono (CF.out _ hS.ile) ?_); rintro e w' ⟨rfl, rfl⟩))
  have hA := HR.out.slice (i := 0) (n := k)
  have hB := HR.out.slice (i := k + 1) (n := xs.length - (k + 1))
  rw [Nat.zero_mul, List.drop_zero] at hA
  have hlk : ((xs.take k).flatMap Ne.cells).length = k * 3 := by
    have hfl : ∀ l : List Ne, (l.flatMap Ne.cells).length = l.length * 3 := fun l => by
      induction l with
      | nil => rfl
      | cons x l ih => rw [List.flatMap_cons, List.length_append, ih, Ne.len3, List.length_cons]; omega
    rw [hfl, List.length_take]; omega
  have hlr : (((xs.drop (k + 1)).take (xs.length - (k + 1))).flatMap Ne.cells).length = (xs.length - (k + 1)) * 3 := by
    have hfl : ∀ l : List Ne, (l.flatMap Ne.cells).length = l.length * 3 := fun l => by
      induction l with
      | nil => rfl
      | cons x l ih => rw [List.flatMap_cons, List.length_append, ih, Ne.len3, List.length_cons]; omega
    rw [hfl, List.length_take, List.length_drop]; omega
  have hone : ∀ l : List Ne, ∀ u ∈ l.flatMap Ne.cells, u.oneCell' = true := fun l u hu => by
    obtain ⟨n, _, hn⟩ := List.mem_flatMap.1 hu
    simp [Ne.cells] at hn
    rcases hn with rfl | rfl | rfl <;> rfl
  have her : (xs.take k ++ (xs.drop (k + 1)).take (xs.length - (k + 1))) = xs.eraseIdx k := by
    rw [List.eraseIdx_eq_take_drop_succ, List.take_of_length_le (l := xs.drop (k + 1)) (by simp)]
  have herl : (xs.eraseIdx k).length = k + (xs.length - (k + 1)) := by rw [← her, List.length_append, List.length_take, List.length_take, List.length_drop]; omega
  generalize hT : xs.take k = tk at *
  generalize hD : (xs.drop (k + 1)).take (xs.length - (k + 1)) = dk at *
  generalize hn : xs.length = n at *
  generalize hX : xs.eraseIdx k = ek at *
  have HA := Lib.hid hA
  have HB := Lib.hid hB
  have Hlk := Lib.hid hlk
  have Hlr := Lib.hid hlr
  have Hone := Lib.hid hone
  have Her := Lib.hid her
  have Herl := Lib.hid herl
  have HX := Lib.hid hX
  have k4 : n - (k + 1) ≤ 100000 := by omega
  have hck : c = k + 1 → n - (k + 1) = 0 := by omega
  clear hA hB hlk hlr hone her herl hX hT hD hn HR CF
  refine region_ch [[], [], [], [1, 2], [0, 1, 2, 3], [], [], [6], [5, 6, 7], [0, 1, 2, 3, 4, 5, 6, 7, 8], [0, 1, 2, 3, 4, 5, 6, 7, 8, 9], [0, 1, 2, 3, 4, 5, 6, 7, 8, 9, 10]] E I ms [] [] [fun _ _ => True, fun v _ => v = .slice (some ⟨X, off, none⟩) n c, fun v _ => v = .int .i64 (k : Int), fun v _ => v = .slice (some ⟨X, off, none⟩) k c, fun _ _ => True, fun v _ => v = .slice (some ⟨X, off, none⟩) n c, fun v _ => v = .int .i64 (k : Int), fun v _ => v = .int .i64 ((k : Int) + 1), fun v _ => ∃ A' c', v = .slice A' (n - (k + 1)) c' ∧ (0 < n - (k + 1) → A' = some ⟨X, off + (k + 1) * 3, none⟩), fun _ _ => True, fun _ _ => True, fun v _ => v = .int .i64 0]
    [0, 4, 9, 10] (rowG 38 3 [0, 4, 9, 10] [(0, []), (k, tk.flatMap Ne.cells), (k + (n - (k + 1)), (tk ++ dk).flatMap Ne.cells), (k + (n - (k + 1)), (tk ++ dk).flatMap Ne.cells)])
    (by kernel_rfl) (by kernel_rfl) (by rfl) .nil (by simpa using hS) rfl ?last (fun b hb => by cases hb) rowG.gst rowG.gle (fun b hb => by cases hb) (fun b hb => by cases hb) (fun b hb => by cases hb) ?plain ?step ?fin
  case last => repeat (first | exact Lasting.nil | refine Lasting.cons (fun _ _ _ _ h => h) ?_)
  case plain =>
    repeat' (first | exact trivial | apply And.intro)
    all_goals first
      | trivial
      | (refine .inl (by rfl))
      | ((refine .inr ?_; intro vals J bs w hg hJ hS; simp only [List.getD_cons_succ, List.getD_cons_zero, Given, Facts] at hg; simp only [textL, actL, dstAt, opAt, List.getD_cons_succ, List.getD_cons_zero, List.getElem?_cons_succ, List.getElem?_cons_zero, Option.bind_some, if_true, Act.put, List.setIfInBounds_toArray, List.set_cons_succ, List.set_cons_zero, hg]; refine ⟨?_⟩; refine wpStep_of (fun K hK => ?_); have HK := Lib.hid hK; clear hK; rw [if_pos (by rfl)]; (first | ((with_reducible refine atLoad ?_); first | ((refine' wp_ldi1 (v := _) hS hJ ?ha rfl ?hc ?_); (case ha => first | exact ty_agg3); (case hc => assumption))) | (go_wp2_with (first | fail))); (first | refine HK.out _ _ ⟨rfl, J, PH.le.refl _, hS, ?_⟩ | refine HK.out _ _ ⟨rfl, _, hJ2, hS, ?_⟩); clear HK; simp only [Facts, outOf, List.getD_cons_succ, List.getD_cons_zero, Act.put, List.setIfInBounds_toArray, List.set_cons_succ, List.set_cons_zero, Array.getD_eq_getD_getElem?, List.getElem?_toArray, List.getElem?_cons_succ, List.getElem?_cons_zero, Option.getD_some]); done)
      | (by_cases hcc : c = k + 1
         · have hz := hck hcc
           subst hcc
           ((refine .inr ?_; intro vals J bs w hg hJ hS; simp only [List.getD_cons_succ, List.getD_cons_zero, Given, Facts] at hg; simp only [textL, actL, dstAt, opAt, List.getD_cons_succ, List.getD_cons_zero, List.getElem?_cons_succ, List.getElem?_cons_zero, Option.bind_some, if_true, Act.put, List.setIfInBounds_toArray, List.set_cons_succ, List.set_cons_zero, hg]; refine ⟨?_⟩; refine wpStep_of (fun K hK => ?_); have HK := Lib.hid hK; clear hK; rw [if_pos (by rfl)]; (first | ((with_reducible refine atLoad ?_); first | ((refine' wp_ldi1 (v := _) hS hJ ?ha rfl ?hc ?_); (case ha => first | exact ty_agg3); (case hc => assumption))) | (go_wp2_with (first | fail))); (first | refine HK.out _ _ ⟨rfl, J, PH.le.refl _, hS, ?_⟩ | refine HK.out _ _ ⟨rfl, _, hJ2, hS, ?_⟩); clear HK; simp only [Facts, outOf, List.getD_cons_succ, List.getD_cons_zero, Act.put, List.setIfInBounds_toArray, List.set_cons_succ, List.set_cons_zero, Array.getD_eq_getD_getElem?, List.getElem?_toArray, List.getElem?_cons_succ, List.getElem?_cons_zero, Option.getD_some]); exact ⟨_, 0, by rw [hz], fun h => by omega⟩)
         · ((refine .inr ?_; intro vals J bs w hg hJ hS; simp only [List.getD_cons_succ, List.getD_cons_zero, Given, Facts] at hg; simp only [textL, actL, dstAt, opAt, List.getD_cons_succ, List.getD_cons_zero, List.getElem?_cons_succ, List.getElem?_cons_zero, Option.bind_some, if_true, Act.put, List.setIfInBounds_toArray, List.set_cons_succ, List.set_cons_zero, hg]; refine ⟨?_⟩; refine wpStep_of (fun K hK => ?_); have HK := Lib.hid hK; clear hK; rw [if_pos (by rfl)]; (first | ((with_reducible refine atLoad ?_); first | ((refine' wp_ldi1 (v := _) hS hJ ?ha rfl ?hc ?_); (case ha => first | exact ty_agg3); (case hc => assumption))) | (go_wp2_with (first | fail))); (first | refine HK.out _ _ ⟨rfl, J, PH.le.refl _, hS, ?_⟩ | refine HK.out _ _ ⟨rfl, _, hJ2, hS, ?_⟩); clear HK; simp only [Facts, outOf, List.getD_cons_succ, List.getD_cons_zero, Act.put, List.setIfInBounds_toArray, List.set_cons_succ, List.set_cons_zero, Array.getD_eq_getD_getElem?, List.getElem?_toArray, List.getElem?_cons_succ, List.getElem?_cons_zero, Option.getD_some]); exact ⟨_, _, rfl, fun _ => rfl⟩))
  case step =>
    refine ⟨⟨⟨⟨trivial, ?s0⟩, ?s1⟩, ?s2⟩, ?s3⟩
    case s0 =>
      intro vals J bs ns w' hg hJ hS hG
      subst hG
      simp only [List.getD_cons_succ, List.getD_cons_zero, Given, Facts] at hg; simp only [textL, actL, dstAt, opAt, List.getD_cons_succ, List.getD_cons_zero, List.getElem?_cons_succ, List.getElem?_cons_zero, Option.bind_some, if_true, Act.put, List.setIfInBounds_toArray, List.set_cons_succ, List.set_cons_zero, hg]; refine ⟨?_⟩; refine wpStep_of (fun K hK => ?_); have HK := Lib.hid hK; clear hK; rw [if_pos (by rfl)]
      refine wp_bsl (hS.perm (ns := ms ++ bs) (by simp)) (cs := #[]) (e := 38) (fun w0 => by go_simp) fun X0 w2 hS2 => ?_
      refine HK.out _ _ ⟨rfl, J, [PH.one X0 (.cells #[] 38)], PH.le.refl _, hS2.perm (perm_last ms bs _).symm, trivial, by decide, _, ?_, rfl⟩
      simp only [outOf, List.getD_cons_succ, List.getD_cons_zero, Act.put, List.setIfInBounds_toArray, List.set_cons_succ, List.set_cons_zero, Array.getD_eq_getD_getElem?, List.getElem?_toArray, List.getElem?_cons_succ, List.getElem?_cons_zero, Option.getD_some]
      rw [upd_self]
      exact OwnP.lit X0 _ 3 0 #[] (Nat.zero_le _) rfl
    case s1 =>
      intro vals J bs ns w' hg hJ hS hG
      obtain ⟨_, m, hO, rfl⟩ := hG
      simp only [List.getD_cons_succ, List.getD_cons_zero] at hO
      simp only [List.getD_cons_succ, List.getD_cons_zero, Given, Facts] at hg; simp only [textL, actL, dstAt, opAt, List.getD_cons_succ, List.getD_cons_zero, List.getElem?_cons_succ, List.getElem?_cons_zero, Option.bind_some, if_true, Act.put, List.setIfInBounds_toArray, List.set_cons_succ, List.set_cons_zero, hg]; refine ⟨?_⟩; refine wpStep_of (fun K hK => ?_); have HK := Lib.hid hK; clear hK; rw [if_pos (by rfl)]
      refine wp_apS (hS.perm (perm_last ms bs m)) 0 rfl (p := J) (.inl (PH.le.refl _)) rfl Try.underlying26 ninfo rfl (by decide) rfl hO rfl Hlk.out (fun h => ?_) (Hone.out _) (by unfold maxLen; omega) (by omega) fun v' m' w2 hO2 hS2 => ?_
      · obtain ⟨X', off', e, hc'⟩ := HA.out (by omega) h
        injection e with e
        injection e with e1 e2
        subst e1 e2
        exact ⟨X, off, rfl, hc'.le hJ⟩
      · simp only [List.set_cons_zero] at hS2
        refine HK.out _ _ ⟨rfl, J, [m'], PH.le.refl _, hS2.perm (perm_last ms bs m').symm, trivial, by decide, m', ?_, rfl⟩
        simp only [outOf, List.getD_cons_succ, List.getD_cons_zero, Act.put, List.setIfInBounds_toArray, List.set_cons_succ, List.set_cons_zero, Array.getD_eq_getD_getElem?, List.getElem?_toArray, List.getElem?_cons_succ, List.getElem?_cons_zero, Option.getD_some]
        rw [upd_self]
        simpa using hO2
    case s2 =>
      intro vals J bs ns w' hg hJ hS hG
      obtain ⟨_, m, hO, rfl⟩ := hG
      simp only [List.getD_cons_succ, List.getD_cons_zero] at hO
      simp only [List.getD_cons_succ, List.getD_cons_zero, Given, Facts, true_and, and_true] at hg
      obtain ⟨_, _, _, _, _, _, A8, c8, e8, h8⟩ := hg
      have hg := e8
      simp only [textL, actL, dstAt, opAt, List.getD_cons_succ, List.getD_cons_zero, List.getElem?_cons_succ, List.getElem?_cons_zero, Option.bind_some, if_true, Act.put, List.setIfInBounds_toArray, List.set_cons_succ, List.set_cons_zero, hg]
      refine ⟨?_⟩
      refine wpStep_of (fun K hK => ?_)
      have HK := Lib.hid hK
      clear hK
      rw [if_pos (by rfl)]
      refine wp_apS (hS.perm (perm_last ms bs m)) 0 rfl (p := J) (.inl (PH.le.refl _)) rfl Try.underlying26 ninfo rfl (by decide) rfl hO rfl Hlr.out (fun h => ?_) (Hone.out _) (by unfold maxLen; omega) (by omega) fun v' m' w2 hO2 hS2 => ?_
      · obtain ⟨X', off', e, hc'⟩ := HB.out (by omega) h
        injection e with e
        injection e with e1 e2
        subst e1 e2
        exact ⟨X, off + (k + 1) * 3, h8 h, hc'.le hJ⟩
      · simp only [List.set_cons_zero] at hS2
        refine HK.out _ _ ⟨rfl, J, [m'], PH.le.refl _, hS2.perm (perm_last ms bs m').symm, trivial, by decide, m', ?_, rfl⟩
        simp only [outOf, List.getD_cons_succ, List.getD_cons_zero, Act.put, List.setIfInBounds_toArray, List.set_cons_succ, List.set_cons_zero, Array.getD_eq_getD_getElem?, List.getElem?_toArray, List.getElem?_cons_succ, List.getElem?_cons_zero, Option.getD_some]
        rw [upd_self, List.flatMap_append]
        exact hO2
    case s3 =>
      intro vals J bs ns w' hg hJ hS hG
      obtain ⟨_, m, hO, rfl⟩ := hG
      simp only [List.getD_cons_succ, List.getD_cons_zero] at hO
      simp only [List.getD_cons_succ, List.getD_cons_zero, Given, Facts] at hg; simp only [textL, actL, dstAt, opAt, List.getD_cons_succ, List.getD_cons_zero, List.getElem?_cons_succ, List.getElem?_cons_zero, Option.bind_some, if_true, Act.put, List.setIfInBounds_toArray, List.set_cons_succ, List.set_cons_zero, hg]; refine ⟨?_⟩; refine wpStep_of (fun K hK => ?_); have HK := Lib.hid hK; clear hK; rw [if_pos (by rfl)]
      refine wp_as ?_
      refine HK.out _ _ ⟨rfl, J, [m], PH.le.refl _, hS, trivial, by decide, m, ?_, rfl⟩
      simp only [outOf, List.getD_cons_succ, List.getD_cons_zero, Act.put, List.setIfInBounds_toArray, List.set_cons_succ, List.set_cons_zero, Array.getD_eq_getD_getElem?, List.getElem?_toArray, List.getElem?_cons_succ, List.getElem?_cons_zero, Option.getD_some]
      rw [upd_self]
      exact hO
  case fin =>
    intro vals J bs ns w hJ hg hS hB hG
    cases hB
    obtain ⟨_, m, hO, rfl⟩ := hG
    simp only [List.getD_cons_succ, List.getD_cons_zero] at hO
    have hg : vals 11 = .int .i64 0 := hg.get 11 (by decide)
    simp only [List.length_cons, List.length_nil, Nat.reduceAdd, textL, actL, dstAt, opAt, List.getD_cons_succ, List.getD_cons_zero, List.getElem?_cons_succ, List.getElem?_cons_zero, Option.bind_some, if_true, Act.put, List.setIfInBounds_toArray, List.set_cons_succ, List.set_cons_zero, hg]
    refine ⟨?_⟩
    have hO2 : OwnP m 38 3 (vals 10) ek.length (ek.flatMap Ne.cells) := by rw [← Her.out, Her.out, Herl.out, ← Her.out]; exact hO
    have HO := Lib.hid hO2
    clear hO hO2 hg
    generalize vals 10 = v10 at *
    go_wp2
    go_ret2
    obtain ⟨J2, j1, j2, hS3⟩ := frz1 (hS.perm (perm_last ms [] m))
    exact ⟨_, rfl, J2, hJ.trans j1, by rw [HX.out]; exact HO.out.row j2, by simpa using hS3⟩
end Go.Proofs.Ytmgjoggffnogfaa
