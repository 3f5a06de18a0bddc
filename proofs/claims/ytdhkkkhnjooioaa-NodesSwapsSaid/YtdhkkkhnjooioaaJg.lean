import Derived.Test.YtdhkkkhnjooioaaJf
namespace Go.Proofs.Ytdhkkkhnjooioaa
set_option linter.unusedSimpArgs false
set_option linter.unusedVariables false
open Go.RowKit
set_option linter.unusedVariables false
theorem own_set {m' : PH} {e : TypeId} {A : Option Addr} {n c i : Nat} {l : List Nat} {x : Nat} (hi : i < l.length) (h : OwnP m' e 1 (.slice A n c) n (spl (l.flatMap ivC) i (Value.cells (nv x)).toList)) : OwnP m' e 1 (.slice A n c) n ((l.set i x).flatMap ivC) := by
  rw [← flat_set ivC_len _ _ hi, Nat.mul_one]
  exact h
set_option maxRecDepth 100000 in
set_option maxHeartbeats 8000000 in
theorem lswap_any {E w : World} {I mV mL : PH} {ms : List PH} {L k a b : Nat} {vV vL : Value} {vs lv : List Nat} (i0 : I.at L 0 = some vV) (i1 : I.at L 1 = some vL) (hV : OwnP mV 3 1 vV vs.length (vs.flatMap ivC)) (hL : OwnP mL 3 1 vL lv.length (lv.flatMap ivC))
    (hk : k + 1 < vs.length) (ha : vs[k]? = some a) (hb : vs[k + 1]? = some b) (hal : a < lv.length) (hbl : b < lv.length) (hn1 : vs.length ≤ 64) (hn2 : lv.length ≤ 64) (hS : Sat E I (mV :: mL :: ms) w) :
    Calls Try.prog 55 #[vPt L, nv k] w fun e w' => e = .returned (.tuple #[]) ∧ ∃ mV' mL', OwnP mV' 3 1 vV vs.length (((vs.set k b).set (k + 1) a).flatMap ivC) ∧ OwnP mL' 3 1 vL lv.length (((lv.set a (k + 1)).set b k).flatMap ivC) ∧ Sat E I (mV' :: mL' :: ms) w' := by
  obtain ⟨V, cV, rfl, _⟩ := hV.ptr (by omega)
  obtain ⟨LL, cL, rfl, _⟩ := hL.ptr (by omega)
  generalize hk1 : k + 1 = k1 at *
  have hkk : (k : Int) + 1 = (k1 : Int) := by omega
  have hk0 : k < vs.length := by omega
  have cA : Cells mV V k (ivC a) := by have := flat_cells ivC_len hV ha; rwa [Nat.mul_one] at this
  have cB : Cells mV V k1 (ivC b) := by have := flat_cells ivC_len hV hb; rwa [Nat.mul_one] at this
  have h1 : ∀ m', OwnP m' 3 1 (.slice (some ⟨V, 0, none⟩) vs.length cV) vs.length (spl (vs.flatMap ivC) k (Value.cells (nv b)).toList) → OwnP m' 3 1 (.slice (some ⟨V, 0, none⟩) vs.length cV) vs.length ((vs.set k b).flatMap ivC) := fun m' h => own_set hk0 h
  have h2 : ∀ m', OwnP m' 3 1 (.slice (some ⟨V, 0, none⟩) vs.length cV) vs.length (spl ((vs.set k b).flatMap ivC) k1 (Value.cells (nv a)).toList) → OwnP m' 3 1 (.slice (some ⟨V, 0, none⟩) vs.length cV) vs.length (((vs.set k b).set k1 a).flatMap ivC) := fun m' h => own_set (by simpa using hk) h
  have h3 : ∀ m', OwnP m' 3 1 (.slice (some ⟨LL, 0, none⟩) lv.length cL) lv.length (spl (lv.flatMap ivC) a (Value.cells (nv k1)).toList) → OwnP m' 3 1 (.slice (some ⟨LL, 0, none⟩) lv.length cL) lv.length ((lv.set a k1).flatMap ivC) := fun m' h => own_set hal h
  have h4 : ∀ m', OwnP m' 3 1 (.slice (some ⟨LL, 0, none⟩) lv.length cL) lv.length (spl ((lv.set a k1).flatMap ivC) b (Value.cells (nv k)).toList) → OwnP m' 3 1 (.slice (some ⟨LL, 0, none⟩) lv.length cL) lv.length (((lv.set a k1).set b k).flatMap ivC) := fun m' h => own_set (by simpa using hbl) h
  have H1 := Lib.hid h1
  have H2 := Lib.hid h2
  have H3 := Lib.hid h3
  have H4 := Lib.hid h4
  have HV := Lib.hid hV
  have HL := Lib.hid hL
  have ki : (k : Int) < (vs.length : Int) := by omega
  have k1i : (k1 : Int) < (vs.length : Int) := by omega
  have ai : (a : Int) < (lv.length : Int) := by omega
  have bi : (b : Int) < (lv.length : Int) := by omega
  obtain ⟨J, lJ, lV, hS1, bV⟩ := hS.ice
  have j0 : J.at L 0 = some (.slice (some ⟨V, 0, none⟩) vs.length cV) := PH.at_le lJ i0
  have jA : J.at V k = some (nv a) := PH.at_le lV (cA.at 0 rfl)
  have jB : J.at V k1 = some (nv b) := PH.at_le lV (cB.at 0 rfl)
  have HbV := Lib.hid bV
  clear h1 h2 h3 h4 hV hL cA cB ha hb hS bV lV lJ
  generalize hvn : vs.length = n at *
  generalize hln : lv.length = n2 at *
  go_enter Try.func55, Try.ntmps55
  go_wp2_with fail
  refine region_c1 [[], [0], [0, 1], [0, 1, 2], [], [0, 1, 2, 3, 4], [0, 1, 2, 3, 4, 5], [], [7], [7, 8], [7, 8, 9], [], [11], [7, 8, 9, 10, 11, 12], [7, 8, 9, 10, 11, 12, 13], [0, 1, 2, 3, 4, 5, 6], [0, 1, 2, 3, 4, 5, 6, 7, 8, 9, 10, 11, 12, 13, 14, 15]] E J _
    [fun v _ => v = vPt L, fun v _ => v = vPt L, fun v _ => v = vPt L, fun v _ => v = .slice (some ⟨V, 0, none⟩) n cV, fun v _ => v = nv k, fun v _ => v = .pointer (some ⟨V, k, none⟩), fun v _ => v = nv a, fun v _ => v = vPt L, fun v _ => v = vPt L, fun v _ => v = vPt L, fun v _ => v = .slice (some ⟨V, 0, none⟩) n cV, fun v _ => v = nv k, fun v _ => v = nv k1, fun v _ => v = .pointer (some ⟨V, k1, none⟩), fun v _ => v = nv b, fun v _ => v = nv a, fun v _ => v = nv b] []
    (fun _ _ _ ns => ns = mL :: ms) (by kernel_rfl) (by kernel_rfl) (by decide) hS1 rfl ?last (fun _ _ _ _ _ _ h => h) (fun _ _ _ _ _ _ h => h) ?plain ?step ?fin
  case last => repeat (first | exact Lasting.nil | refine Lasting.cons (fun _ _ _ _ h => h) ?_)
  case plain => (repeat' (first | exact trivial | apply And.intro)) <;> first | trivial | exact .inl rfl | (refine .inr ?_; intro s vals J bs w hstop hg hJ hS hG; clear hG; simp only [zH, zI, Given, Facts] at hg; simp only [textL, actL, dstAt, opAt, zH, zI, zA, zB, zK, if_true, Act.put, zE, zF, zG, hg]; refine ⟨?_⟩; refine wpStep_of (fun K hK => ?_); have HK := Lib.hid hK; clear hK; rw [if_pos (by rfl)]; (first | ((with_reducible refine atLoad ?_); first | ((refine' wp_ldi1 (v := _) hS hJ ?ha rfl ?hc ?_); (case ha => first | exact ty_agg27 | exact ty_agg3); (case hc => assumption))) | (go_wp2_with (first | fail))); refine HK.out _ _ ⟨rfl, J, PH.le.refl _, hS, ?_⟩; clear HK; simp only [Facts]; simp only [outOf, zH, zI, Act.put, zE, zF, zG, zD, zC, zA, zB, zJ])
  case step => trivial
  case fin =>
    intro vals J9 bs w hJ hg hS hG
    have hG : bs = _ := hG
    subst hG
    have hS := HbV.out _ _ (hS.less hJ)
    clear j0 jA jB HbV hJ hS1
    simp only [List.length_cons, List.length_nil, Nat.reduceAdd, Below_, Facts, zH, zI, true_and, and_true] at hg; simp only [List.length_cons, List.length_nil, Nat.reduceAdd, textL, actL, dstAt, opAt, zH, zI, zA, zB, zK, if_true, Act.put, zE, zF, zG, hg]; refine ⟨?_⟩
    clear hg
    go_wp2_with fail
    refine region_c1 [[], [0], [0, 1], [0, 1, 2], [], [], [5], [5, 6], [5, 6, 7], [], [9], [], [], [0, 1, 2, 3, 4, 5, 6, 7, 8, 11], [0, 1, 2, 3, 4, 5, 6, 7, 8, 11, 13], [0, 1, 2, 3, 4, 5, 6, 7, 8, 9, 10, 11, 12, 13, 14], [0, 1, 2, 3, 4, 5, 6, 7, 8, 9, 10, 11, 12, 13, 14, 15]] E I _
      [fun v _ => v = vPt L, fun v _ => v = vPt L, fun v _ => v = vPt L, fun v _ => v = .slice (some ⟨V, 0, none⟩) n cV, fun v _ => v = nv k, fun v _ => v = vPt L, fun v _ => v = vPt L, fun v _ => v = vPt L, fun v _ => v = .slice (some ⟨V, 0, none⟩) n cV, fun v _ => v = nv k, fun v _ => v = nv k1, fun v _ => v = nv b, fun v _ => v = nv a, fun v _ => v = .pointer (some ⟨V, k, none⟩), fun _ _ => True, fun v _ => v = .pointer (some ⟨V, k1, none⟩), fun _ _ => True] [14, 16]
      (set2G _ 0 0 (fun m' => OwnP m' 3 1 (.slice (some ⟨V, 0, none⟩) n cV) n ((vs.set k b).flatMap ivC)) (fun m' => OwnP m' 3 1 (.slice (some ⟨V, 0, none⟩) n cV) n (((vs.set k b).set k1 a).flatMap ivC))) (by kernel_rfl) (by kernel_rfl) (by decide) hS rfl ?last (fun _ _ _ _ _ _ h => h) (fun _ _ _ _ _ _ h => h) ?plain ?step ?fin
    case last => repeat (first | exact Lasting.nil | refine Lasting.cons (fun _ _ _ _ h => h) ?_)
    case plain => (repeat' (first | exact trivial | apply And.intro)) <;> first | trivial | exact .inl rfl | (refine .inr ?_; intro s vals J bs w hstop hg hJ hS hG; clear hG; simp only [zH, zI, Given, Facts] at hg; simp only [textL, actL, dstAt, opAt, zH, zI, zA, zB, zK, if_true, Act.put, zE, zF, zG, hg]; refine ⟨?_⟩; refine wpStep_of (fun K hK => ?_); have HK := Lib.hid hK; clear hK; rw [if_pos (by rfl)]; (first | ((with_reducible refine atLoad ?_); first | ((refine' wp_ldi1 (v := _) hS hJ ?ha rfl ?hc ?_); (case ha => first | exact ty_agg27 | exact ty_agg3); (case hc => assumption))) | (go_wp2_with (first | fail))); refine HK.out _ _ ⟨rfl, J, PH.le.refl _, hS, ?_⟩; clear HK; simp only [Facts]; simp only [outOf, zH, zI, Act.put, zE, zF, zG, zD, zC, zA, zB, zJ])
    case step =>
      refine ⟨⟨trivial, ?_⟩, ?_⟩
      · intro vals J bs w hg hJ hS hG
        have hG : bs = _ := hG
        subst hG
        simp only [zH, zI, Given, Facts] at hg; simp only [textL, actL, dstAt, opAt, zH, zI, zA, zB, zK, if_true, Act.put, zE, zF, zG, hg]; refine ⟨?_⟩; refine wpStep_of (fun K hK => ?_); have HK := Lib.hid hK; clear hK; rw [if_pos (by rfl)]
        refine wp_stO (i := k) hS 0 rfl rfl rfl rfl HV.out (Nat.mul_one k).symm hk0 ty_sz3 rfl (iv_one b) fun m' w hO' hS => ?_
        exact HK.out _ _ ⟨rfl, J, _, PH.le.refl _, hS, trivial, m', H1.out _ hO', rfl⟩
      · intro vals J bs w hg hJ hS hG
        refine Veil.out ?_
        obtain ⟨mm, hmm, hG⟩ := hG
        subst hG
        refine ⟨?_⟩
        simp only [zH, zI, Given, Facts] at hg; simp only [textL, actL, dstAt, opAt, zH, zI, zA, zB, zK, if_true, Act.put, zE, zF, zG, hg]; refine ⟨?_⟩; refine wpStep_of (fun K hK => ?_); have HK := Lib.hid hK; clear hK; rw [if_pos (by rfl)]
        refine wp_stO (i := k1) hS 0 rfl rfl rfl rfl hmm (Nat.mul_one k1).symm hk ty_sz3 rfl (iv_one a) fun m' w hO' hS => ?_
        exact HK.out _ _ ⟨rfl, J, _, PH.le.refl _, hS, trivial, mm, m', hmm, H2.out _ hO', rfl⟩
    case fin =>
      intro vals J9 bs w hJ hg hS hG
      obtain ⟨_, mV', _, hV', hns⟩ := hG
      subst hns
      have hS := hS.less hJ
      simp only [zG] at hS
      have HV' := Lib.hid hV'
      clear hV' hJ
      simp only [List.length_cons, List.length_nil, Nat.reduceAdd, Below_, Facts, zH, zI, true_and, and_true] at hg; simp only [List.length_cons, List.length_nil, Nat.reduceAdd, textL, actL, dstAt, opAt, zH, zI, zA, zB, zK, if_true, Act.put, zE, zF, zG, hg]; refine ⟨?_⟩
      clear hg
      go_wp2_with fail
      refine region_c1 [[], [0], [0, 1], [0, 1, 2], [], [], [5], [5, 6], [5, 6, 7], [], [], [10], [], [0, 1, 2, 3, 4, 5, 6, 7, 8, 10, 11], [0, 1, 2, 3, 4, 5, 6, 7, 8, 10, 11, 13], [0, 1, 2, 3, 4, 5, 6, 7, 8, 9, 10, 11, 12, 13, 14], [0, 1, 2, 3, 4, 5, 6, 7, 8, 9, 10, 11, 12, 13, 14, 15]] E I _
        [fun v _ => v = vPt L, fun v _ => v = vPt L, fun v _ => v = .pointer (some ⟨L, 1, none⟩), fun v _ => v = .slice (some ⟨LL, 0, none⟩) n2 cL, fun v _ => v = nv a, fun v _ => v = vPt L, fun v _ => v = vPt L, fun v _ => v = .pointer (some ⟨L, 1, none⟩), fun v _ => v = .slice (some ⟨LL, 0, none⟩) n2 cL, fun v _ => v = nv b, fun v _ => v = nv k, fun v _ => v = nv k1, fun v _ => v = nv k, fun v _ => v = .pointer (some ⟨LL, a, none⟩), fun _ _ => True, fun v _ => v = .pointer (some ⟨LL, b, none⟩), fun _ _ => True] [14, 16]
        (set2G _ 1 1 (fun m' => OwnP m' 3 1 (.slice (some ⟨LL, 0, none⟩) n2 cL) n2 ((lv.set a k1).flatMap ivC)) (fun m' => OwnP m' 3 1 (.slice (some ⟨LL, 0, none⟩) n2 cL) n2 (((lv.set a k1).set b k).flatMap ivC))) (by kernel_rfl) (by kernel_rfl) (by decide) hS rfl ?last (fun _ _ _ _ _ _ h => h) (fun _ _ _ _ _ _ h => h) ?plain ?step ?fin
      case last => repeat (first | exact Lasting.nil | refine Lasting.cons (fun _ _ _ _ h => h) ?_)
      case plain => (repeat' (first | exact trivial | apply And.intro)) <;> first | trivial | exact .inl rfl | (refine .inr ?_; intro s vals J bs w hstop hg hJ hS hG; clear hG; simp only [zH, zI, Given, Facts] at hg; simp only [textL, actL, dstAt, opAt, zH, zI, zA, zB, zK, if_true, Act.put, zE, zF, zG, hg]; refine ⟨?_⟩; refine wpStep_of (fun K hK => ?_); have HK := Lib.hid hK; clear hK; rw [if_pos (by rfl)]; (first | ((with_reducible refine atLoad ?_); first | ((refine' wp_ldi1 (v := _) hS hJ ?ha rfl ?hc ?_); (case ha => first | exact ty_agg27 | exact ty_agg3); (case hc => assumption))) | (go_wp2_with (first | fail))); refine HK.out _ _ ⟨rfl, J, PH.le.refl _, hS, ?_⟩; clear HK; simp only [Facts]; simp only [outOf, zH, zI, Act.put, zE, zF, zG, zD, zC, zA, zB, zJ])
      case step =>
        refine ⟨⟨trivial, ?_⟩, ?_⟩
        · intro vals J bs w hg hJ hS hG
          have hG : bs = _ := hG
          subst hG
          simp only [zH, zI, Given, Facts] at hg; simp only [textL, actL, dstAt, opAt, zH, zI, zA, zB, zK, if_true, Act.put, zE, zF, zG, hg]; refine ⟨?_⟩; refine wpStep_of (fun K hK => ?_); have HK := Lib.hid hK; clear hK; rw [if_pos (by rfl)]
          refine wp_stO (i := a) hS 1 rfl rfl rfl rfl HL.out (Nat.mul_one a).symm hal ty_sz3 rfl (iv_one k1) fun m' w hO' hS => ?_
          exact HK.out _ _ ⟨rfl, J, _, PH.le.refl _, hS, trivial, m', H3.out _ hO', rfl⟩
        · intro vals J bs w hg hJ hS hG
          refine Veil.out ?_
          obtain ⟨mm, hmm, hG⟩ := hG
          subst hG
          refine ⟨?_⟩
          simp only [zH, zI, Given, Facts] at hg; simp only [textL, actL, dstAt, opAt, zH, zI, zA, zB, zK, if_true, Act.put, zE, zF, zG, hg]; refine ⟨?_⟩; refine wpStep_of (fun K hK => ?_); have HK := Lib.hid hK; clear hK; rw [if_pos (by rfl)]
          refine wp_stO (i := b) hS 1 rfl rfl rfl rfl hmm (Nat.mul_one b).symm hbl ty_sz3 rfl (iv_one k) fun m' w hO' hS => ?_
          exact HK.out _ _ ⟨rfl, J, _, PH.le.refl _, hS, trivial, mm, m', hmm, H4.out _ hO', rfl⟩
      case fin =>
        intro vals J9 bs w hJ hg hS hG
        obtain ⟨_, mL', _, hL', hns⟩ := hG
        subst hns
        have hS := hS.less hJ
        simp only [zG, zF] at hS
        have HL' := Lib.hid hL'
        clear hL' hJ
        simp only [List.length_cons, List.length_nil, Nat.reduceAdd, Below_, Facts, zH, zI, true_and, and_true] at hg; simp only [List.length_cons, List.length_nil, Nat.reduceAdd, textL, actL, dstAt, opAt, zH, zI, zA, zB, zK, if_true, Act.put, zE, zF, zG, hg]; refine ⟨?_⟩
        clear hg
        go_wp2_with fail
        go_end0
        exact ⟨rfl, mV', mL', HV'.out, HL'.out, hS⟩
end Go.Proofs.Ytdhkkkhnjooioaa
