import Derived.Test.YtdhkkkhnjooioaaHd
namespace Go.Proofs.Ytdhkkkhnjooioaa
set_option linter.unusedSimpArgs false
set_option linter.unusedVariables false
open Go.RowKit
set_option linter.unusedVariables false
theorem nd0_one : ∀ u ∈ (Value.cells (.agg node0)).toList, u.oneCell' = true := by simp [Value.cells, Value.oneCell', node0]
set_option maxRecDepth 100000 in
set_option maxHeartbeats 4000000 in
theorem pgive_any (E w : World) (I m : PH) (ms : List PH) (P : Nat) (p : G.Pl) (id : Nat) (old : G.Nd) (hn : p.nd id = some old) (hfl : p.free.length < p.slots.length) (hP : PoolAt P p m) (hS : Sat E I (m :: ms) w) :
    Calls Try.prog 68 #[.pointer (some ⟨P, 0, none⟩), nv id] w fun e w' => e = .returned (.int .i64 0) ∧ ∃ m', PoolAt P (p.give id) m' ∧ Sat E I (m' :: ms) w' := by
  have hR := hP.read
  obtain ⟨hf, A, cA, T, cT, vF, mA, mT, mF, hbd, hA, hT, hF⟩ := hP
  obtain ⟨g1, g2⟩ := G.Pl.nd_some.1 hn
  have hlt := (List.getElem?_eq_some_iff.1 g2).1
  have his : p.isI (id : Int) = true := G.Pl.isI_of g1 g2
  have hgive : p.give id = { p with slots := p.slots.set id none, free := p.free ++ [id] } := by unfold G.Pl.give; rw [if_pos (by rw [hn]; rfl)]
  have hmany := G.many_set_none g2
  have hml := G.many_le p.slots
  have hlen := hf.len
  have hroom := hf.room
  have hfin : ∀ m1 m2 m3 F cF, OwnP m1 59 5 (.slice (some ⟨A, 0, none⟩) p.slots.length cA) p.slots.length (spl (p.slots.zipIdx.flatMap ndC) (id * 5) node0.toList) → OwnP m2 4 1 (.slice (some ⟨T, 0, none⟩) p.slots.length cT) p.slots.length (spl (p.slots.flatMap tkC) id [.bool false]) →
      OwnP m3 3 1 (.slice F (p.free.length + 1) cF) (p.free.length + 1) (p.free.flatMap ivC ++ [nv id]) →
      ∀ w', Sat E I (PH.one P (.cells #[nv p.room, .slice (some ⟨A, 0, none⟩) p.slots.length cA, .slice (some ⟨T, 0, none⟩) p.slots.length cT, .slice F (p.free.length + 1) cF, .int .i64 ((G.many p.slots : Int) - 1)] 112) :: m1 :: m2 :: m3 :: ms) w' → ∃ m', PoolAt P (p.give id) m' ∧ Sat E I (m' :: ms) w' := fun m1 m2 m3 F cF hO1 hO2 hO3 w' hS' => by
    obtain ⟨m4, hb2, hS2⟩ := Sat.pack [PH.one P (.cells #[nv p.room, .slice (some ⟨A, 0, none⟩) p.slots.length cA, .slice (some ⟨T, 0, none⟩) p.slots.length cT, .slice F (p.free.length + 1) cF, .int .i64 ((G.many p.slots : Int) - 1)] 112), m1, m2, m3] hS'
    rw [hgive]
    refine ⟨m4, ⟨hf.set (fun _ h => by cases h) (by simp; omega), A, cA, T, cT, .slice F (p.free.length + 1) cF, m1, m2, m3, ?_, ?_, ?_, ?_⟩, hS2⟩
    · simp only [plV, List.length_set]
      rw [show nv (G.many (p.slots.set id none)) = .int .i64 ((G.many p.slots : Int) - 1) by simp only [nv]; congr 1; omega]
      exact hb2
    · simp only [List.length_set]
      rw [← zip_flat_set _ _ hlt]
      exact hO1
    · simp only [List.length_set]
      rw [← flat_set tkC_len _ _ hlt, Nat.mul_one]
      exact hO2
    · simp only [List.length_append, List.length_cons, List.length_nil, List.flatMap_append]
      exact hO3
  have Hfin := Lib.hid hfin
  have HR := Lib.hid hR
  have HOA := Lib.hid hA
  have HOT := Lib.hid hT
  have HOF := Lib.hid hF
  have hall : ∀ (E' w' : World) (J : PH) (ms' : List PH), Sat E' J ms' w' → (∀ q ∈ [PH.one P (.cells (plV p A cA T cT vF) 112), mA, mT, mF], q ∈ ms') → PoolR (heapOf w') P p := fun _ _ _ _ h hl => by
    have := h.all_le hl
    rw [← hbd.1] at this
    exact HR.out.le this
  have Hall := Lib.hid hall
  obtain ⟨nF, cF, hvF, _⟩ := hF.shape
  subst hvF
  have hS := Sat.unpack hbd hS
  clear hfin hA hT hF hf hbd hall hR HR hgive hn g2
  simp only [List.cons_append, List.nil_append] at hS
  go_enter Try.func68, Try.ntmps68
  go_wp2_with (first | (go_at_call 72; (with_reducible refine Calls.mono (is_any (Hall.out _ _ _ _ hS (by simp)) _) ?_); rintro e w9 ⟨rfl, rfl⟩; rw [his]) | ((with_reducible refine atList ?_); first | ((with_reducible refine isLoad ?_); (first | (refine ld1 0 hS rfl rfl ?ha rfl rfl rfl ?_; (case ha => exact ty_agg3)) | ((refine' ldI1 (v := _) hS rfl rfl ?ha rfl ?hb ?_); (case ha => exact ty_agg3); (case hb => assumption))); (try simp only [Act.put, zE, zF, zG])) | ((with_reducible refine isStore ?_); (first | (refine st1 0 hS rfl rfl rfl rfl rfl ?ha rfl rfl ?hb ?_; (case ha => first | exact ty_sz4 | exact ty_sz3); (case hb => (simp; done)))); clear hS; intro w hS; (try simp only [zF, zG, zE, Act.eval, zD, zC, zA, zB, zJ, Value.cells] at hS); (try simp only [Act.put, zE, zF, zG]))))
  obtain ⟨I2, l12, lP, hS2, bP⟩ := hS.ice
  have iP1 : I2.at P 1 = some (.slice (some ⟨A, 0, none⟩) p.slots.length cA) := PH.at_le lP (at_one rfl)
  have iP2 : I2.at P 2 = some (.slice (some ⟨T, 0, none⟩) p.slots.length cT) := PH.at_le lP (at_one rfl)
  have HbP := Lib.hid bP
  clear hS bP lP l12 Hall
  refine region_c1 [[], [0], [0, 1], [0, 1, 2], [], [], [5], [5, 6], [5, 6, 7], [], [], [0, 1, 2, 3, 4, 5, 6, 7, 8, 10], [0, 1, 2, 3, 4, 5, 6, 7, 8, 10, 11], [0, 1, 2, 3, 4, 5, 6, 7, 8, 9, 10, 11, 12], [0, 1, 2, 3, 4, 5, 6, 7, 8, 9, 10, 11, 12, 13]] E I2 _
    [fun v _ => v = vPt P, fun v _ => v = vPt P, fun v _ => v = .pointer (some ⟨P, 1, none⟩), fun v _ => v = .slice (some ⟨A, 0, none⟩) p.slots.length cA, fun v _ => v = nv id, fun v _ => v = vPt P, fun v _ => v = vPt P, fun v _ => v = .pointer (some ⟨P, 2, none⟩), fun v _ => v = .slice (some ⟨T, 0, none⟩) p.slots.length cT, fun v _ => v = nv id, fun v _ => v = .agg node0, fun v _ => v = .pointer (some ⟨A, id * 5, none⟩), fun _ _ => True, fun v _ => v = .pointer (some ⟨T, id, none⟩), fun _ _ => True] [12, 14]
    (set2G _ 0 1 (fun m' => OwnP m' 59 5 (.slice (some ⟨A, 0, none⟩) p.slots.length cA) p.slots.length (spl (p.slots.zipIdx.flatMap ndC) (id * 5) node0.toList)) (fun m' => OwnP m' 4 1 (.slice (some ⟨T, 0, none⟩) p.slots.length cT) p.slots.length (spl (p.slots.flatMap tkC) id [.bool false]))) (by kernel_rfl) (by kernel_rfl) (by decide) hS2 rfl ?last (fun _ _ _ _ _ _ h => h) (fun _ _ _ _ _ _ h => h) ?plain ?step ?fin
  case last => repeat (first | exact Lasting.nil | refine Lasting.cons (fun _ _ _ _ h => h) ?_)
  case plain => (repeat' (first | exact trivial | apply And.intro)) <;> first | trivial | exact .inl rfl | (refine .inr ?_; intro s vals J bs w hstop hg hJ hS hG; clear hG; simp only [zH, zI, Given, Facts] at hg; simp only [textL, actL, dstAt, opAt, zH, zI, zA, zB, zK, if_true, Act.put, zE, zF, zG, hg]; refine ⟨?_⟩; refine wpStep_of (fun K hK => ?_); have HK := Lib.hid hK; clear hK; rw [if_pos (by rfl)]; (first | ((with_reducible refine atLoad ?_); first | ((refine' wp_ldi1 (v := _) hS hJ ?ha rfl ?hc ?_); (case ha => first | exact ty_agg48 | exact ty_agg32 | exact ty_agg3); (case hc => assumption)) | ((refine' wp_ldiN (vs := _) hS hJ ?ha rfl ?hc ?hb ?_); (case ha => first | exact ty_agg59); (case hc => assumption); (case hb => first | exact ty_sz59))) | (go_wp2_with (first | fail))); refine HK.out _ _ ⟨rfl, J, PH.le.refl _, hS, ?_⟩; clear HK; simp only [Facts]; simp only [outOf, zH, zI, Act.put, zE, zF, zG, zD, zC, zA, zB, zJ])
  case step =>
    refine ⟨⟨trivial, ?_⟩, ?_⟩
    · intro vals J bs w hg hJ hS hG
      have hG : bs = _ := hG
      subst hG
      simp only [zH, zI, Given, Facts] at hg; simp only [textL, actL, dstAt, opAt, zH, zI, zA, zB, zK, if_true, Act.put, zE, zF, zG, hg]; refine ⟨?_⟩; refine wpStep_of (fun K hK => ?_); have HK := Lib.hid hK; clear hK; rw [if_pos (by rfl)]
      refine wp_stO (i := id) hS 0 rfl rfl rfl rfl HOA.out rfl hlt ty_sz59 rfl nd0_one fun m' w hO' hS => ?_
      exact HK.out _ _ ⟨rfl, J, _, PH.le.refl _, hS, trivial, m', hO', rfl⟩
    · intro vals J bs w hg hJ hS hG
      refine Veil.out ?_
      obtain ⟨mm, hmm, hG⟩ := hG
      subst hG
      refine ⟨?_⟩
      simp only [zH, zI, Given, Facts] at hg; simp only [textL, actL, dstAt, opAt, zH, zI, zA, zB, zK, if_true, Act.put, zE, zF, zG, hg]; refine ⟨?_⟩; refine wpStep_of (fun K hK => ?_); have HK := Lib.hid hK; clear hK; rw [if_pos (by rfl)]
      refine wp_stO (i := id) hS 1 rfl rfl rfl rfl HOT.out (Nat.mul_one id).symm hlt ty_sz4 rfl (bool_one false) fun m' w hO' hS => ?_
      exact HK.out _ _ ⟨rfl, J, _, PH.le.refl _, hS, trivial, mm, m', hmm, hO', rfl⟩
  case fin =>
    intro vals J bs w hJ hg hS hG
    obtain ⟨m1, m2, hO1, hO2, hns⟩ := hG
    subst hns
    have hS := hS.less hJ
    have hS := HbP.out _ _ hS
    have HO1 := Lib.hid hO1
    have HO2 := Lib.hid hO2
    clear hO1 hO2 HbP iP1 iP2
    simp only [List.length_cons, List.length_nil, Nat.reduceAdd, Below_, Facts, zH, zI, true_and, and_true] at hg; simp only [List.length_cons, List.length_nil, Nat.reduceAdd, textL, actL, dstAt, opAt, zH, zI, zA, zB, zK, if_true, Act.put, zE, zF, zG, hg]; refine ⟨?_⟩
    clear hg
    simp only [zF, zG] at hS
    have m0 : (0 : Int) < (G.many p.slots : Int) := by omega
    go_wp2_with (first | ((with_reducible refine isAppend ?_); (refine' apP (p := _) (m := _) (v := _) (n := _) (xs := _) (news := _) 4 (.inr (List.Mem.head _)) hS rfl rfl rfl Try.underlying27 int_info rfl (by decide) rfl HOF.out rfl ?hl ?hcl ?h1 ?h63 ?hby ?_); (case hcl => exact Cells.one _ _ _ _); (case hl => rfl); (case h1 => rfl); (case h63 => (unfold maxLen; omega)); (case hby => omega); clear hS; intro v1 m3 w hO3 hS; refine Veil.out ?_; obtain ⟨F, cF2, rfl, _⟩ := OwnP.shape hO3; refine ⟨?_⟩; have HO3 := Lib.hid hO3; clear hO3; (try simp only [zF, zG] at hS); (try simp only [Act.put, zE, zF, zG])) | ((with_reducible refine atList ?_); first | ((with_reducible refine isLoad ?_); (first | (refine ld1 0 hS rfl rfl ?ha rfl rfl rfl ?_; (case ha => first | exact ty_agg3 | exact ty_agg27)) | (refine ld1 1 hS rfl rfl ?ha rfl rfl rfl ?_; (case ha => first | exact ty_agg3 | exact ty_agg27)) | ((refine' ldI1 (v := _) hS rfl rfl ?ha rfl ?hb ?_); (case ha => first | exact ty_agg3 | exact ty_agg27); (case hb => assumption))); (try simp only [Act.put, zE, zF, zG])) | ((with_reducible refine isStore ?_); (first | (refine st1 0 hS rfl rfl rfl rfl rfl ?ha rfl rfl ?hb ?_; (case ha => first | exact ty_sz4 | exact ty_sz3 | exact ty_sz27); (case hb => (simp; done))) | (refine st1 1 hS rfl rfl rfl rfl rfl ?ha rfl rfl ?hb ?_; (case ha => first | exact ty_sz4 | exact ty_sz3 | exact ty_sz27); (case hb => (simp; done)))); clear hS; intro w hS; (try simp only [zF, zG, zE, Act.eval, zD, zC, zA, zB, zJ, Value.cells] at hS); (try simp only [Act.put, zE, zF, zG])) | ((with_reducible refine isBuildSlice ?_); (refine' bsl hS ?hr ?_); (case hr => (intro w0; go_simp; rfl)); clear hS; intro XS w hS; (try simp only [Act.eval, zD, zC, zA, zB, zJ, Value.cells] at hS); (try simp only [Act.put, zE, zF, zG]))))
    go_ret
    exact ⟨rfl, Hfin.out _ _ _ _ _ HO1.out HO2.out HO3.out _ hS.drop⟩
end Go.Proofs.Ytdhkkkhnjooioaa
