import Derived.Test.YtdhkkkhnjooioaaHo
namespace Go.Proofs.Ytdhkkkhnjooioaa
set_option linter.unusedSimpArgs false
set_option linter.unusedVariables false
open Go.RowKit
set_option linter.unusedVariables false
set_option maxRecDepth 100000 in
set_option maxHeartbeats 4000000 in
theorem sadd_none {E w : World} {I m : PH} {ms : List PH} {S : Nat} {s : G.St} {v lo hi : Nat} (ha : s.add v lo hi = some none) (hA : StAt S s m) (hS : Sat E I (m :: ms) w) :
    Calls Try.prog 63 #[vPt S, nv v, nv lo, nv hi] w fun e w' => e = .returned (.tuple #[nv 0, .int .i64 7]) ∧ ∃ m', StAt S s m' ∧ Sat E I (m' :: ms) w' := by
  obtain ⟨h0, L, P, vV, vL, vT, vC, gs, mV, mL, mP, mT, mC, tms, hbd, hV, hL, hP, hT, hC, hgs, htm, htab⟩ := hA
  have hS := Sat.unpack hbd hS
  simp only [List.cons_append] at hS
  have ht : s.pl.take ⟨v, lo, hi, 0⟩ = some none := by
    unfold G.St.add at ha
    cases ht : s.pl.take ⟨v, lo, hi, 0⟩ with
    | none => rw [ht] at ha; cases ha
    | some o =>
      cases o with
      | none => rfl
      | some q => obtain ⟨p, id⟩ := q; rw [ht] at ha; simp only [] at ha; split at ha <;> cases ha
  have HT := Lib.hid ht
  have Hfin := Lib.hid (fun w' (h : Sat E I (PH.one S (.cells #[vPt L, vPt P, vT, vC, nv s.dead] 76) :: PH.one L (.cells #[vV, vL] 73) :: mV :: mL :: mP :: mT :: mC :: (tms ++ ms)) w') => StAt.close h0 hV hL hP hT hC hgs htm htab h)
  have HP := Lib.hid hP
  clear hbd hT hC hV hL h0 hP ht ha
  go_enter Try.func63, Try.ntmps63
  go_wp2_with (first | (go_at_call 75; (with_reducible refine Calls.mono (ptake_none (n := ⟨v, lo, hi, 0⟩) HT.out HP.out (hS.pick 4 rfl)) ?_); clear hS; rintro e w ⟨rfl, hS⟩) | ((with_reducible refine atList ?_); first | ((with_reducible refine isLoad ?_); (first | (refine ld1 0 hS rfl rfl ?ha rfl rfl rfl ?_; (case ha => first | exact ty_agg3 | exact ty_agg27 | exact ty_agg67 | exact ty_agg74 | exact ty_agg77)) | ((refine' ldI1 (v := _) hS rfl rfl ?ha rfl ?hb ?_); (case ha => first | exact ty_agg3 | exact ty_agg27 | exact ty_agg67 | exact ty_agg74 | exact ty_agg77); (case hb => assumption))); (try simp only [Act.put, zE, zF, zG])) | ((with_reducible refine isStore ?_); (first | (refine st1 0 hS rfl rfl rfl rfl rfl ?ha rfl rfl ?hb ?_; (case ha => first | exact ty_sz3 | exact ty_sz27); (case hb => (simp; done)))); clear hS; intro w hS; (try simp only [zF, zG, zE, Act.eval, zD, zC, zA, zB, zJ, Value.cells] at hS); (try simp only [Act.put, zE, zF, zG]))))
  go_ret2
  exact ⟨rfl, Hfin.out _ (hS.back 4 rfl)⟩
set_option maxRecDepth 100000 in
set_option maxHeartbeats 4000000 in
theorem sadd_some {E w : World} {I m : PH} {ms : List PH} {S : Nat} {s s' : G.St} {v lo hi id : Nat} (ha : s.add v lo hi = some (some (s', id))) (hlo : lo < 4611686018427387904) (hhi : hi < 4611686018427387904) (hA : StAt S s m) (hS : Sat E I (m :: ms) w) :
    Calls Try.prog 63 #[vPt S, nv v, nv lo, nv hi] w fun e w' => e = .returned (.tuple #[nv id, .int .i64 0]) ∧ ∃ m', StAt S s' m' ∧ Sat E I (m' :: ms) w' := by
  obtain ⟨h0, L, P, vV, vL, vT, vC, gs, mV, mL, mP, mT, mC, tms, hbd, hV, hL, hP, hT, hC, hgs, htm, htab⟩ := hA
  have hS := Sat.unpack hbd hS
  simp only [List.cons_append] at hS
  obtain ⟨p', ht, hv, hid, hdead, hs'⟩ : ∃ p', s.pl.take ⟨v, lo, hi, 0⟩ = some (some (p', id)) ∧ v < s.tabs.length ∧ id < 4194304 ∧ s.dead < 4611686018427387904 ∧ s' = { s with pl := p', cnt := (s.cnt ++ List.replicate (id + 1 - s.cnt.length) 0).set id 0, dead := s.dead + 1, tabs := s.tabs.set v (G.putT (s.tab v) lo hi id) } := by
    unfold G.St.add at ha
    cases ht : s.pl.take ⟨v, lo, hi, 0⟩ with
    | none => rw [ht] at ha; cases ha
    | some o =>
      cases o with
      | none => rw [ht] at ha; cases ha
      | some q =>
        obtain ⟨p, i⟩ := q
        rw [ht] at ha
        simp only [] at ha
        split at ha
        · rename_i hc
          injection ha with ha; injection ha with ha; injection ha with h1 h2
          subst h2
          exact ⟨p, rfl, hc.1, hc.2.1, hc.2.2, h1.symm⟩
        · cases ha
  have hfit : Fits ⟨v, lo, hi, 0⟩ := ⟨show v < 4611686018427387904 by have := h0.tabs; omega, hlo, hhi, show (0 : Nat) < 4611686018427387905 by decide⟩
  obtain ⟨T, cT, rfl, _⟩ := hT.ptr (by omega)
  obtain ⟨AC, cC, rfl, _⟩ := hC.shape
  have hg := List.getElem?_eq_getElem (l := gs) (i := v) (by omega)
  have htt := List.getElem?_eq_getElem (l := s.tabs) (i := v) hv
  have htb : s.tabs[v] = s.tab v := by unfold G.St.tab; rw [List.getD_eq_getElem?_getD, htt]; rfl
  have htv := List.getElem?_eq_getElem (l := tms) (i := v) (by omega)
  have hTab := htab v _ _ _ hg htt htv
  rw [htb] at hTab
  have iT : Cells mT T v (ptC gs[v]) := by
    have := flat_cells ptC_len hT hg
    rwa [Nat.mul_one] at this
  generalize gs[v] = g at *
  generalize tms[v] = tm at *
  have hvn : v < 64 := by have := h0.tabs; omega
  have hfin : ∀ (p'' : G.Pl) (k : Nat) (vC' : Value) (mP' mC' tm' : PH) (w' : World), p'' = p' → k = id + 1 - s.cnt.length → PoolAt P p'' mP' → TabAt g (G.putT (s.tab v) lo hi id) tm' → OwnP mC' 3 1 vC' (s.cnt.length + k) (((s.cnt ++ List.replicate k 0).set id 0).flatMap ivC) →
      Sat E I (mP' :: PH.one S (.cells #[vPt L, vPt P, .slice (some ⟨T, 0, none⟩) s.tabs.length cT, vC', .int .i64 ((s.dead : Int) + 1)] 76) :: PH.one L (.cells #[vV, vL] 73) :: mV :: mL :: mT :: mC' :: (tms.set v tm' ++ ms)) w' → ∃ m', StAt S s' m' ∧ Sat E I (m' :: ms) w' := by
    rintro _ _ vC' mP' mC' tm' w' rfl rfl hP' ht' hC' hS'
    have h1 := hS'.perm (List.perm_middle (l₁ := [_, _, _, _]) (l₂ := mT :: mC' :: (tms.set v tm' ++ ms)) (a := mP')).symm
    subst hs'
    have hcl : ((s.cnt ++ List.replicate (id + 1 - s.cnt.length) 0).set id 0).length = s.cnt.length + (id + 1 - s.cnt.length) := by simp
    refine StAt.close (L := L) (P := P) (vV := vV) (vL := vL) (vT := .slice (some ⟨T, 0, none⟩) s.tabs.length cT) (vC := vC') (mV := mV) (mL := mL) (mP := mP') (mT := mT) (mC := mC') (gs := gs) (tms := tms.set v tm') ⟨h0.vars, h0.lev, by simpa using h0.tabs, by rw [hcl]; have := h0.cnt; omega, fun c hc => ?_, show s.dead + 1 ≤ 4611686018427387904 by omega, h0.levb, h0.varb⟩ hV hL hP' (by simpa using hT) (by rw [hcl]; exact hC') (by simpa using hgs) (by simpa using htm) (fun x gx t tmx e1 e2 e3 => ?_) ?_
    · rcases List.mem_or_eq_of_mem_set hc with hc | hc
      · rcases List.mem_append.1 hc with hc | hc
        · exact h0.cntb c hc
        · rw [List.eq_of_mem_replicate hc]; decide
      · rw [hc]; decide
    · by_cases hx : x = v
      · subst hx
        have e2' : (s.tabs.set x (G.putT (s.tab x) lo hi id))[x]? = some t := e2
        rw [List.getElem?_set_self hv] at e2'
        rw [List.getElem?_set_self (by omega)] at e3
        rw [hg] at e1
        cases e1; cases e2'; cases e3
        exact ht'
      · have e2' : (s.tabs.set v (G.putT (s.tab v) lo hi id))[x]? = some t := e2
        rw [List.getElem?_set_ne (fun e => hx e.symm)] at e2' e3
        exact htab x gx t tmx e1 e2' e3
    · simpa [nv] using h1
  have Hfin := Lib.hid hfin
  have HT := Lib.hid ht
  have HTb := Lib.hid hTab
  have HP := Lib.hid hP
  have Hfit := Lib.hid hfit
  have HC := Lib.hid hC
  have HiT := Lib.hid iT
  have htm7 : ∀ (a b c d e f x : PH), (a :: b :: c :: d :: e :: f :: x :: (tms ++ ms))[7 + v]? = some tm := fun a b c d e f x => by
    rw [show 7 + v = v + 1 + 1 + 1 + 1 + 1 + 1 + 1 by omega]
    simp only [zA]
    rw [List.getElem?_append_left (by omega)]
    exact htv
  have Htm := Lib.hid htm7
  have hset : ∀ (a b c d e f x tm' : PH), (a :: b :: c :: d :: e :: f :: x :: (tms ++ ms)).set (7 + v) tm' = a :: b :: c :: d :: e :: f :: x :: (tms.set v tm' ++ ms) := fun a b c d e f x tm' => by
    rw [show 7 + v = v + 1 + 1 + 1 + 1 + 1 + 1 + 1 by omega]
    simp only [zF]
    rw [List.set_append_left _ _ (by omega)]
  have Hset := Lib.hid hset
  have hcl := h0.cnt
  clear hfin hbd hT hC hV hL h0 hP ht ha hs' hfit hTab iT htab htm htt htb htv hg hgs hset htm7
  go_enter Try.func63, Try.ntmps63
  go_wp2_with (first | (go_at_call 75; (with_reducible refine Calls.mono (ptake_some (n := ⟨v, lo, hi, 0⟩) HT.out Hfit.out HP.out (hS.pick 4 rfl)) ?_); clear hS; rintro e w ⟨rfl, mP', hP', hS⟩; have HP' := Lib.hid hP'; clear hP'; simp only [List.eraseIdx_cons_succ, List.eraseIdx_cons_zero] at hS) | ((with_reducible refine atList ?_); first | ((with_reducible refine isLoad ?_); (first | (refine ld1 0 hS rfl rfl ?ha rfl rfl rfl ?_; (case ha => first | exact ty_agg3 | exact ty_agg27 | exact ty_agg67 | exact ty_agg74 | exact ty_agg77)) | ((refine' ldI1 (v := _) hS rfl rfl ?ha rfl ?hb ?_); (case ha => first | exact ty_agg3 | exact ty_agg27 | exact ty_agg67 | exact ty_agg74 | exact ty_agg77); (case hb => assumption))); (try simp only [Act.put, zE, zF, zG])) | ((with_reducible refine isStore ?_); (first | (refine st1 0 hS rfl rfl rfl rfl rfl ?ha rfl rfl ?hb ?_; (case ha => first | exact ty_sz3 | exact ty_sz27); (case hb => (simp; done)))); clear hS; intro w hS; (try simp only [zF, zG, zE, Act.eval, zD, zC, zA, zB, zJ, Value.cells] at hS); (try simp only [Act.put, zE, zF, zG]))))
  generalize hn : s.cnt.length = n at *
  go_loopw [] (fun wr => ∃ (k : Nat) (vC' : Value) (mC' : PH), (n + k ≤ n ∨ n + k ≤ id + 1) ∧ OwnP mC' 3 1 vC' (n + k) ((s.cnt ++ List.replicate k 0).flatMap ivC) ∧ Sat E I (mP' :: PH.one S (.cells #[vPt L, vPt P, .slice (some ⟨T, 0, none⟩) s.tabs.length cT, vC', nv s.dead] 76) :: PH.one L (.cells #[vV, vL] 73) :: mV :: mL :: mT :: mC' :: (tms ++ ms)) wr) (fun wr => id + 1 - rowLen wr S)
  case atStart => exact ⟨0, _, mC, .inl (by omega), by simpa using HC.out, hS⟩
  case round =>
    clear hS
    obtain ⟨k, vC', mC', hk, hC', hS⟩ := hrel
    obtain ⟨A', c', rfl, _⟩ := hC'.shape
    have HC' := Lib.hid hC'
    clear hC'
    have hrow : rowLen wr S = n + k := by
      exact rowLen_of ((hS.cell_of (.tail _ (.head _)) 3).trans rfl)
    rw [hrow]
    by_cases hlt : n + k ≤ id
    · have hlt' : decide (((n + k : Nat) : Int) ≤ (id : Int)) = true := by rw [decide_eq_true_eq]; omega
      generalize hnk : n + k = nk at *
      go_wp2_with (first | ((with_reducible refine isAppend ?_); (refine' apP (p := _) (m := _) (v := _) (n := _) (xs := _) (news := _) 7 (.inr (List.Mem.head _)) hS rfl rfl rfl Try.underlying27 int_info rfl (by decide) rfl HC'.out rfl ?hl ?hcl ?h1 ?h63 ?hby ?_); (case hcl => exact Cells.one _ _ _ _); (case hl => rfl); (case h1 => rfl); (case h63 => (unfold maxLen; omega)); (case hby => omega); clear hS; intro v1 m1 w hO1 hS; refine Veil.out ?_; obtain ⟨A1, c1, rfl, _⟩ := OwnP.shape hO1; refine ⟨?_⟩; have HO1 := Lib.hid hO1; clear hO1; (try simp only [zF, zG] at hS); (try simp only [Act.put, zE, zF, zG])) | ((with_reducible refine atList ?_); first | ((with_reducible refine isLoad ?_); (first | (refine ld1 0 hS rfl rfl ?ha rfl rfl rfl ?_; (case ha => first | exact ty_agg3 | exact ty_agg27 | exact ty_agg67 | exact ty_agg74 | exact ty_agg77)) | (refine ld1 1 hS rfl rfl ?ha rfl rfl rfl ?_; (case ha => first | exact ty_agg3 | exact ty_agg27 | exact ty_agg67 | exact ty_agg74 | exact ty_agg77)) | (refine ld1 2 hS rfl rfl ?ha rfl rfl rfl ?_; (case ha => first | exact ty_agg3 | exact ty_agg27 | exact ty_agg67 | exact ty_agg74 | exact ty_agg77)) | ((refine' ldI1 (v := _) hS rfl rfl ?ha rfl ?hb ?_); (case ha => first | exact ty_agg3 | exact ty_agg27 | exact ty_agg67 | exact ty_agg74 | exact ty_agg77); (case hb => assumption))); (try simp only [Act.put, zE, zF, zG])) | ((with_reducible refine isStore ?_); (first | (refine st1 0 hS rfl rfl rfl rfl rfl ?ha rfl rfl ?hb ?_; (case ha => first | exact ty_sz3 | exact ty_sz27); (case hb => (simp; done))) | (refine st1 1 hS rfl rfl rfl rfl rfl ?ha rfl rfl ?hb ?_; (case ha => first | exact ty_sz3 | exact ty_sz27); (case hb => (simp; done))) | (refine st1 2 hS rfl rfl rfl rfl rfl ?ha rfl rfl ?hb ?_; (case ha => first | exact ty_sz3 | exact ty_sz27); (case hb => (simp; done)))); clear hS; intro w hS; (try simp only [zF, zG, zE, Act.eval, zD, zC, zA, zB, zJ, Value.cells] at hS); (try simp only [Act.put, zE, zF, zG])) | ((with_reducible refine isBuildSlice ?_); (refine' bsl hS ?hr ?_); (case hr => (intro w0; go_simp; rfl)); clear hS; intro XS w hS; (try simp only [Act.eval, zD, zC, zA, zB, zJ, Value.cells] at hS); (try simp only [Act.put, zE, zF, zG]))))
      have hS := hS.drop
      refine ⟨⟨k + 1, _, m1, .inr (by omega), ?_, hS⟩, ?_⟩
      · have := HO1.out
        rw [show n + (k + 1) = nk + 1 by omega, List.replicate_succ', ← List.append_assoc, List.flatMap_append]
        exact this
      · have : rowLen w S = nk + 1 := by
          exact rowLen_of ((hS.cell_of (.tail _ (.head _)) 3).trans rfl)
        omega
    · have hlt' : decide (((n + k : Nat) : Int) ≤ (id : Int)) = false := by rw [decide_eq_false_iff_not]; omega
      have hkk : k = id + 1 - n := by omega
      have hidl : id < n + k := by omega
      obtain ⟨X, cX, hX, _⟩ := HC'.out.ptr (by omega)
      injection hX with hX _ hX2
      subst hX hX2
      generalize hnk : n + k = nk at *
      have hi2 : (id : Int) < (nk : Int) := by omega
      go_wp2_with (first | ((with_reducible refine isStore ?_); (refine st_row 6 hS rfl rfl rfl rfl rfl HC'.out (Nat.mul_one id).symm hidl ty_sz3 rfl (iv_one 0) ?_); clear hS; intro mC2 w hC2 hS; have HC2 := Lib.hid hC2; clear hC2; (try simp only [zF, zG] at hS); (try simp only [Act.put, zE, zF, zG])) | ((with_reducible refine isLoad ?_); (refine' ldP1 (v := vPt g) (.inr (List.Mem.tail _ (List.Mem.tail _ (List.Mem.tail _ (List.Mem.tail _ (List.Mem.tail _ (List.Mem.head _))))))) hS rfl rfl ty_agg77 rfl (HiT.out.at 0 rfl) ?_); (try simp only [Act.put, zE, zF, zG])) | (go_at_call 58; (with_reducible refine Calls.mono (tput_any HTb.out lo hi id (hS.pick (7 + v) (Htm.out _ _ _ _ _ _ _))) ?_); clear hS; rintro e w ⟨⟨c9, rfl⟩, tm', hT', hS⟩; have HT' := Lib.hid hT'; clear hT') | ((with_reducible refine atList ?_); first | ((with_reducible refine isLoad ?_); (first | (refine ld1 0 hS rfl rfl ?ha rfl rfl rfl ?_; (case ha => first | exact ty_agg3 | exact ty_agg27 | exact ty_agg67 | exact ty_agg74 | exact ty_agg77)) | (refine ld1 1 hS rfl rfl ?ha rfl rfl rfl ?_; (case ha => first | exact ty_agg3 | exact ty_agg27 | exact ty_agg67 | exact ty_agg74 | exact ty_agg77)) | ((refine' ldI1 (v := _) hS rfl rfl ?ha rfl ?hb ?_); (case ha => first | exact ty_agg3 | exact ty_agg27 | exact ty_agg67 | exact ty_agg74 | exact ty_agg77); (case hb => assumption))); (try simp only [Act.put, zE, zF, zG])) | ((with_reducible refine isStore ?_); (first | (refine st1 0 hS rfl rfl rfl rfl rfl ?ha rfl rfl ?hb ?_; (case ha => first | exact ty_sz3 | exact ty_sz27); (case hb => (simp; done))) | (refine st1 1 hS rfl rfl rfl rfl rfl ?ha rfl rfl ?hb ?_; (case ha => first | exact ty_sz3 | exact ty_sz27); (case hb => (simp; done)))); clear hS; intro w hS; (try simp only [zF, zG, zE, Act.eval, zD, zC, zA, zB, zJ, Value.cells] at hS); (try simp only [Act.put, zE, zF, zG]))))
      go_ret2
      have hS2 := hS.back (7 + v) (Htm.out _ _ _ _ _ _ _)
      rw [Hset.out] at hS2
      refine ⟨rfl, Hfin.out _ k _ _ _ _ _ rfl hkk HP'.out HT'.out ?_ hS2⟩
      have := HC2.out
      rw [← flat_set ivC_len _ _ (by simp; omega)]
      rw [Nat.mul_one, hnk]
      exact this
end Go.Proofs.Ytdhkkkhnjooioaa
