import Derived.Test.YtdhkkkhnjooioaaHg
namespace Go.Proofs.Ytdhkkkhnjooioaa
set_option linter.unusedSimpArgs false
set_option linter.unusedVariables false
open Go.RowKit
set_option linter.unusedVariables false
theorem ty_agg67 : aggB Try.prog 67 = some false := by kernel_rfl
theorem ty_sz67 : sizeB Try.prog 67 = some 1 := by kernel_rfl
theorem ty_z67 : zeroB Try.prog 67 = some (.pointer none) := by kernel_rfl
theorem ty_agg70 : aggB Try.prog 70 = some false := by kernel_rfl
theorem ty_sz70 : sizeB Try.prog 70 = some 1 := by kernel_rfl
theorem ty_z70 : zeroB Try.prog 70 = some (.pointer none) := by kernel_rfl
theorem ty_agg74 : aggB Try.prog 74 = some false := by kernel_rfl
theorem ty_sz74 : sizeB Try.prog 74 = some 1 := by kernel_rfl
theorem ty_z74 : zeroB Try.prog 74 = some (.slice none 0 0) := by kernel_rfl
theorem ty_agg77 : aggB Try.prog 77 = some false := by kernel_rfl
theorem ty_sz77 : sizeB Try.prog 77 = some 1 := by kernel_rfl
theorem ty_z77 : zeroB Try.prog 77 = some (.pointer none) := by kernel_rfl
structure StFit (s : G.St) : Prop where
  vars : s.vars.length ≤ 64
  lev : s.lev.length ≤ 64
  tabs : s.tabs.length ≤ 64
  cnt : s.cnt.length ≤ 4194304
  cntb : ∀ c ∈ s.cnt, c ≤ 4611686018427387904
  dead : s.dead ≤ 4611686018427387904
  levb : ∀ c ∈ s.lev, c ≤ 1048576
  varb : ∀ c ∈ s.vars, c ≤ 1048576
def ptC (g : Nat) : List Value := [vPt g]
theorem ptC_len (g : Nat) : (ptC g).length = 1 := rfl
def StAt (S : Nat) (s : G.St) (m : PH) : Prop := StFit s ∧ ∃ L P vV vL vT vC, ∃ gs : List Nat, ∃ mV mL mP mT mC tms,
  Bd m (PH.one S (.cells #[vPt L, vPt P, vT, vC, nv s.dead] 76) :: PH.one L (.cells #[vV, vL] 73) :: mV :: mL :: mP :: mT :: mC :: tms) ∧
  OwnP mV 3 1 vV s.vars.length (s.vars.flatMap ivC) ∧ OwnP mL 3 1 vL s.lev.length (s.lev.flatMap ivC) ∧ PoolAt P s.pl mP ∧ OwnP mT 77 1 vT s.tabs.length (gs.flatMap ptC) ∧ OwnP mC 3 1 vC s.cnt.length (s.cnt.flatMap ivC) ∧
  gs.length = s.tabs.length ∧ tms.length = s.tabs.length ∧ ∀ (v : Nat) g t tm, gs[v]? = some g → s.tabs[v]? = some t → tms[v]? = some tm → TabAt g t tm
def NumR (I : PH) (v : Value) (l : List Nat) : Prop := (∃ A c, v = .slice A l.length c) ∧ (0 < l.length → ∃ X c, v = .slice (some ⟨X, 0, none⟩) l.length c ∧ ∀ (i : Nat) x, l[i]? = some x → I.at X i = some (nv x))
theorem NumR.le {I J : PH} {v : Value} {l : List Nat} (h : NumR I v l) (hJ : I.le J) : NumR J v l := ⟨And.left h, fun hl => by
  obtain ⟨X, c, h1, h2⟩ := And.right h hl
  exact ⟨X, c, h1, fun i x hx => PH.at_le hJ (h2 i x hx)⟩⟩
theorem OwnP.num {m : PH} {e : TypeId} {v : Value} {l : List Nat} (h : OwnP m e 1 v l.length (l.flatMap ivC)) : NumR m v l := by
  refine ⟨?_, fun hl => ?_⟩
  · obtain ⟨A, c, h1, _⟩ := h.shape
    exact ⟨A, c, h1⟩
  · obtain ⟨X, c, rfl, _⟩ := h.ptr hl
    refine ⟨X, c, rfl, fun i x hx => ?_⟩
    have := (flat_cells ivC_len h hx).at 0 rfl
    rwa [Nat.mul_one, Nat.add_zero] at this
def StR (I : PH) (S : Nat) (s : G.St) : Prop := StFit s ∧ ∃ L P vV vL vT vC, ∃ gs : List Nat, I.at S 0 = some (vPt L) ∧ I.at S 1 = some (vPt P) ∧ I.at S 2 = some vT ∧ I.at S 3 = some vC ∧ I.at S 4 = some (nv s.dead) ∧ I.at L 0 = some vV ∧ I.at L 1 = some vL ∧
  NumR I vV s.vars ∧ NumR I vL s.lev ∧ PoolR I P s.pl ∧ NumR I vC s.cnt ∧ gs.length = s.tabs.length ∧ (0 < s.tabs.length → ∃ X c, vT = .slice (some ⟨X, 0, none⟩) s.tabs.length c ∧ ∀ (i : Nat) x, gs[i]? = some x → I.at X i = some (vPt x)) ∧ ∀ (v : Nat) g t, gs[v]? = some g → s.tabs[v]? = some t → TabR I g t
theorem StR.le {I J : PH} {S : Nat} {s : G.St} (h : StR I S s) (hJ : I.le J) : StR J S s := by
  obtain ⟨h0, L, P, vV, vL, vT, vC, gs, h1, h2, h3, h4, h5, h6, h7, h8, h9, h10, h11, h12, h13, h14⟩ := h
  refine ⟨h0, L, P, vV, vL, vT, vC, gs, PH.at_le hJ h1, PH.at_le hJ h2, PH.at_le hJ h3, PH.at_le hJ h4, PH.at_le hJ h5, PH.at_le hJ h6, PH.at_le hJ h7, h8.le hJ, h9.le hJ, h10.le hJ, h11.le hJ, h12, fun hl => ?_, fun v g t hg ht => (h14 v g t hg ht).le hJ⟩
  obtain ⟨X, c, e1, e2⟩ := h13 hl
  exact ⟨X, c, e1, fun i x hx => PH.at_le hJ (e2 i x hx)⟩
theorem StAt.read {S : Nat} {s : G.St} {m : PH} (h : StAt S s m) : StR m S s := by
  obtain ⟨hf, L, P, vV, vL, vT, vC, gs, mV, mL, mP, mT, mC, tms, ⟨rfl, hd⟩, hV, hL, hP, hT, hC, hgs, htm, htab⟩ := h
  have hm : ∀ q ∈ (PH.one S (.cells #[vPt L, vPt P, vT, vC, nv s.dead] 76) :: PH.one L (.cells #[vV, vL] 73) :: mV :: mL :: mP :: mT :: mC :: tms), q.le (PH.all (PH.one S (.cells #[vPt L, vPt P, vT, vC, nv s.dead] 76) :: PH.one L (.cells #[vV, vL] 73) :: mV :: mL :: mP :: mT :: mC :: tms)) := fun q hq => PH.all_mem hd hq
  generalize PH.all _ = M at *
  have l0 := hm _ (.head _)
  have l1 := hm _ (.tail _ (.head _))
  refine ⟨hf, L, P, vV, vL, vT, vC, gs, PH.at_le l0 (at_one rfl), PH.at_le l0 (at_one rfl), PH.at_le l0 (at_one rfl), PH.at_le l0 (at_one rfl), PH.at_le l0 (at_one rfl), PH.at_le l1 (at_one rfl), PH.at_le l1 (at_one rfl),
    hV.num.le (hm mV (by simp)), hL.num.le (hm mL (by simp)), hP.read.le (hm mP (by simp)), hC.num.le (hm mC (by simp)), hgs, fun hl => ?_, fun v g t hg ht => ?_⟩
  · obtain ⟨X, c, rfl, _⟩ := hT.ptr hl
    refine ⟨X, c, rfl, fun i x hx => ?_⟩
    have := ((flat_cells ptC_len hT hx).le (hm mT (by simp))).at 0 rfl
    rwa [Nat.mul_one, Nat.add_zero] at this
  · have hv := (List.getElem?_eq_some_iff.1 ht).1
    have hx := List.getElem?_eq_getElem (l := tms) (i := v) (by omega)
    exact (htab v g t _ hg ht hx).read.le (hm _ (by simp [List.getElem_mem]))
section
variable {w : World} {S : Nat} {s : G.St}
theorem svars_any (h : StR (heapOf w) S s) : Calls Try.prog 19 #[vPt S] w fun e w' => e = .returned (nv s.vars.length) ∧ w = w' := by
  obtain ⟨h0, L, P, vV, vL, vT, vC, gs, h1, h2, h3, h4, h5, h6, h7, h8, h9, h10, h11, h12, h13, h14⟩ := h
  obtain ⟨⟨A, c, rfl⟩, _⟩ := h8
  have hS := Sat.start w
  clear h2 h3 h4 h5 h7 h9 h10 h11 h12 h13 h14 h0
  go_enter Try.func19, Try.ntmps19
  go_wp2_with (first | ((with_reducible refine atList ?_); first | ((with_reducible refine isLoad ?_); (first | (refine ld1 0 hS rfl rfl ?ha rfl rfl rfl ?_; (case ha => first | exact ty_agg27 | exact ty_agg70)) | ((refine' ldI1 (v := _) hS rfl rfl ?ha rfl ?hb ?_); (case ha => first | exact ty_agg27 | exact ty_agg70); (case hb => assumption))); (try simp only [Act.put, zE, zF, zG]))))
  go_ret
  exact ⟨rfl, rfl⟩
theorem sroom_any (h : StR (heapOf w) S s) : Calls Try.prog 20 #[vPt S] w fun e w' => e = .returned (nv s.pl.room) ∧ w = w' := by
  obtain ⟨h0, L, P, vV, vL, vT, vC, gs, h1, h2, h3, h4, h5, h6, h7, h8, h9, h10, h11, h12, h13, h14⟩ := h
  have hS := Sat.start w
  have hc := proom_any h10
  clear h1 h3 h4 h5 h6 h7 h8 h9 h10 h11 h12 h13 h14 h0
  go_enter Try.func20, Try.ntmps20
  go_wp2_with (first | (go_at_call 44; (with_reducible refine Calls.mono hc ?_); rintro e w9 ⟨rfl, rfl⟩) | ((with_reducible refine atList ?_); first | ((with_reducible refine isLoad ?_); (first | (refine ld1 0 hS rfl rfl ?ha rfl rfl rfl ?_; (case ha => exact ty_agg67)) | ((refine' ldI1 (v := _) hS rfl rfl ?ha rfl ?hb ?_); (case ha => exact ty_agg67); (case hb => assumption))); (try simp only [Act.put, zE, zF, zG]))))
  go_ret
  exact ⟨rfl, rfl⟩
theorem slen_any (h : StR (heapOf w) S s) : Calls Try.prog 12 #[vPt S] w fun e w' => e = .returned (nv (G.many s.pl.slots)) ∧ w = w' := by
  obtain ⟨h0, L, P, vV, vL, vT, vC, gs, h1, h2, h3, h4, h5, h6, h7, h8, h9, h10, h11, h12, h13, h14⟩ := h
  have hS := Sat.start w
  have hc := plen_any h10
  clear h1 h3 h4 h5 h6 h7 h8 h9 h10 h11 h12 h13 h14 h0
  go_enter Try.func12, Try.ntmps12
  go_wp2_with (first | (go_at_call 41; (with_reducible refine Calls.mono hc ?_); rintro e w9 ⟨rfl, rfl⟩) | ((with_reducible refine atList ?_); first | ((with_reducible refine isLoad ?_); (first | (refine ld1 0 hS rfl rfl ?ha rfl rfl rfl ?_; (case ha => exact ty_agg67)) | ((refine' ldI1 (v := _) hS rfl rfl ?ha rfl ?hb ?_); (case ha => exact ty_agg67); (case hb => assumption))); (try simp only [Act.put, zE, zF, zG]))))
  go_ret
  exact ⟨rfl, rfl⟩
theorem sdead_any (h : StR (heapOf w) S s) : Calls Try.prog 21 #[vPt S] w fun e w' => e = .returned (nv s.dead) ∧ w = w' := by
  obtain ⟨h0, L, P, vV, vL, vT, vC, gs, h1, h2, h3, h4, h5, h6, h7, h8, h9, h10, h11, h12, h13, h14⟩ := h
  have hS := Sat.start w
  clear h1 h2 h3 h4 h6 h7 h8 h9 h10 h11 h12 h13 h14 h0
  go_enter Try.func21, Try.ntmps21
  go_wp2_with (first | ((with_reducible refine atList ?_); first | ((with_reducible refine isLoad ?_); (first | (refine ld1 0 hS rfl rfl ?ha rfl rfl rfl ?_; (case ha => exact ty_agg3)) | ((refine' ldI1 (v := _) hS rfl rfl ?ha rfl ?hb ?_); (case ha => exact ty_agg3); (case hb => assumption))); (try simp only [Act.put, zE, zF, zG]))))
  go_ret
  exact ⟨rfl, rfl⟩
theorem llevel_any {L : Nat} {vL : Value} (h7 : (heapOf w).at L 1 = some vL) (h9 : NumR (heapOf w) vL s.lev) (hl : s.lev.length ≤ 64) (v : Int) : Calls Try.prog 45 #[vPt L, .int .i64 v] w fun e w' => e = .returned (.int .i64 (s.level v)) ∧ w = w' := by
  have hS := Sat.start w
  by_cases c1 : 0 ≤ v
  · by_cases c2 : v < (s.lev.length : Int)
    · obtain ⟨j, rfl⟩ : ∃ j : Nat, v = (j : Int) := ⟨v.toNat, by omega⟩
      have hj : j < s.lev.length := by omega
      obtain ⟨X, c, rfl, hx⟩ := h9.2 (by omega)
      have hx := hx j _ (List.getElem?_eq_getElem hj)
      have hr : s.level (j : Int) = ((s.lev[j] : Nat) : Int) := by
        unfold G.St.level
        rw [if_pos ⟨c1, c2⟩, Int.toNat_natCast, List.getD_eq_getElem?_getD, List.getElem?_eq_getElem hj]
        rfl
      rw [hr]
      generalize s.lev[j] = y at *
      clear h9 hr
      generalize s.lev.length = n at *
      go_enter Try.func45, Try.ntmps45
      go_wp2_with (first | ((with_reducible refine atList ?_); first | ((with_reducible refine isGuard ?_); first | go_skip | ((with_reducible refine guarded_no ?hw ?_); (case hw => (simp only [Region.wanted, yielded, zC, zA, zB, zK]; first | exact (rfl : (some true == some false) = false) | exact (rfl : (some false == some true) = false))); (try simp only [Act.put, zE, zF, zG])) | ((with_reducible refine guarded_yes ?hw ?_); case hw => (simp only [Region.wanted, yielded, zC, zA, zB, zK, beq_self_eq_true]; done)) | ((refine' guarded_cases (b := _) ?hy ?_ ?_); (case hy => (simp only [yielded, zC, zA, zB, zK]; exact rfl)); all_goals (intro hb; (try simp only [Bool.not_true, Bool.not_false] at hb); (try simp only [hb]); (try simp only [Act.put, zE, zF, zG]); first | ((have hf : False := by (simp at hb; done)); cases hf) | ((have hf : False := by (simp at hb; omega)); cases hf) | skip))) | ((with_reducible refine isLoad ?_); (first | (refine ld1 0 hS rfl rfl ?ha rfl rfl rfl ?_; (case ha => first | exact ty_agg3 | exact ty_agg27)) | ((refine' ldI1 (v := _) hS rfl rfl ?ha rfl ?hb ?_); (case ha => first | exact ty_agg3 | exact ty_agg27); (case hb => assumption))); (try simp only [Act.put, zE, zF, zG]))))
      go_ret
      exact ⟨rfl, rfl⟩
    · obtain ⟨⟨A, c, rfl⟩, _⟩ := h9
      have hr : s.level v = -1 := by unfold G.St.level; rw [if_neg (fun h => c2 h.2)]
      rw [hr]
      generalize s.lev.length = n at *
      go_enter Try.func45, Try.ntmps45
      go_wp2_with (first | ((with_reducible refine atList ?_); first | ((with_reducible refine isGuard ?_); first | go_skip | ((with_reducible refine guarded_no ?hw ?_); (case hw => (simp only [Region.wanted, yielded, zC, zA, zB, zK]; first | exact (rfl : (some true == some false) = false) | exact (rfl : (some false == some true) = false))); (try simp only [Act.put, zE, zF, zG])) | ((with_reducible refine guarded_yes ?hw ?_); case hw => (simp only [Region.wanted, yielded, zC, zA, zB, zK, beq_self_eq_true]; done)) | ((refine' guarded_cases (b := _) ?hy ?_ ?_); (case hy => (simp only [yielded, zC, zA, zB, zK]; exact rfl)); all_goals (intro hb; (try simp only [Bool.not_true, Bool.not_false] at hb); (try simp only [hb]); (try simp only [Act.put, zE, zF, zG]); first | ((have hf : False := by (simp at hb; done)); cases hf) | ((have hf : False := by (simp at hb; omega)); cases hf) | skip))) | ((with_reducible refine isLoad ?_); (first | (refine ld1 0 hS rfl rfl ?ha rfl rfl rfl ?_; (case ha => first | exact ty_agg3 | exact ty_agg27)) | ((refine' ldI1 (v := _) hS rfl rfl ?ha rfl ?hb ?_); (case ha => first | exact ty_agg3 | exact ty_agg27); (case hb => assumption))); (try simp only [Act.put, zE, zF, zG]))))
      go_ret
      exact ⟨rfl, rfl⟩
  · have hr : s.level v = -1 := by unfold G.St.level; rw [if_neg (fun h => c1 h.1)]
    rw [hr]
    have c1' : v < 0 := by omega
    go_enter Try.func45, Try.ntmps45
    go_wp2_with (first | ((with_reducible refine atList ?_); first | ((with_reducible refine isGuard ?_); first | go_skip | ((with_reducible refine guarded_no ?hw ?_); (case hw => (simp only [Region.wanted, yielded, zC, zA, zB, zK]; first | exact (rfl : (some true == some false) = false) | exact (rfl : (some false == some true) = false))); (try simp only [Act.put, zE, zF, zG])) | ((with_reducible refine guarded_yes ?hw ?_); case hw => (simp only [Region.wanted, yielded, zC, zA, zB, zK, beq_self_eq_true]; done)) | ((refine' guarded_cases (b := _) ?hy ?_ ?_); (case hy => (simp only [yielded, zC, zA, zB, zK]; exact rfl)); all_goals (intro hb; (try simp only [Bool.not_true, Bool.not_false] at hb); (try simp only [hb]); (try simp only [Act.put, zE, zF, zG]); first | ((have hf : False := by (simp at hb; done)); cases hf) | ((have hf : False := by (simp at hb; omega)); cases hf) | skip))) | ((with_reducible refine isLoad ?_); (first | (refine ld1 0 hS rfl rfl ?ha rfl rfl rfl ?_; (case ha => first | exact ty_agg3 | exact ty_agg27)) | ((refine' ldI1 (v := _) hS rfl rfl ?ha rfl ?hb ?_); (case ha => first | exact ty_agg3 | exact ty_agg27); (case hb => assumption))); (try simp only [Act.put, zE, zF, zG]))))
    go_ret
    exact ⟨rfl, rfl⟩
theorem slevel_any (h : StR (heapOf w) S s) (v : Int) : Calls Try.prog 23 #[vPt S, .int .i64 v] w fun e w' => e = .returned (.int .i64 (s.level v)) ∧ w = w' := by
  obtain ⟨h0, L, P, vV, vL, vT, vC, gs, h1, h2, h3, h4, h5, h6, h7, h8, h9, h10, h11, h12, h13, h14⟩ := h
  have hS := Sat.start w
  have hc := llevel_any (s := s) h7 h9 h0.lev v
  clear h2 h3 h4 h5 h6 h7 h8 h9 h10 h11 h12 h13 h14 h0
  go_enter Try.func23, Try.ntmps23
  go_wp2_with (first | (go_at_call 45; (with_reducible refine Calls.mono hc ?_); rintro e w9 ⟨rfl, rfl⟩) | ((with_reducible refine atList ?_); first | ((with_reducible refine isLoad ?_); (first | (refine ld1 0 hS rfl rfl ?ha rfl rfl rfl ?_; (case ha => exact ty_agg70)) | ((refine' ldI1 (v := _) hS rfl rfl ?ha rfl ?hb ?_); (case ha => exact ty_agg70); (case hb => assumption))); (try simp only [Act.put, zE, zF, zG]))))
  go_ret
  exact ⟨rfl, rfl⟩
end
end Go.Proofs.Ytdhkkkhnjooioaa
