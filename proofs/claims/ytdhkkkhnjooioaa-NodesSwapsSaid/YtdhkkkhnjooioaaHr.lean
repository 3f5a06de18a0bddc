import Derived.Test.YtdhkkkhnjooioaaHq
namespace Go.Proofs.Ytdhkkkhnjooioaa
set_option linter.unusedSimpArgs false
set_option linter.unusedVariables false
open Go.RowKit
set_option linter.unusedVariables false
theorem add_lt {s s1 : G.St} {x l h id : Nat} (had : s.add x l h = some (some (s1, id))) : id < 4194304 := by
  unfold G.St.add at had
  split at had
  · cases had
  · cases had
  · split at had
    · rename_i hc
      injection had with had; injection had with had; injection had with _ h2
      subst h2
      exact hc.2.1
    · cases had
set_option maxRecDepth 100000 in
set_option maxHeartbeats 4000000 in
theorem sbelow_any {E w : World} {I m : PH} {ms : List PH} {S : Nat} {s s' : G.St} {x a b r : Nat} (hm : s.below x a b = some (s', r)) (hx : x < s.tabs.length) (hA2 : a < 4611686018427387904) (hB2 : b < 4611686018427387904) (hT : TabLt s) (hA : StAt S s m) (hS : Sat E I (m :: ms) w) :
    Calls Try.prog 57 #[vPt S, nv x, nv a, nv b] w fun e w' => e = .returned (nv r) ∧ ∃ m', StAt S s' m' ∧ Sat E I (m' :: ms) w' := by
  obtain ⟨J, lJ, mJ, hS, back⟩ := hS.ice
  have hR := hA.read.le mJ
  have Hback := Lib.hid back
  have HA := Lib.hid hA
  clear back hA mJ lJ
  unfold G.St.below at hm
  by_cases hab : a = b
  · rw [if_pos hab] at hm
    subst hab
    cases hm
    clear hR hT
    go_enter Try.func57, Try.ntmps57
    go_wp2_with (first | (go_at_call 61; (with_reducible refine Calls.mono (HNo.out _) ?_); rintro e w ⟨rfl, rfl⟩) | ((with_reducible refine atList ?_); first | ((with_reducible refine isLoad ?_); (first | (refine ld1 0 hS rfl rfl ?ha rfl rfl rfl ?_; (case ha => first | exact ty_agg74 | exact ty_agg77)) | ((refine' ldI1 (v := _) hS rfl rfl ?ha rfl ?hb ?_); (case ha => first | exact ty_agg74 | exact ty_agg77); (case hb => assumption))); (try simp only [Act.put, zE, zF, zG]))))
    go_ret
    exact ⟨rfl, m, HA.out, Hback.out _ _ hS⟩
  rw [if_neg hab, norm_eq] at hm
  simp only [] at hm
  have hab' : ¬ (a : Int) = (b : Int) := by omega
  obtain ⟨h0, L, P, vV, vL, vT, vC, gs, h1, h2, i3, h4, h5, h6, h7, h8, h9, hP, h11, hgs, h13, h14⟩ := hR
  obtain ⟨T, cT, rfl, hgt⟩ := h13 (by omega)
  have hg := List.getElem?_eq_getElem (l := gs) (i := x) (by omega)
  have htt := List.getElem?_eq_getElem (l := s.tabs) (i := x) hx
  have htb : s.tabs[x] = s.tab x := by unfold G.St.tab; rw [List.getD_eq_getElem?_getD, htt]; rfl
  have iT := hgt x _ hg
  have hTab := h14 x _ _ hg htt
  rw [htb] at hTab
  generalize gs[x] = g at *
  have hxi : (x : Int) < (s.tabs.length : Int) := by omega
  have hx64 : s.tabs.length ≤ 64 := h0.tabs
  generalize hl : G.flipIf a (b % 2 == 1) = l at *
  generalize hh : G.flipIf b (b % 2 == 1) = h at *
  have hA3 : l < 4611686018427387904 := by rw [← hl]; exact flipIf_lt hA2 _
  have hB3 : h < 4611686018427387904 := by rw [← hh]; exact flipIf_lt hB2 _
  have hno := fun w' => enorm_any w' a b hA2 hB2
  rw [hl, hh] at hno
  have HNo := Lib.hid hno
  have hF := fun (w' : World) (hle : J.le (heapOf w')) => tfind_any (hTab.le hle) l h
  clear h1 h2 h4 h5 h6 h7 h8 h9 hP h11 hgs h13 h14 hno hg htt hgt h0
  cases hf : G.findT (s.tab x) l h with
  | some id =>
    rw [hf] at hm hF
    cases hm
    have hidl : id < 4194304 := by obtain ⟨e, he, hi⟩ := find_mem hf; rw [← hi]; exact hT _ e he
    have HF := Lib.hid hF
    clear hF hTab hT hf
    go_enter Try.func57, Try.ntmps57
    go_wp2_with (first | (go_at_call 61; (with_reducible refine Calls.mono (HNo.out _) ?_); rintro e w ⟨rfl, rfl⟩) | (go_at_call 62; (with_reducible refine Calls.mono (HF.out _ hS.ile) ?_); rintro e w ⟨rfl, rfl⟩) | (go_at_call 64; (with_reducible refine Calls.mono (eof_any _ _ _ hidl) ?_); rintro e w ⟨rfl, rfl⟩) | ((with_reducible refine atList ?_); first | ((with_reducible refine isLoad ?_); (first | (refine ld1 0 hS rfl rfl ?ha rfl rfl rfl ?_; (case ha => first | exact ty_agg74 | exact ty_agg77)) | ((refine' ldI1 (v := _) hS rfl rfl ?ha rfl ?hb ?_); (case ha => first | exact ty_agg74 | exact ty_agg77); (case hb => assumption))); (try simp only [Act.put, zE, zF, zG]))))
    go_ret
    exact ⟨rfl, m, HA.out, Hback.out _ _ hS⟩
  | none =>
    rw [hf] at hm hF
    have HF := Lib.hid hF
    clear hF hTab hT hf
    simp only [] at hm
    cases had : s.add x l h with
    | none => rw [had] at hm; cases hm
    | some o =>
      cases o with
      | none => rw [had] at hm; cases hm
      | some q =>
        obtain ⟨s1, id⟩ := q
        rw [had] at hm
        cases hm
        have HAd := Lib.hid had
        have hidl := add_lt had
        clear had
        go_enter Try.func57, Try.ntmps57
        go_wp2_with (first | (go_at_call 61; (with_reducible refine Calls.mono (HNo.out _) ?_); rintro e w ⟨rfl, rfl⟩) | (go_at_call 62; (with_reducible refine Calls.mono (HF.out _ hS.ile) ?_); rintro e w ⟨rfl, rfl⟩) | (go_at_call 63; (with_reducible refine Calls.mono (sadd_some HAd.out hA3 hB3 HA.out (Hback.out _ _ hS)) ?_); clear hS; rintro e w ⟨rfl, hfin⟩; have Hfin := Lib.hid hfin; clear hfin) | (go_at_call 64; (with_reducible refine Calls.mono (eof_any _ _ _ hidl) ?_); rintro e w ⟨rfl, rfl⟩) | ((with_reducible refine atList ?_); first | ((with_reducible refine isLoad ?_); (first | (refine ld1 0 hS rfl rfl ?ha rfl rfl rfl ?_; (case ha => first | exact ty_agg74 | exact ty_agg77)) | ((refine' ldI1 (v := _) hS rfl rfl ?ha rfl ?hb ?_); (case ha => first | exact ty_agg74 | exact ty_agg77); (case hb => assumption))); (try simp only [Act.put, zE, zF, zG]))))
        go_ret
        exact ⟨rfl, Hfin.out⟩
end Go.Proofs.Ytdhkkkhnjooioaa
