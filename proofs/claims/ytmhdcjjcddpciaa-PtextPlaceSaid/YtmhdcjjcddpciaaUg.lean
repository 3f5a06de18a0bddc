/- ptext: the chapter's examples. -/
import Derived.Test.YtmhdcjjcddpciaaUf
namespace Go.Proofs.Ytmhdcjjcddpciaa
set_option linter.unusedSimpArgs false
set_option linter.unusedVariables false
open Go.RowKit
def exT : PT := .mk 10 0 [.mk 3 0 [], .mk 4 0 [.mk 3 12 []], .mk 1 0 []]
def exL : List Nat := [40, 63, 32, 118, 48, 32, 40, 33, 32, 118, 49, 50, 41, 32, 116, 114, 117, 101, 41]
def exS : ByteArray := ⟨#[40, 63, 32, 118, 48, 32, 40, 33, 32, 118, 49, 50, 41, 32, 116, 114, 117, 101, 41]⟩
def exR : ByteArray := ⟨#[40, 38, 32, 118, 48, 49, 41]⟩
theorem lst_exS : lst exS = exL := by decide
theorem lst_exR : lst exR = [40, 38, 32, 118, 48, 49, 41] := by decide
theorem ex_chk : pchk exT = 0 := by kernel_rfl
theorem ex_res : pres exL = (exT, 19, 0) := by kernel_rfl
theorem ex_bad : pres [40, 38, 32, 118, 48, 49, 41] = (zeroP, 5, 3) := by kernel_rfl
theorem ex_txt : ptx exT = exL := by kernel_rfl
theorem ex_shw : shw exT = (exL, 0) := by unfold shw; rw [if_pos ex_chk, ex_txt]
theorem pures_cons {l : List Tr} {p : PT} {ps : List PT} (h : Tr.pures l = p :: ps) : ∃ k ks, l = k :: ks ∧ k.pure = p ∧ Tr.pures ks = ps := by
  cases l with
  | nil => rw [Tr.pures] at h; cases h
  | cons k ks =>
    rw [Tr.pures] at h
    injection h with h1 h2
    exact ⟨k, ks, rfl, h1, h2⟩
theorem pures_nil {l : List Tr} (h : Tr.pures l = []) : l = [] := by
  cases l with
  | nil => rfl
  | cons k ks => rw [Tr.pures] at h; cases h
theorem pure_op {t : Tr} {op var : Int} {ks : List PT} (h : t.pure = .mk op var ks) : t.op = op ∧ t.var = var ∧ Tr.pures t.kids = ks := by
  cases t with
  | mk a b c d e =>
    rw [Tr.pure] at h
    injection h with h1 h2 h3
    exact ⟨h1, h2, h3⟩
/-- What the examples ask of the tree that is read. -/
theorem ex_tree {t : Tr} {J : PH} (h : t.pure = exT) (hin : In J t) : t.op = 10 ∧ t.kids.length = 3 ∧ ∃ X off, t.A = some ⟨X, off, none⟩ ∧ J.at X (off + 3) = some (.int .i64 4) := by
  obtain ⟨h1, h2, h3⟩ := pure_op h
  obtain ⟨a, ks, e1, ha, h4⟩ := pures_cons h3
  obtain ⟨b, ks2, e2, hb, h5⟩ := pures_cons h4
  obtain ⟨c, ks3, e3, hc, h6⟩ := pures_cons h5
  have e4 := pures_nil h6
  subst e4 e3 e2
  obtain ⟨X, off, e5, hcell⟩ := hin.at_ (by rw [e1]; simp)
  refine ⟨h1, by rw [e1]; rfl, X, off, e5, ?_⟩
  obtain ⟨hcb, _⟩ := hcell 1 b (by rw [e1]; rfl)
  have := hcb 0 (.int .i64 b.op) rfl
  rw [(pure_op hb).1] at this
  simpa using this
set_option maxHeartbeats 4000000 in
set_option maxRecDepth 100000 in
theorem lives_any (E : World) (I : PH) (ms : List PH) (w : World) (hS : Sat E I ms w) :
    Calls Try.prog 7 #[] w fun e w' => e = .returned (.bool true) ∧ Sat E I ms w' := by
  have P1 := Lib.hid (fun (J : PH) (ns : List PH) w' h => parseT_any E J ns exS w' h)
  have P2 := Lib.hid (fun (J : PH) (ns : List PH) w' h => parseT_any E J ns exR w' h)
  rw [lst_exS, ex_res] at P1
  rw [lst_exR, ex_bad] at P2
  unfold exS at P1
  unfold exR at P2
  have P1' : Hid (∀ (J : PH) (ns : List PH) w', Sat E J ns w' → Calls Try.prog 8 #[.string ⟨#[40, 63, 32, 118, 48, 32, 40, 33, 32, 118, 49, 50, 41, 32, 116, 114, 117, 101, 41]⟩] w' fun e w' => ∃ (t : Tr) (J2 : PH) (X off : Nat), e = .returned (.tuple #[.agg #[.int .i64 10, .int .i64 t.var, .slice (some ⟨X, off, none⟩) 3 t.cap], .int .i64 19, .int .i64 0]) ∧ J.le J2 ∧ t.val = .agg #[.int .i64 10, .int .i64 t.var, .slice (some ⟨X, off, none⟩) 3 t.cap] ∧ t.pure = exT ∧ In J2 t ∧ J2.at X (off + 3) = some (.int .i64 4) ∧ Sat E J2 ns w') := by
    refine Lib.hid fun J ns w' h => (P1.out J ns w' h).mono ?_
    rintro e w' ⟨v, J2, rfl, hJ, ⟨t, rfl, htp, hti⟩, hS⟩
    obtain ⟨h1, h2, X, off, h3, h4⟩ := ex_tree htp hti
    refine ⟨t, J2, X, off, ?_, hJ, ?_, htp, hti, h4, hS⟩
    · rw [h1, h2, h3]; rfl
    · unfold Tr.val; rw [h1, h2, h3]
  have P2' : Hid (∀ (J : PH) (ns : List PH) w', Sat E J ns w' → Calls Try.prog 8 #[.string ⟨#[40, 38, 32, 118, 48, 49, 41]⟩] w' fun e w' => ∃ (t : Tr) (J2 : PH), e = .returned (.tuple #[.agg #[.int .i64 t.op, .int .i64 t.var, .slice t.A t.kids.length t.cap], .int .i64 5, .int .i64 3]) ∧ J.le J2 ∧ Sat E J2 ns w') := by
    refine Lib.hid fun J ns w' h => (P2.out J ns w' h).mono ?_
    rintro e w' ⟨v, J2, rfl, hJ, ⟨t, rfl, htp, hti⟩, hS⟩
    exact ⟨t, J2, rfl, hJ, hS⟩
  have SH : Hid (∀ (J : PH) (ns : List PH) w' (t : Tr), t.pure = exT → In J t → Sat E J ns w' → Calls Try.prog 12 #[t.val] w' fun e w' => e = .returned (.tuple #[.string ⟨#[40, 63, 32, 118, 48, 32, 40, 33, 32, 118, 49, 50, 41, 32, 116, 114, 117, 101, 41]⟩, .int .i64 0]) ∧ Sat E J ns w') := by
    refine Lib.hid fun J ns w' t htp hti h => (show_any E J ns t w' hti h).mono ?_
    rintro e w' ⟨v, rfl, ⟨str, rfl, hstr⟩, hS⟩
    rw [htp, ex_shw] at hstr ⊢
    obtain rfl : str = exS := lst_inj (by rw [hstr, lst_exS])
    exact ⟨rfl, hS⟩
  clear P1 P2
  go_enter Try.func7, Try.ntmps7
  go_wp2_with (first | ((with_reducible refine atList ?_); first | ((with_reducible refine isBoxD 1 ?_); refine bx hS rfl rfl rfl ?_; clear hS; intro XA w hS; (try simp only [Act.eval, Array.getD_eq_getD_getElem?, List.getElem?_toArray, List.getElem?_cons_succ, List.getElem?_cons_zero, Option.getD_some, Value.cells] at hS); (try simp only [Act.put, List.setIfInBounds_toArray, List.set_cons_succ, List.set_cons_zero])) | ((with_reducible refine isAllocD 1 ?_); (refine' al (z := _) hS rfl rfl ?ha ?_); (case ha => first | exact ty_z25 | exact ty_z3 | exact ty_z23); clear hS; intro XA w hS; (try simp only [Act.eval, Array.getD_eq_getD_getElem?, List.getElem?_toArray, List.getElem?_cons_succ, List.getElem?_cons_zero, Option.getD_some, Value.cells] at hS); (try simp only [Act.put, List.setIfInBounds_toArray, List.set_cons_succ, List.set_cons_zero])) | ((with_reducible refine isBoxD 6 ?_); refine bx hS rfl rfl rfl ?_; clear hS; intro XB w hS; (try simp only [Act.eval, Array.getD_eq_getD_getElem?, List.getElem?_toArray, List.getElem?_cons_succ, List.getElem?_cons_zero, Option.getD_some, Value.cells] at hS); (try simp only [Act.put, List.setIfInBounds_toArray, List.set_cons_succ, List.set_cons_zero])) | ((with_reducible refine isAllocD 6 ?_); (refine' al (z := _) hS rfl rfl ?ha ?_); (case ha => first | exact ty_z25 | exact ty_z3 | exact ty_z23); clear hS; intro XB w hS; (try simp only [Act.eval, Array.getD_eq_getD_getElem?, List.getElem?_toArray, List.getElem?_cons_succ, List.getElem?_cons_zero, Option.getD_some, Value.cells] at hS); (try simp only [Act.put, List.setIfInBounds_toArray, List.set_cons_succ, List.set_cons_zero])) | ((with_reducible refine isGuard ?_); first | go_skip | (refine guarded_yes ?hw ?_; case hw => (simp only [Region.wanted, yielded, List.getElem?_toArray, List.getElem?_cons_succ, List.getElem?_cons_zero, Option.bind_some, beq_self_eq_true]; done)) | ((refine' guarded_cases (b := _) ?hy ?_ ?_); (case hy => (simp only [yielded, List.getElem?_toArray, List.getElem?_cons_succ, List.getElem?_cons_zero, Option.bind_some]; exact rfl)); all_goals (intro hb; (try simp only [Bool.not_true, Bool.not_false] at hb); (try simp only [hb]); (try simp only [Act.put, List.setIfInBounds_toArray, List.set_cons_succ, List.set_cons_zero]); first | ((have hf : False := by (simp at hb; done)); cases hf) | ((have hf : False := by (simp at hb; omega)); cases hf) | skip))) | ((with_reducible refine isLoad ?_); first | (refine ld1 0 hS rfl rfl ?ha rfl rfl rfl ?_; (case ha => first | exact ty_agg3 | exact ty_agg23); (try simp only [Act.put, List.setIfInBounds_toArray, List.set_cons_succ, List.set_cons_zero])) | (refine ld1 1 hS rfl rfl ?ha rfl rfl rfl ?_; (case ha => first | exact ty_agg3 | exact ty_agg23); (try simp only [Act.put, List.setIfInBounds_toArray, List.set_cons_succ, List.set_cons_zero])) | (refine ld1 2 hS rfl rfl ?ha rfl rfl rfl ?_; (case ha => first | exact ty_agg3 | exact ty_agg23); (try simp only [Act.put, List.setIfInBounds_toArray, List.set_cons_succ, List.set_cons_zero])) | (refine ldN 0 hS rfl rfl ?ha rfl rfl ?hb ?_; (case ha => first | exact ty_agg25); (case hb => first | exact ty_sz25); (try simp only [Act.put, List.setIfInBounds_toArray, List.set_cons_succ, List.set_cons_zero])) | (refine ldN 1 hS rfl rfl ?ha rfl rfl ?hb ?_; (case ha => first | exact ty_agg25); (case hb => first | exact ty_sz25); (try simp only [Act.put, List.setIfInBounds_toArray, List.set_cons_succ, List.set_cons_zero])) | (refine ldN 2 hS rfl rfl ?ha rfl rfl ?hb ?_; (case ha => first | exact ty_agg25); (case hb => first | exact ty_sz25); (try simp only [Act.put, List.setIfInBounds_toArray, List.set_cons_succ, List.set_cons_zero])) | ((refine' ldI1 (v := _) hS rfl rfl ?ha rfl ?hb ?_); (case ha => first | exact ty_agg3 | exact ty_agg23); (case hb => assumption); (try simp only [Act.put, List.setIfInBounds_toArray, List.set_cons_succ, List.set_cons_zero])) | ((refine' ldIN (vs := _) hS rfl rfl ?ha rfl ?hc ?hb ?_); (case ha => first | exact ty_agg25); (case hc => assumption); (case hb => first | exact ty_sz25); (try simp only [Act.put, List.setIfInBounds_toArray, List.set_cons_succ, List.set_cons_zero]))) | ((with_reducible refine isStore ?_); first | (refine st1 0 hS rfl rfl rfl rfl rfl ?ha rfl rfl ?hb ?_; (case ha => first | exact ty_sz3 | exact ty_sz23); (case hb => (simp; done)); clear hS; intro w hS; (try simp only [List.set_cons_succ, List.set_cons_zero, List.setIfInBounds_toArray, Act.eval, Array.getD_eq_getD_getElem?, List.getElem?_toArray, List.getElem?_cons_succ, List.getElem?_cons_zero, Option.getD_some, Value.cells] at hS); (try simp only [Act.put, List.setIfInBounds_toArray, List.set_cons_succ, List.set_cons_zero])) | (refine st1 1 hS rfl rfl rfl rfl rfl ?ha rfl rfl ?hb ?_; (case ha => first | exact ty_sz3 | exact ty_sz23); (case hb => (simp; done)); clear hS; intro w hS; (try simp only [List.set_cons_succ, List.set_cons_zero, List.setIfInBounds_toArray, Act.eval, Array.getD_eq_getD_getElem?, List.getElem?_toArray, List.getElem?_cons_succ, List.getElem?_cons_zero, Option.getD_some, Value.cells] at hS); (try simp only [Act.put, List.setIfInBounds_toArray, List.set_cons_succ, List.set_cons_zero])) | (refine st1 2 hS rfl rfl rfl rfl rfl ?ha rfl rfl ?hb ?_; (case ha => first | exact ty_sz3 | exact ty_sz23); (case hb => (simp; done)); clear hS; intro w hS; (try simp only [List.set_cons_succ, List.set_cons_zero, List.setIfInBounds_toArray, Act.eval, Array.getD_eq_getD_getElem?, List.getElem?_toArray, List.getElem?_cons_succ, List.getElem?_cons_zero, Option.getD_some, Value.cells] at hS); (try simp only [Act.put, List.setIfInBounds_toArray, List.set_cons_succ, List.set_cons_zero])) | (refine stN 0 hS rfl rfl rfl rfl rfl ?ha rfl rfl ?_; (case ha => first | exact ty_sz25); clear hS; intro w hS; (try simp only [List.set_cons_succ, List.set_cons_zero, List.setIfInBounds_toArray, Act.eval, Array.getD_eq_getD_getElem?, List.getElem?_toArray, List.getElem?_cons_succ, List.getElem?_cons_zero, Option.getD_some, Value.cells] at hS); (try simp only [Act.put, List.setIfInBounds_toArray, List.set_cons_succ, List.set_cons_zero])) | (refine stN 1 hS rfl rfl rfl rfl rfl ?ha rfl rfl ?_; (case ha => first | exact ty_sz25); clear hS; intro w hS; (try simp only [List.set_cons_succ, List.set_cons_zero, List.setIfInBounds_toArray, Act.eval, Array.getD_eq_getD_getElem?, List.getElem?_toArray, List.getElem?_cons_succ, List.getElem?_cons_zero, Option.getD_some, Value.cells] at hS); (try simp only [Act.put, List.setIfInBounds_toArray, List.set_cons_succ, List.set_cons_zero])) | (refine stN 2 hS rfl rfl rfl rfl rfl ?ha rfl rfl ?_; (case ha => first | exact ty_sz25); clear hS; intro w hS; (try simp only [List.set_cons_succ, List.set_cons_zero, List.setIfInBounds_toArray, Act.eval, Array.getD_eq_getD_getElem?, List.getElem?_toArray, List.getElem?_cons_succ, List.getElem?_cons_zero, Option.getD_some, Value.cells] at hS); (try simp only [Act.put, List.setIfInBounds_toArray, List.set_cons_succ, List.set_cons_zero]))) | ((with_reducible refine isBox ?_); refine bx hS rfl rfl rfl ?_; clear hS; intro X w hS; (try simp only [Act.eval, Array.getD_eq_getD_getElem?, List.getElem?_toArray, List.getElem?_cons_succ, List.getElem?_cons_zero, Option.getD_some, Value.cells] at hS); (try simp only [Act.put, List.setIfInBounds_toArray, List.set_cons_succ, List.set_cons_zero])) | ((with_reducible refine isAlloc ?_); (refine' al (z := _) hS rfl rfl ?ha ?_); (case ha => first | exact ty_z25 | exact ty_z3 | exact ty_z23); clear hS; intro X w hS; (try simp only [Act.eval, Array.getD_eq_getD_getElem?, List.getElem?_toArray, List.getElem?_cons_succ, List.getElem?_cons_zero, Option.getD_some, Value.cells] at hS); (try simp only [Act.put, List.setIfInBounds_toArray, List.set_cons_succ, List.set_cons_zero]))) | (go_at_call 8; first | ((with_reducible refine Calls.mono (P1'.out _ _ _ hS) ?_); clear hS; rintro e w ⟨t, J2, X, off, rfl, hJ2, hval, htp, hti, hcell, hS⟩; have HV := Lib.hid hval; have HT := Lib.hid htp; have HI := Lib.hid hti; clear hval htp hti) | ((with_reducible refine Calls.mono (P2'.out _ _ _ hS) ?_); clear hS; rintro e w ⟨t2, J3, rfl, hJ3, hS⟩)) | (go_at_call 12; (refine Calls.mono (HV.out ▸ SH.out _ _ _ t HT.out HI.out hS) ?_); clear hS; rintro e w ⟨rfl, hS⟩))
  go_ret
  exact ⟨rfl, (hS.less hJ3).less hJ2 |>.drop.drop⟩
end Go.Proofs.Ytmhdcjjcddpciaa
