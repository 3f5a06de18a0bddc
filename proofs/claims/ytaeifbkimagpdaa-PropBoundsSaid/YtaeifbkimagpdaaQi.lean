/- prop.value and prop.Eval. -/
import Derived.Test.YtaeifbkimagpdaaQh
namespace Go.Proofs.Ytaeifbkimagpdaa
set_option linter.unusedSimpArgs false
set_option linter.unusedVariables false
open Go.RowKit
theorem len_two {α : Type} {l : List α} (h : l.length = 2) : ∃ a b, l = [a, b] := by
  match l, h with
  | [a, b], _ => exact ⟨a, b, rfl⟩
theorem len_three {α : Type} {l : List α} (h : l.length = 3) : ∃ a b c, l = [a, b, c] := by
  match l, h with
  | [a, b, c], _ => exact ⟨a, b, c, rfl⟩
theorem Src.of_le {I : PH} {ms : List PH} {p : PH} (h : p.le I) : Src I ms p := .inl h
theorem VC.le {E : World} {I J : PH} {p : PH} {A2 : Option Addr} {cp : Nat} {bl : List Bool} {t : Tr} (h : VC E I p A2 cp bl t) (hJ : I.le J) : VC E J p A2 cp bl t :=
  fun K ms w hK hp hS => h K ms w (hJ.trans hK) hp hS
theorem value_vc (E : World) (p : PH) (A2 : Option Addr) (cp : Nat) (bl : List Bool) (hbl : BL p A2 bl) : ∀ (m : Nat) (I : PH) (t : Tr), t.size ≤ m → In I t → Ok t → VC E I p A2 cp bl t := by
  intro m
  induction m with
  | zero => intro I t h; have := t.size_pos; omega
  | succ m ih =>
    intro I t hsz hin hok J ms w hJ hp hS
    have hin' := hin.le hJ
    have kid : ∀ k ∈ t.kids, VC E J p A2 cp bl k := fun k hk => ih J k (by have := Tr.size_kid hk; omega) (hin'.kid k hk) (hok.kid k hk)
    have hat := hin'.at_
    obtain ⟨a1, a2, a3, a4⟩ := wrongP_ok hok.here
    have hv := Tr.value_eq bl t
    rw [Tr.values_map] at hv
    rw [hv]
    clear hv hsz ih hok hin
    obtain ⟨op, var, A, cap, kids⟩ := t
    simp only [Tr.op, Tr.var, Tr.A, Tr.kids, Tr.cap] at *
    have at0 : 0 < kids.length → ∃ X off, A = some ⟨X, off, none⟩ ∧ ∀ k u, kids[k]? = some u → Cells J X (off + k * 3) [.int .i64 u.op, .int .i64 u.var, .slice u.A u.kids.length u.cap] ∧ VC E J p A2 cp bl u := fun h => by
      obtain ⟨X, off, e, hc⟩ := hat h
      exact ⟨X, off, e, fun k u hk => ⟨(hc k u hk).1, kid u (List.mem_of_getElem? hk)⟩⟩
    clear hat kid hin'
    rcases op_cases a1 with rfl | rfl | rfl | rfl | rfl | rfl | rfl | rfl | rfl | rfl
    · exact value_lit E J A2 cp bl 1 var A cap _ ms w hS (.inl rfl)
    · exact value_lit E J A2 cp bl 2 var A cap _ ms w hS (.inr rfl)
    · rcases a2 with ⟨_, b1, b2⟩ | ⟨b1, _⟩
      · obtain ⟨v, rfl⟩ : ∃ v : Nat, var = v := ⟨var.toNat, by omega⟩
        have := value_var E J p A2 cp bl hbl v A cap kids.length ms w hp hS
        simpa [vOf] using this
      · exact absurd rfl b1
    · have hl : kids.length = 1 := by simp [few, many] at a3 a4; omega
      obtain ⟨k0, rfl⟩ := List.length_eq_one_iff.1 hl
      obtain ⟨X, off, hA, hc⟩ := at0 (by simp)
      have := value_not E J p A2 cp bl var A cap k0 ms w hp hS X off hA (by simpa using (hc 0 k0 rfl).1) (hc 0 k0 rfl).2
      simpa [vOf] using this
    · have hl : kids.length ≤ 64 := by simp [few, many] at a3 a4; omega
      have := value_many E J p A2 cp bl 5 var A cap kids ms w (.inl rfl) hp hS (by omega) at0
      simpa [vOf, vMany] using this
    · have hl : kids.length ≤ 64 := by simp [few, many] at a3 a4; omega
      have := value_many E J p A2 cp bl 6 var A cap kids ms w (.inr (.inl rfl)) hp hS (by omega) at0
      simpa [vOf, vMany] using this
    · have hl : kids.length ≤ 64 := by simp [few, many] at a3 a4; omega
      have := value_many E J p A2 cp bl 7 var A cap kids ms w (.inr (.inr rfl)) hp hS (by omega) at0
      simpa [vOf, vMany] using this
    · have hl : kids.length = 2 := by simp [few, many] at a3 a4; omega
      obtain ⟨k0, k1, rfl⟩ := len_two hl
      obtain ⟨X, off, hA, hc⟩ := at0 (by simp)
      have := value_imp E J p A2 cp bl var A cap k0 k1 ms w hp hS X off hA (by simpa using (hc 0 k0 rfl).1) (hc 0 k0 rfl).2 (by simpa using (hc 1 k1 rfl).1) (hc 1 k1 rfl).2
      simpa [vOf] using this
    · have hl : kids.length = 2 := by simp [few, many] at a3 a4; omega
      obtain ⟨k0, k1, rfl⟩ := len_two hl
      obtain ⟨X, off, hA, hc⟩ := at0 (by simp)
      have := value_iff E J p A2 cp bl var A cap k0 k1 ms w hp hS X off hA (by simpa using (hc 0 k0 rfl).1) (hc 0 k0 rfl).2 (by simpa using (hc 1 k1 rfl).1) (hc 1 k1 rfl).2
      simpa [vOf] using this
    · have hl : kids.length = 3 := by simp [few, many] at a3 a4; omega
      obtain ⟨k0, k1, k2, rfl⟩ := len_three hl
      obtain ⟨X, off, hA, hc⟩ := at0 (by simp)
      have := value_ite E J p A2 cp bl var A cap k0 k1 k2 ms w hp hS X off hA (by simpa using (hc 0 k0 rfl).1) (hc 0 k0 rfl).2 (by simpa using (hc 1 k1 rfl).1) (hc 1 k1 rfl).2 (by simpa using (hc 2 k2 rfl).1) (hc 2 k2 rfl).2
      simpa [vOf] using this
/-- Eval: false where the check fails. -/
def Tr.eval (bl : List Bool) (t : Tr) : Bool := if (rchk t 1 0).1 = 0 then t.value bl else false
set_option maxHeartbeats 1000000 in
theorem eval_any (E : World) (p : PH) (A2 : Option Addr) (cp : Nat) (bl : List Bool) (hbl : BL p A2 bl) (I : PH) (ms : List PH) (t : Tr) (w : World) (hin : In I t) (hp : Src I ms p) (hS : Sat E I ms w) :
    Calls Try.prog 39 #[t.val, .slice A2 bl.length cp] w fun e w' => e = .returned (.bool (t.eval bl)) ∧ Sat E I ms w' := by
  have CK := Lib.hid (fun ms' w' => Check_any E I ms' w' t hin)
  unfold Tr.eval
  by_cases h : (rchk t 1 0).1 = 0
  · rw [if_pos h]
    rw [h] at CK
    have hok := (rchk_ok t 1 0 (by omega) (by omega) (by omega) h).1
    have VL := Lib.hid (fun m w' => value_vc E p A2 cp bl hbl t.size I t (Nat.le_refl _) hin hok I (m :: ms) w' (PH.le.refl _) (hp.cons m))
    unfold Tr.val at *
    generalize t.value bl = b at *
    clear hin hp h hok hbl
    go_enter Try.func39, Try.ntmps39
    go_wp2_with (first | ((with_reducible refine atList ?_); first | ((with_reducible refine isGuard ?_); first | go_skip | (refine guarded_yes ?hw ?_; case hw => (simp only [Region.wanted, yielded, List.getElem?_toArray, List.getElem?_cons_succ, List.getElem?_cons_zero, Option.bind_some, beq_self_eq_true]; done)) | ((refine' guarded_cases (b := _) ?hy ?_ ?_); (case hy => (simp only [yielded, List.getElem?_toArray, List.getElem?_cons_succ, List.getElem?_cons_zero, Option.bind_some]; exact rfl)); all_goals (intro hb; (try simp only [Bool.not_true, Bool.not_false] at hb); (try simp only [hb]); (try simp only [Act.put, List.setIfInBounds_toArray, List.set_cons_succ, List.set_cons_zero]); first | ((have hf : False := by (simp at hb; done)); cases hf) | ((have hf : False := by (simp at hb; omega)); cases hf) | skip))) | ((with_reducible refine isLoad ?_); first | (refine ld1 0 hS rfl rfl ?ha rfl rfl rfl ?_; (case ha => first | exact ty_agg3); (try simp only [Act.put, List.setIfInBounds_toArray, List.set_cons_succ, List.set_cons_zero])) | (refine ld1 1 hS rfl rfl ?ha rfl rfl rfl ?_; (case ha => first | exact ty_agg3); (try simp only [Act.put, List.setIfInBounds_toArray, List.set_cons_succ, List.set_cons_zero])) | (refine ldN 0 hS rfl rfl ?ha rfl rfl ?hb ?_; (case ha => first | exact ty_agg47); (case hb => first | exact ty_sz47); (try simp only [Act.put, List.setIfInBounds_toArray, List.set_cons_succ, List.set_cons_zero])) | (refine ldN 1 hS rfl rfl ?ha rfl rfl ?hb ?_; (case ha => first | exact ty_agg47); (case hb => first | exact ty_sz47); (try simp only [Act.put, List.setIfInBounds_toArray, List.set_cons_succ, List.set_cons_zero])) | ((refine' ldI1 (v := _) hS rfl rfl ?ha rfl ?hb ?_); (case ha => first | exact ty_agg3); (case hb => assumption); (try simp only [Act.put, List.setIfInBounds_toArray, List.set_cons_succ, List.set_cons_zero])) | ((refine' ldIN (vs := _) hS rfl rfl ?ha rfl ?hc ?hb ?_); (case ha => first | exact ty_agg47); (case hc => assumption); (case hb => first | exact ty_sz47); (try simp only [Act.put, List.setIfInBounds_toArray, List.set_cons_succ, List.set_cons_zero]))) | ((with_reducible refine isStore ?_); first | (refine st1 0 hS rfl rfl rfl rfl rfl ?ha rfl rfl ?hb ?_; (case ha => first | exact ty_sz3); (case hb => (simp; done)); clear hS; intro w hS; (try simp only [List.set_cons_succ, List.set_cons_zero, List.setIfInBounds_toArray, Act.eval, Array.getD_eq_getD_getElem?, List.getElem?_toArray, List.getElem?_cons_succ, List.getElem?_cons_zero, Option.getD_some, Value.cells] at hS); (try simp only [Act.put, List.setIfInBounds_toArray, List.set_cons_succ, List.set_cons_zero])) | (refine st1 1 hS rfl rfl rfl rfl rfl ?ha rfl rfl ?hb ?_; (case ha => first | exact ty_sz3); (case hb => (simp; done)); clear hS; intro w hS; (try simp only [List.set_cons_succ, List.set_cons_zero, List.setIfInBounds_toArray, Act.eval, Array.getD_eq_getD_getElem?, List.getElem?_toArray, List.getElem?_cons_succ, List.getElem?_cons_zero, Option.getD_some, Value.cells] at hS); (try simp only [Act.put, List.setIfInBounds_toArray, List.set_cons_succ, List.set_cons_zero])) | (refine stN 0 hS rfl rfl rfl rfl rfl ?ha rfl rfl ?_; (case ha => first | exact ty_sz47); clear hS; intro w hS; (try simp only [List.set_cons_succ, List.set_cons_zero, List.setIfInBounds_toArray, Act.eval, Array.getD_eq_getD_getElem?, List.getElem?_toArray, List.getElem?_cons_succ, List.getElem?_cons_zero, Option.getD_some, Value.cells] at hS); (try simp only [Act.put, List.setIfInBounds_toArray, List.set_cons_succ, List.set_cons_zero])) | (refine stN 1 hS rfl rfl rfl rfl rfl ?ha rfl rfl ?_; (case ha => first | exact ty_sz47); clear hS; intro w hS; (try simp only [List.set_cons_succ, List.set_cons_zero, List.setIfInBounds_toArray, Act.eval, Array.getD_eq_getD_getElem?, List.getElem?_toArray, List.getElem?_cons_succ, List.getElem?_cons_zero, Option.getD_some, Value.cells] at hS); (try simp only [Act.put, List.setIfInBounds_toArray, List.set_cons_succ, List.set_cons_zero]))) | ((with_reducible refine isBox ?_); refine bx hS rfl rfl rfl ?_; clear hS; intro X w hS; (try simp only [Act.eval, Array.getD_eq_getD_getElem?, List.getElem?_toArray, List.getElem?_cons_succ, List.getElem?_cons_zero, Option.getD_some, Value.cells] at hS); (try simp only [Act.put, List.setIfInBounds_toArray, List.set_cons_succ, List.set_cons_zero])) | ((with_reducible refine isAlloc ?_); (refine' al (z := _) hS rfl rfl ?ha ?_); (case ha => first | exact ty_z47 | exact ty_z3); clear hS; intro X w hS; (try simp only [Act.eval, Array.getD_eq_getD_getElem?, List.getElem?_toArray, List.getElem?_cons_succ, List.getElem?_cons_zero, Option.getD_some, Value.cells] at hS); (try simp only [Act.put, List.setIfInBounds_toArray, List.set_cons_succ, List.set_cons_zero]))) | (go_at_call 28; ((with_reducible refine Calls.mono (CK.out _ _ hS) ?_); clear hS; rintro e w ⟨rfl, hS⟩)) | (go_at_call 58; ((with_reducible refine Calls.mono (VL.out _ _ hS) ?_); clear hS; rintro e w ⟨rfl, hS⟩)))
    go_ret
    exact ⟨rfl, hS.drop⟩
  · rw [if_neg h]
    unfold Tr.val at *
    generalize (rchk t 1 0).1 = x at *
    clear hin hp hbl
    go_enter Try.func39, Try.ntmps39
    go_wp2_with (first | ((with_reducible refine atList ?_); first | ((with_reducible refine isGuard ?_); first | go_skip | (refine guarded_yes ?hw ?_; case hw => (simp only [Region.wanted, yielded, List.getElem?_toArray, List.getElem?_cons_succ, List.getElem?_cons_zero, Option.bind_some, beq_self_eq_true]; done)) | ((refine' guarded_cases (b := _) ?hy ?_ ?_); (case hy => (simp only [yielded, List.getElem?_toArray, List.getElem?_cons_succ, List.getElem?_cons_zero, Option.bind_some]; exact rfl)); all_goals (intro hb; (try simp only [Bool.not_true, Bool.not_false] at hb); (try simp only [hb]); (try simp only [Act.put, List.setIfInBounds_toArray, List.set_cons_succ, List.set_cons_zero]); first | ((have hf : False := by (simp at hb; done)); cases hf) | ((have hf : False := by (simp at hb; omega)); cases hf) | skip))) | ((with_reducible refine isLoad ?_); first | (refine ld1 0 hS rfl rfl ?ha rfl rfl rfl ?_; (case ha => first | exact ty_agg3); (try simp only [Act.put, List.setIfInBounds_toArray, List.set_cons_succ, List.set_cons_zero])) | (refine ld1 1 hS rfl rfl ?ha rfl rfl rfl ?_; (case ha => first | exact ty_agg3); (try simp only [Act.put, List.setIfInBounds_toArray, List.set_cons_succ, List.set_cons_zero])) | (refine ldN 0 hS rfl rfl ?ha rfl rfl ?hb ?_; (case ha => first | exact ty_agg47); (case hb => first | exact ty_sz47); (try simp only [Act.put, List.setIfInBounds_toArray, List.set_cons_succ, List.set_cons_zero])) | (refine ldN 1 hS rfl rfl ?ha rfl rfl ?hb ?_; (case ha => first | exact ty_agg47); (case hb => first | exact ty_sz47); (try simp only [Act.put, List.setIfInBounds_toArray, List.set_cons_succ, List.set_cons_zero])) | ((refine' ldI1 (v := _) hS rfl rfl ?ha rfl ?hb ?_); (case ha => first | exact ty_agg3); (case hb => assumption); (try simp only [Act.put, List.setIfInBounds_toArray, List.set_cons_succ, List.set_cons_zero])) | ((refine' ldIN (vs := _) hS rfl rfl ?ha rfl ?hc ?hb ?_); (case ha => first | exact ty_agg47); (case hc => assumption); (case hb => first | exact ty_sz47); (try simp only [Act.put, List.setIfInBounds_toArray, List.set_cons_succ, List.set_cons_zero]))) | ((with_reducible refine isStore ?_); first | (refine st1 0 hS rfl rfl rfl rfl rfl ?ha rfl rfl ?hb ?_; (case ha => first | exact ty_sz3); (case hb => (simp; done)); clear hS; intro w hS; (try simp only [List.set_cons_succ, List.set_cons_zero, List.setIfInBounds_toArray, Act.eval, Array.getD_eq_getD_getElem?, List.getElem?_toArray, List.getElem?_cons_succ, List.getElem?_cons_zero, Option.getD_some, Value.cells] at hS); (try simp only [Act.put, List.setIfInBounds_toArray, List.set_cons_succ, List.set_cons_zero])) | (refine st1 1 hS rfl rfl rfl rfl rfl ?ha rfl rfl ?hb ?_; (case ha => first | exact ty_sz3); (case hb => (simp; done)); clear hS; intro w hS; (try simp only [List.set_cons_succ, List.set_cons_zero, List.setIfInBounds_toArray, Act.eval, Array.getD_eq_getD_getElem?, List.getElem?_toArray, List.getElem?_cons_succ, List.getElem?_cons_zero, Option.getD_some, Value.cells] at hS); (try simp only [Act.put, List.setIfInBounds_toArray, List.set_cons_succ, List.set_cons_zero])) | (refine stN 0 hS rfl rfl rfl rfl rfl ?ha rfl rfl ?_; (case ha => first | exact ty_sz47); clear hS; intro w hS; (try simp only [List.set_cons_succ, List.set_cons_zero, List.setIfInBounds_toArray, Act.eval, Array.getD_eq_getD_getElem?, List.getElem?_toArray, List.getElem?_cons_succ, List.getElem?_cons_zero, Option.getD_some, Value.cells] at hS); (try simp only [Act.put, List.setIfInBounds_toArray, List.set_cons_succ, List.set_cons_zero])) | (refine stN 1 hS rfl rfl rfl rfl rfl ?ha rfl rfl ?_; (case ha => first | exact ty_sz47); clear hS; intro w hS; (try simp only [List.set_cons_succ, List.set_cons_zero, List.setIfInBounds_toArray, Act.eval, Array.getD_eq_getD_getElem?, List.getElem?_toArray, List.getElem?_cons_succ, List.getElem?_cons_zero, Option.getD_some, Value.cells] at hS); (try simp only [Act.put, List.setIfInBounds_toArray, List.set_cons_succ, List.set_cons_zero]))) | ((with_reducible refine isBox ?_); refine bx hS rfl rfl rfl ?_; clear hS; intro X w hS; (try simp only [Act.eval, Array.getD_eq_getD_getElem?, List.getElem?_toArray, List.getElem?_cons_succ, List.getElem?_cons_zero, Option.getD_some, Value.cells] at hS); (try simp only [Act.put, List.setIfInBounds_toArray, List.set_cons_succ, List.set_cons_zero])) | ((with_reducible refine isAlloc ?_); (refine' al (z := _) hS rfl rfl ?ha ?_); (case ha => first | exact ty_z47 | exact ty_z3); clear hS; intro X w hS; (try simp only [Act.eval, Array.getD_eq_getD_getElem?, List.getElem?_toArray, List.getElem?_cons_succ, List.getElem?_cons_zero, Option.getD_some, Value.cells] at hS); (try simp only [Act.put, List.setIfInBounds_toArray, List.set_cons_succ, List.set_cons_zero]))) | (go_at_call 28; ((with_reducible refine Calls.mono (CK.out _ _ hS) ?_); clear hS; rintro e w ⟨rfl, hS⟩)))
    go_ret
    exact ⟨rfl, hS.drop⟩
end Go.Proofs.Ytaeifbkimagpdaa
