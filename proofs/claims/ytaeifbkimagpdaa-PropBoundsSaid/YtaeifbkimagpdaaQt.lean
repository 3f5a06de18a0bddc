/- The reference's Vars; the plain law: what the program's Vars gathers are the same numbers in order. -/
import Derived.Test.YtaeifbkimagpdaaQs
namespace Go.Proofs.Ytaeifbkimagpdaa
set_option linter.unusedSimpArgs false
set_option linter.unusedVariables false
open Go.RowKit
def Tr.vars (t : Tr) : List Int := if (rchk t 1 0).1 = 0 then ofL (varsL t) else []
theorem Src.head {I m : PH} {ms : List PH} : Src I (m :: ms) m := .inr (.head _)
theorem IL.nil : IL (fun _ => none) none [] := ⟨by simp, fun h => by simp at h⟩
theorem IL.own {m : PH} {e : TypeId} {v : Value} {s : List Int} (h : OwnP m e 1 v s.length (s.map (Value.int .i64))) : ∃ A c, v = .slice A s.length c ∧ IL m A s := by
  obtain ⟨A, c, rfl, _⟩ := h.shape
  exact ⟨A, c, rfl, h.il⟩
set_option maxHeartbeats 1000000 in
theorem rVars_any (E : World) (I : PH) (ms : List PH) (t : Tr) (w : World) (hin : In I t) (hS : Sat E I ms w) :
    Calls Try.prog 44 #[t.val] w fun e w' => ∃ A c m, e = .returned (.slice A t.vars.length c) ∧ IL m A t.vars ∧ Sat E I (m :: ms) w' := by
  have CK := Lib.hid (fun ms' w' => rCheck_any E I ms' t w' hin)
  unfold Tr.vars
  by_cases h : (rchk t 1 0).1 = 0
  · rw [if_pos h]
    rw [h] at CK
    obtain ⟨_, _, _, h4⟩ := rchk_ok t 1 0 (by omega) (by omega) (by omega) h
    have hle := varsL_le t
    have VA := Lib.hid (fun (ns : List PH) w' (hS' : Sat E I ns w') => rvars_any E 4096 I ns t w' (by omega) (by omega) hin hS')
    have hsm : (varsL t).length ≤ 1000000000 := by omega
    unfold Tr.val at *
    generalize varsL t = l at *
    clear hin h h4 hle
    go_enter Try.func44, Try.ntmps44
    go_wp2_with (first | ((with_reducible refine atList ?_); first | ((with_reducible refine isGuard ?_); first | go_skip | (refine guarded_yes ?hw ?_; case hw => (simp only [Region.wanted, yielded, List.getElem?_toArray, List.getElem?_cons_succ, List.getElem?_cons_zero, Option.bind_some, beq_self_eq_true]; done)) | ((refine' guarded_cases (b := _) ?hy ?_ ?_); (case hy => (simp only [yielded, List.getElem?_toArray, List.getElem?_cons_succ, List.getElem?_cons_zero, Option.bind_some]; exact rfl)); all_goals (intro hb; (try simp only [Bool.not_true, Bool.not_false] at hb); (try simp only [hb]); (try simp only [Act.put, List.setIfInBounds_toArray, List.set_cons_succ, List.set_cons_zero]); first | ((have hf : False := by (simp at hb; done)); cases hf) | ((have hf : False := by (simp at hb; omega)); cases hf) | skip))) | ((with_reducible refine isLoad ?_); first | (refine ld1 0 hS rfl rfl ?ha rfl rfl rfl ?_; (case ha => first | exact ty_agg3); (try simp only [Act.put, List.setIfInBounds_toArray, List.set_cons_succ, List.set_cons_zero])) | (refine ld1 1 hS rfl rfl ?ha rfl rfl rfl ?_; (case ha => first | exact ty_agg3); (try simp only [Act.put, List.setIfInBounds_toArray, List.set_cons_succ, List.set_cons_zero])) | (refine ld1 2 hS rfl rfl ?ha rfl rfl rfl ?_; (case ha => first | exact ty_agg3); (try simp only [Act.put, List.setIfInBounds_toArray, List.set_cons_succ, List.set_cons_zero])) | (refine ldN 0 hS rfl rfl ?ha rfl rfl ?hb ?_; (case ha => first | exact ty_agg47); (case hb => first | exact ty_sz47); (try simp only [Act.put, List.setIfInBounds_toArray, List.set_cons_succ, List.set_cons_zero])) | (refine ldN 1 hS rfl rfl ?ha rfl rfl ?hb ?_; (case ha => first | exact ty_agg47); (case hb => first | exact ty_sz47); (try simp only [Act.put, List.setIfInBounds_toArray, List.set_cons_succ, List.set_cons_zero])) | (refine ldN 2 hS rfl rfl ?ha rfl rfl ?hb ?_; (case ha => first | exact ty_agg47); (case hb => first | exact ty_sz47); (try simp only [Act.put, List.setIfInBounds_toArray, List.set_cons_succ, List.set_cons_zero])) | ((refine' ldI1 (v := _) hS rfl rfl ?ha rfl ?hb ?_); (case ha => first | exact ty_agg3); (case hb => assumption); (try simp only [Act.put, List.setIfInBounds_toArray, List.set_cons_succ, List.set_cons_zero])) | ((refine' ldIN (vs := _) hS rfl rfl ?ha rfl ?hc ?hb ?_); (case ha => first | exact ty_agg47); (case hc => assumption); (case hb => first | exact ty_sz47); (try simp only [Act.put, List.setIfInBounds_toArray, List.set_cons_succ, List.set_cons_zero]))) | ((with_reducible refine isStore ?_); first | (refine st1 0 hS rfl rfl rfl rfl rfl ?ha rfl rfl ?hb ?_; (case ha => first | exact ty_sz3); (case hb => (simp; done)); clear hS; intro w hS; (try simp only [List.set_cons_succ, List.set_cons_zero, List.setIfInBounds_toArray, Act.eval, Array.getD_eq_getD_getElem?, List.getElem?_toArray, List.getElem?_cons_succ, List.getElem?_cons_zero, Option.getD_some, Value.cells] at hS); (try simp only [Act.put, List.setIfInBounds_toArray, List.set_cons_succ, List.set_cons_zero])) | (refine st1 1 hS rfl rfl rfl rfl rfl ?ha rfl rfl ?hb ?_; (case ha => first | exact ty_sz3); (case hb => (simp; done)); clear hS; intro w hS; (try simp only [List.set_cons_succ, List.set_cons_zero, List.setIfInBounds_toArray, Act.eval, Array.getD_eq_getD_getElem?, List.getElem?_toArray, List.getElem?_cons_succ, List.getElem?_cons_zero, Option.getD_some, Value.cells] at hS); (try simp only [Act.put, List.setIfInBounds_toArray, List.set_cons_succ, List.set_cons_zero])) | (refine st1 2 hS rfl rfl rfl rfl rfl ?ha rfl rfl ?hb ?_; (case ha => first | exact ty_sz3); (case hb => (simp; done)); clear hS; intro w hS; (try simp only [List.set_cons_succ, List.set_cons_zero, List.setIfInBounds_toArray, Act.eval, Array.getD_eq_getD_getElem?, List.getElem?_toArray, List.getElem?_cons_succ, List.getElem?_cons_zero, Option.getD_some, Value.cells] at hS); (try simp only [Act.put, List.setIfInBounds_toArray, List.set_cons_succ, List.set_cons_zero])) | (refine stN 0 hS rfl rfl rfl rfl rfl ?ha rfl rfl ?_; (case ha => first | exact ty_sz47); clear hS; intro w hS; (try simp only [List.set_cons_succ, List.set_cons_zero, List.setIfInBounds_toArray, Act.eval, Array.getD_eq_getD_getElem?, List.getElem?_toArray, List.getElem?_cons_succ, List.getElem?_cons_zero, Option.getD_some, Value.cells] at hS); (try simp only [Act.put, List.setIfInBounds_toArray, List.set_cons_succ, List.set_cons_zero])) | (refine stN 1 hS rfl rfl rfl rfl rfl ?ha rfl rfl ?_; (case ha => first | exact ty_sz47); clear hS; intro w hS; (try simp only [List.set_cons_succ, List.set_cons_zero, List.setIfInBounds_toArray, Act.eval, Array.getD_eq_getD_getElem?, List.getElem?_toArray, List.getElem?_cons_succ, List.getElem?_cons_zero, Option.getD_some, Value.cells] at hS); (try simp only [Act.put, List.setIfInBounds_toArray, List.set_cons_succ, List.set_cons_zero])) | (refine stN 2 hS rfl rfl rfl rfl rfl ?ha rfl rfl ?_; (case ha => first | exact ty_sz47); clear hS; intro w hS; (try simp only [List.set_cons_succ, List.set_cons_zero, List.setIfInBounds_toArray, Act.eval, Array.getD_eq_getD_getElem?, List.getElem?_toArray, List.getElem?_cons_succ, List.getElem?_cons_zero, Option.getD_some, Value.cells] at hS); (try simp only [Act.put, List.setIfInBounds_toArray, List.set_cons_succ, List.set_cons_zero]))) | ((with_reducible refine isBox ?_); refine bx hS rfl rfl rfl ?_; clear hS; intro X w hS; (try simp only [Act.eval, Array.getD_eq_getD_getElem?, List.getElem?_toArray, List.getElem?_cons_succ, List.getElem?_cons_zero, Option.getD_some, Value.cells] at hS); (try simp only [Act.put, List.setIfInBounds_toArray, List.set_cons_succ, List.set_cons_zero])) | ((with_reducible refine isAlloc ?_); (refine' al (z := _) hS rfl rfl ?ha ?_); (case ha => first | exact ty_z47 | exact ty_z3); clear hS; intro X w hS; (try simp only [Act.eval, Array.getD_eq_getD_getElem?, List.getElem?_toArray, List.getElem?_cons_succ, List.getElem?_cons_zero, Option.getD_some, Value.cells] at hS); (try simp only [Act.put, List.setIfInBounds_toArray, List.set_cons_succ, List.set_cons_zero]))) | (go_at_call 29; ((with_reducible refine Calls.mono (CK.out _ _ hS) ?_); clear hS; rintro e w ⟨rfl, hS⟩)) | (go_at_call 61; ((with_reducible refine Calls.mono (VA.out _ _ hS) ?_); clear hS; rintro e w ⟨v2, m2, rfl, hO, hS⟩; obtain ⟨A2, c2, rfl, hO2⟩ := IL.own hO; clear hO)) | (go_at_call 60; ((with_reducible refine Calls.mono (of_any_p E _ _ _ _ _ _ _ hO2 hsm Src.head hS) ?_); clear hS; rintro e w ⟨v3, m3, rfl, hO3, hS⟩; obtain ⟨A3, c3, rfl, hO4⟩ := IL.own hO3; clear hO3)))
    go_ret
    refine ⟨_, _, _, rfl, hO4, hS.sub ?_⟩
    exact List.Sublist.cons_cons _ (List.Sublist.cons _ (List.Sublist.cons _ (List.Sublist.refl _)))
  · rw [if_neg h]
    have d1 : ((rchk t 1 0).1 != 0) = true := by simpa using h
    unfold Tr.val at *
    generalize (rchk t 1 0).1 = x at *
    clear hin h
    go_enter Try.func44, Try.ntmps44
    go_wp2_with (first | ((with_reducible refine atList ?_); first | ((with_reducible refine isGuard ?_); first | go_skip | (refine guarded_yes ?hw ?_; case hw => (simp only [Region.wanted, yielded, List.getElem?_toArray, List.getElem?_cons_succ, List.getElem?_cons_zero, Option.bind_some, beq_self_eq_true]; done)) | ((refine' guarded_cases (b := _) ?hy ?_ ?_); (case hy => (simp only [yielded, List.getElem?_toArray, List.getElem?_cons_succ, List.getElem?_cons_zero, Option.bind_some]; exact rfl)); all_goals (intro hb; (try simp only [Bool.not_true, Bool.not_false] at hb); (try simp only [hb]); (try simp only [Act.put, List.setIfInBounds_toArray, List.set_cons_succ, List.set_cons_zero]); first | ((have hf : False := by (simp at hb; done)); cases hf) | ((have hf : False := by (simp at hb; omega)); cases hf) | skip))) | ((with_reducible refine isLoad ?_); first | (refine ld1 0 hS rfl rfl ?ha rfl rfl rfl ?_; (case ha => first | exact ty_agg3); (try simp only [Act.put, List.setIfInBounds_toArray, List.set_cons_succ, List.set_cons_zero])) | (refine ld1 1 hS rfl rfl ?ha rfl rfl rfl ?_; (case ha => first | exact ty_agg3); (try simp only [Act.put, List.setIfInBounds_toArray, List.set_cons_succ, List.set_cons_zero])) | (refine ldN 0 hS rfl rfl ?ha rfl rfl ?hb ?_; (case ha => first | exact ty_agg47); (case hb => first | exact ty_sz47); (try simp only [Act.put, List.setIfInBounds_toArray, List.set_cons_succ, List.set_cons_zero])) | (refine ldN 1 hS rfl rfl ?ha rfl rfl ?hb ?_; (case ha => first | exact ty_agg47); (case hb => first | exact ty_sz47); (try simp only [Act.put, List.setIfInBounds_toArray, List.set_cons_succ, List.set_cons_zero])) | ((refine' ldI1 (v := _) hS rfl rfl ?ha rfl ?hb ?_); (case ha => first | exact ty_agg3); (case hb => assumption); (try simp only [Act.put, List.setIfInBounds_toArray, List.set_cons_succ, List.set_cons_zero])) | ((refine' ldIN (vs := _) hS rfl rfl ?ha rfl ?hc ?hb ?_); (case ha => first | exact ty_agg47); (case hc => assumption); (case hb => first | exact ty_sz47); (try simp only [Act.put, List.setIfInBounds_toArray, List.set_cons_succ, List.set_cons_zero]))) | ((with_reducible refine isStore ?_); first | (refine st1 0 hS rfl rfl rfl rfl rfl ?ha rfl rfl ?hb ?_; (case ha => first | exact ty_sz3); (case hb => (simp; done)); clear hS; intro w hS; (try simp only [List.set_cons_succ, List.set_cons_zero, List.setIfInBounds_toArray, Act.eval, Array.getD_eq_getD_getElem?, List.getElem?_toArray, List.getElem?_cons_succ, List.getElem?_cons_zero, Option.getD_some, Value.cells] at hS); (try simp only [Act.put, List.setIfInBounds_toArray, List.set_cons_succ, List.set_cons_zero])) | (refine st1 1 hS rfl rfl rfl rfl rfl ?ha rfl rfl ?hb ?_; (case ha => first | exact ty_sz3); (case hb => (simp; done)); clear hS; intro w hS; (try simp only [List.set_cons_succ, List.set_cons_zero, List.setIfInBounds_toArray, Act.eval, Array.getD_eq_getD_getElem?, List.getElem?_toArray, List.getElem?_cons_succ, List.getElem?_cons_zero, Option.getD_some, Value.cells] at hS); (try simp only [Act.put, List.setIfInBounds_toArray, List.set_cons_succ, List.set_cons_zero])) | (refine stN 0 hS rfl rfl rfl rfl rfl ?ha rfl rfl ?_; (case ha => first | exact ty_sz47); clear hS; intro w hS; (try simp only [List.set_cons_succ, List.set_cons_zero, List.setIfInBounds_toArray, Act.eval, Array.getD_eq_getD_getElem?, List.getElem?_toArray, List.getElem?_cons_succ, List.getElem?_cons_zero, Option.getD_some, Value.cells] at hS); (try simp only [Act.put, List.setIfInBounds_toArray, List.set_cons_succ, List.set_cons_zero])) | (refine stN 1 hS rfl rfl rfl rfl rfl ?ha rfl rfl ?_; (case ha => first | exact ty_sz47); clear hS; intro w hS; (try simp only [List.set_cons_succ, List.set_cons_zero, List.setIfInBounds_toArray, Act.eval, Array.getD_eq_getD_getElem?, List.getElem?_toArray, List.getElem?_cons_succ, List.getElem?_cons_zero, Option.getD_some, Value.cells] at hS); (try simp only [Act.put, List.setIfInBounds_toArray, List.set_cons_succ, List.set_cons_zero]))) | ((with_reducible refine isBox ?_); refine bx hS rfl rfl rfl ?_; clear hS; intro X w hS; (try simp only [Act.eval, Array.getD_eq_getD_getElem?, List.getElem?_toArray, List.getElem?_cons_succ, List.getElem?_cons_zero, Option.getD_some, Value.cells] at hS); (try simp only [Act.put, List.setIfInBounds_toArray, List.set_cons_succ, List.set_cons_zero])) | ((with_reducible refine isAlloc ?_); (refine' al (z := _) hS rfl rfl ?ha ?_); (case ha => first | exact ty_z47 | exact ty_z3); clear hS; intro X w hS; (try simp only [Act.eval, Array.getD_eq_getD_getElem?, List.getElem?_toArray, List.getElem?_cons_succ, List.getElem?_cons_zero, Option.getD_some, Value.cells] at hS); (try simp only [Act.put, List.setIfInBounds_toArray, List.set_cons_succ, List.set_cons_zero]))) | (go_at_call 29; ((with_reducible refine Calls.mono (CK.out _ _ hS) ?_); clear hS; rintro e w ⟨rfl, hS⟩)))
    go_ret
    exact ⟨_, _, _, rfl, IL.nil, hS.drop.empty⟩
/-- Lists in order, each number once. -/
theorem sorted_eq : ∀ (l m : List Int), l.Pairwise (· < ·) → m.Pairwise (· < ·) → (∀ x, x ∈ l ↔ x ∈ m) → l = m := by
  intro l
  induction l with
  | nil =>
    intro m _ _ h
    cases m with
    | nil => rfl
    | cons y m => exact absurd ((h y).2 (.head _)) (by simp)
  | cons x l ih =>
    intro m hl hm h
    cases m with
    | nil => exact absurd ((h x).1 (.head _)) (by simp)
    | cons y m =>
      obtain ⟨h1, h2⟩ := List.pairwise_cons.1 hl
      obtain ⟨h3, h4⟩ := List.pairwise_cons.1 hm
      have hxy : x = y := by
        rcases List.mem_cons.1 ((h x).1 (.head _)) with e | e
        · exact e
        · rcases List.mem_cons.1 ((h y).2 (.head _)) with e2 | e2
          · exact e2.symm
          · have := h1 y e2; have := h3 x e; omega
      subst hxy
      rw [ih m h2 h4 fun z => ?_]
      constructor
      · intro hz
        rcases List.mem_cons.1 ((h z).1 (.tail _ hz)) with e | e
        · have := h1 z hz; omega
        · exact e
      · intro hz
        rcases List.mem_cons.1 ((h z).2 (.tail _ hz)) with e | e
        · have := h3 z hz; omega
        · exact e
theorem putF_true (v : Int) : ∀ (l acc : List Int), l.foldl (putStep v) (acc, true) = (acc ++ l, true) := by
  intro l
  induction l with
  | nil => intro acc; simp
  | cons x l ih => intro acc; simp [putStep, ih]
theorem putF_eq (v : Int) : ∀ (l acc : List Int), (if (l.foldl (putStep v) (acc, false)).2 then (l.foldl (putStep v) (acc, false)).1 else (l.foldl (putStep v) (acc, false)).1 ++ [v]) = acc ++ (l.takeWhile fun x => !decide (v < x)) ++ v :: (l.dropWhile fun x => !decide (v < x)) := by
  intro l
  induction l with
  | nil => intro acc; simp
  | cons x l ih =>
    intro acc
    by_cases h : v < x
    · simp [putStep, h, putF_true]
    · simp [putStep, h, ih]
theorem putL_eq (v : Int) (l : List Int) : putL v l = (l.takeWhile fun x => !decide (v < x)) ++ v :: (l.dropWhile fun x => !decide (v < x)) := by
  have := putF_eq v l []
  unfold putL putF
  rw [this]; simp
theorem putL_mem (v : Int) (l : List Int) (x : Int) : x ∈ putL v l ↔ x = v ∨ x ∈ l := by
  rw [putL_eq]
  have h := List.takeWhile_append_dropWhile (p := fun x => !decide (v < x)) (l := l)
  have hx : x ∈ l ↔ x ∈ l.takeWhile (fun x => !decide (v < x)) ∨ x ∈ l.dropWhile (fun x => !decide (v < x)) := by rw [← List.mem_append, h]
  rw [hx, List.mem_append, List.mem_cons]
  constructor
  · rintro (h | h | h)
    · exact .inr (.inl h)
    · exact .inl h
    · exact .inr (.inr h)
  · rintro (h | h | h)
    · exact .inr (.inl h)
    · exact .inl h
    · exact .inr (.inr h)
theorem dropWhile_head {p : Int → Bool} : ∀ {l : List Int} {y : Int} {r : List Int}, l.dropWhile p = y :: r → p y = false := by
  intro l
  induction l with
  | nil => intro y r h; simp at h
  | cons x l ih =>
    intro y r h
    rw [List.dropWhile_cons] at h
    split at h
    · exact ih h
    · rename_i hp
      injection h with h1 h2
      subst h1
      simpa using hp
theorem takeWhile_all {p : Int → Bool} : ∀ {l : List Int} {y : Int}, y ∈ l.takeWhile p → p y = true := by
  intro l
  induction l with
  | nil => intro y h; simp at h
  | cons x l ih =>
    intro y h
    rw [List.takeWhile_cons] at h
    split at h
    · rename_i hp
      rcases List.mem_cons.1 h with rfl | h
      · exact hp
      · exact ih h
    · simp at h
theorem putL_sorted (v : Int) (l : List Int) (hl : l.Pairwise (· < ·)) (hv : v ∉ l) : (putL v l).Pairwise (· < ·) := by
  rw [putL_eq]
  have h := List.takeWhile_append_dropWhile (p := fun x => !decide (v < x)) (l := l)
  generalize hp : (fun x : Int => !decide (v < x)) = p at *
  have ha := @takeWhile_all p l
  have hb := @dropWhile_head p l
  generalize l.takeWhile p = a at *
  generalize l.dropWhile p = b at *
  subst h
  obtain ⟨h1, h2, h3⟩ := List.pairwise_append.1 hl
  have hav : ∀ x ∈ a, x < v := fun x hx => by
    have := ha hx
    rw [← hp] at this
    have hne : x ≠ v := fun e => hv (by rw [← e]; exact List.mem_append_left _ hx)
    simp at this
    omega
  have hbv : ∀ x ∈ b, v < x := fun x hx => by
    cases b with
    | nil => cases hx
    | cons y r =>
      have := hb rfl
      rw [← hp] at this
      simp at this
      rcases List.mem_cons.1 hx with rfl | hx
      · exact this
      · have := (List.pairwise_cons.1 h2).1 x hx; omega
  refine List.pairwise_append.2 ⟨h1, List.pairwise_cons.2 ⟨hbv, h2⟩, fun x hx y hy => ?_⟩
  rcases List.mem_cons.1 hy with rfl | hy
  · exact hav x hx
  · exact h3 x hx y hy
theorem ofL_all : ∀ (l s : List Int), s.Pairwise (· < ·) → (l.foldl ofStep s).Pairwise (· < ·) ∧ ∀ x, x ∈ l.foldl ofStep s ↔ x ∈ s ∨ x ∈ l := by
  intro l
  induction l with
  | nil => intro s hs; exact ⟨hs, fun x => by simp⟩
  | cons y l ih =>
    intro s hs
    have h1 : (ofStep s y).Pairwise (· < ·) := by
      unfold ofStep
      split
      · exact hs
      · rename_i h; exact putL_sorted y s hs h
    have h2 : ∀ x, x ∈ ofStep s y ↔ x ∈ s ∨ x = y := fun x => by
      unfold ofStep
      split
      · rename_i h
        exact ⟨.inl, fun hx => hx.elim id fun e => e ▸ h⟩
      · rw [putL_mem]
        exact or_comm
    obtain ⟨h3, h4⟩ := ih (ofStep s y) h1
    refine ⟨h3, fun x => ?_⟩
    rw [List.foldl_cons, h4, h2, List.mem_cons, or_assoc]
def rangeL (s : Nat → Bool) (n : Nat) : List Int := ((List.range n).filter s).map fun j : Nat => (j : Int)
theorem rangeL_succ (s : Nat → Bool) (n : Nat) : rangeL s (n + 1) = rangeL s n ++ (if s n then [(n : Int)] else []) := by
  unfold rangeL
  rw [List.range_succ, List.filter_append, List.map_append]
  cases h : s n <;> simp [h]
theorem rangeL_len (s : Nat → Bool) : ∀ n, (rangeL s n).length ≤ n
  | 0 => by simp [rangeL]
  | n + 1 => by
    rw [rangeL_succ, List.length_append]
    have := rangeL_len s n
    split <;> simp <;> omega
theorem rangeL_mem (s : Nat → Bool) (n : Nat) (x : Int) : x ∈ rangeL s n ↔ ∃ j : Nat, j < n ∧ s j = true ∧ (j : Int) = x := by
  simp [rangeL, and_assoc]
theorem rangeL_sorted (s : Nat → Bool) : ∀ n, (rangeL s n).Pairwise (· < ·)
  | 0 => by simp [rangeL]
  | n + 1 => by
    rw [rangeL_succ]
    refine List.pairwise_append.2 ⟨rangeL_sorted s n, by split <;> simp, fun x hx y hy => ?_⟩
    obtain ⟨j, hj, _, rfl⟩ := (rangeL_mem s n x).1 hx
    split at hy
    · rw [List.mem_singleton] at hy; omega
    · simp at hy
mutual
theorem walk_var : ∀ (t : Tr) (d : Int) (s : Nat → Bool), Ok t → walkS varSt t d s = (true, fun j => s j || decide ((j : Int) ∈ varsL t))
  | .mk op var A cap ks, d, s, h => by
    rw [walkS, show varSt (.mk op var A cap ks) d s = (true, if op = 3 then (fun j => s j || decide (j = var.toNat)) else s) from rfl]
    simp only [if_true]
    rw [walks_var ks (d + 1) _ fun t ht => h.kid t ht]
    congr 1
    funext j
    rw [varsL]
    by_cases h3 : op = 3
    · subst h3
      have hv : ¬ var < 0 := by
        have := (wrongP_ok h.here).2.1
        simp only [Tr.op, Tr.var] at this
        omega
      simp only [if_true, List.mem_append, List.mem_singleton]
      have : (j = var.toNat) ↔ ((j : Int) = var) := by omega
      simp only [this, Bool.or_assoc, Bool.decide_or]
    · simp [h3]
theorem walks_var : ∀ (l : List Tr) (d : Int) (s : Nat → Bool), (∀ t ∈ l, Ok t) → walksS varSt l d s = (true, fun j => s j || decide ((j : Int) ∈ varsLs l))
  | [], d, s, _ => by simp [walksS, varsLs]
  | k :: ks, d, s, h => by
    rw [walksS, walk_var k d s (h k (.head _))]
    simp only [if_true]
    rw [walks_var ks d _ fun t ht => h t (.tail _ ht)]
    congr 1
    funext j
    simp only [varsLs, List.mem_append, Bool.decide_or, Bool.or_assoc]
end
mutual
theorem varsL_ok : ∀ (t : Tr), Ok t → ∀ x ∈ varsL t, 0 ≤ x ∧ x < 64
  | .mk op var A cap ks, h, x, hx => by
    rw [varsL, List.mem_append] at hx
    rcases hx with hx | hx
    · split at hx
      · rename_i h3
        rw [List.mem_singleton] at hx
        subst hx
        have := (wrongP_ok h.here).2.1
        simp only [Tr.op, Tr.var] at this
        omega
      · cases hx
    · exact varsLs_ok ks (fun t ht => h.kid t ht) x hx
theorem varsLs_ok : ∀ (l : List Tr), (∀ t ∈ l, Ok t) → ∀ x ∈ varsLs l, 0 ≤ x ∧ x < 64
  | [], _, x, hx => by simp [varsLs] at hx
  | k :: ks, h, x, hx => by
    rw [varsLs, List.mem_append] at hx
    rcases hx with hx | hx
    · exact varsL_ok k (h k (.head _)) x hx
    · exact varsLs_ok ks (fun t ht => h t (.tail _ ht)) x hx
end
theorem vars_range {t : Tr} (h : Ok t) : rangeL (walkS varSt t 1 fun _ => false).2 64 = ofL (varsL t) := by
  obtain ⟨h1, h2⟩ := ofL_all (varsL t) [] .nil
  refine sorted_eq _ _ (rangeL_sorted _ _) h1 fun x => ?_
  rw [rangeL_mem, walk_var t 1 _ h]
  simp only [Bool.false_or, decide_eq_true_eq]
  have := h2 x
  simp only [List.not_mem_nil, false_or] at this
  unfold ofL
  rw [this]
  constructor
  · rintro ⟨j, _, hj, rfl⟩; exact hj
  · intro hx
    have := varsL_ok t h x hx
    exact ⟨x.toNat, by omega, by rwa [show ((x.toNat : Nat) : Int) = x by omega], by omega⟩
end Go.Proofs.Ytaeifbkimagpdaa
