/- prop.walk, over what its function does. -/
import Derived.Test.YtmhdcjjcddpciaaQa
namespace Go.Proofs.Ytmhdcjjcddpciaa
set_option linter.unusedSimpArgs false
set_option linter.unusedVariables false
open Go.RowKit
mutual
def Tr.size : Tr → Nat
  | .mk _ _ _ _ ks => 1 + Tr.sizes ks
def Tr.sizes : List Tr → Nat
  | [] => 0
  | k :: ks => k.size + Tr.sizes ks
end
mutual
def Tr.deep : Tr → Nat
  | .mk _ _ _ _ ks => 1 + Tr.deeps ks
def Tr.deeps : List Tr → Nat
  | [] => 0
  | k :: ks => max k.deep (Tr.deeps ks)
end
theorem Tr.size_eq (t : Tr) : t.size = 1 + Tr.sizes t.kids := by cases t; rw [Tr.size]; rfl
theorem Tr.deep_eq (t : Tr) : t.deep = 1 + Tr.deeps t.kids := by cases t; rw [Tr.deep]; rfl
theorem Tr.sizes_mem {l : List Tr} {t : Tr} (h : t ∈ l) : t.size ≤ Tr.sizes l := by
  induction l with
  | nil => cases h
  | cons k ks ih =>
    rw [Tr.sizes]
    rcases List.mem_cons.1 h with rfl | h
    · omega
    · have := ih h; omega
theorem Tr.deeps_mem {l : List Tr} {t : Tr} (h : t ∈ l) : t.deep ≤ Tr.deeps l := by
  induction l with
  | nil => cases h
  | cons k ks ih =>
    rw [Tr.deeps]
    rcases List.mem_cons.1 h with rfl | h
    · omega
    · have := ih h; omega
theorem Tr.size_kid {t k : Tr} (h : k ∈ t.kids) : k.size < t.size := by have := Tr.sizes_mem h; rw [t.size_eq]; omega
theorem Tr.deep_kid {t k : Tr} (h : k ∈ t.kids) : k.deep < t.deep := by have := Tr.deeps_mem h; rw [t.deep_eq]; omega
theorem Tr.size_pos (t : Tr) : 0 < t.size := by rw [t.size_eq]; omega
theorem Tr.deep_pos (t : Tr) : 0 < t.deep := by rw [t.deep_eq]; omega
section
variable {σ : Type}
mutual
def walkS (st : Tr → Int → σ → Bool × σ) : Tr → Int → σ → Bool × σ
  | .mk op var A cap ks, d, s => if (st (.mk op var A cap ks) d s).1 then walksS st ks (d + 1) (st (.mk op var A cap ks) d s).2 else (false, (st (.mk op var A cap ks) d s).2)
def walksS (st : Tr → Int → σ → Bool × σ) : List Tr → Int → σ → Bool × σ
  | [], _, s => (true, s)
  | k :: ks, d, s => if (walkS st k d s).1 then walksS st ks d (walkS st k d s).2 else (false, (walkS st k d s).2)
end
theorem walkS_eq (st : Tr → Int → σ → Bool × σ) (t : Tr) (d : Int) (s : σ) : walkS st t d s = if (st t d s).1 then walksS st t.kids (d + 1) (st t d s).2 else (false, (st t d s).2) := by cases t; rw [walkS]; rfl
theorem walksS_take (st : Tr → Int → σ → Bool × σ) (d : Int) : ∀ (l : List Tr) (k : Nat) (t : Tr) (s : σ), l[k]? = some t → (walksS st (l.take k) d s).1 = true →
    walksS st (l.take (k + 1)) d s = walkS st t d (walksS st (l.take k) d s).2 := by
  intro l
  induction l with
  | nil => intro k t s h; simp at h
  | cons u l ih =>
    intro k t s h hb
    cases k with
    | zero =>
      simp at h
      subst h
      simp only [List.take_zero, List.take_succ_cons, walksS]
      cases hw : walkS st u d s with
      | mk b s' => cases b <;> simp
    | succ k =>
      simp only [List.getElem?_cons_succ] at h
      simp only [List.take_succ_cons, walksS] at hb ⊢
      cases hw : (walkS st u d s).1 with
      | false => rw [hw] at hb; simp at hb
      | true =>
        rw [hw] at hb
        simp only [if_true] at hb ⊢
        exact ih k t _ h hb
theorem walksS_false (st : Tr → Int → σ → Bool × σ) (d : Int) : ∀ (l : List Tr) (k : Nat) (s : σ), (walksS st (l.take k) d s).1 = false → walksS st l d s = walksS st (l.take k) d s := by
  intro l
  induction l with
  | nil => intro k s h; simp
  | cons u l ih =>
    intro k s h
    cases k with
    | zero => simp [walksS] at h
    | succ k =>
      simp only [List.take_succ_cons, walksS] at h ⊢
      cases hw : (walkS st u d s).1 with
      | false => simp
      | true =>
        rw [hw] at h
        simp only [if_true] at h ⊢
        exact ih k _ h
/-- Where the walk may go: it never gets below depth 65. -/
structure Ways (st : Tr → Int → σ → Bool × σ) (G : Tr → Int → Prop) : Prop where
  up : ∀ t d, G t d → 0 ≤ d ∧ d ≤ 65
  kid : ∀ t d s, G t d → (st t d s).1 = true → d ≤ 64 ∧ ∀ k ∈ t.kids, G k (d + 1)
end
theorem Sat.second {E w : World} {I : PH} {m n : PH} {ms : List PH} (h : Sat E I (m :: n :: ms) w) : Sat E I (n :: ms) w := h.drop
theorem Sat.swap {E w : World} {I : PH} {m n : PH} {ms : List PH} (h : Sat E I (m :: n :: ms) w) : Sat E I (n :: m :: ms) w := h.perm (List.Perm.swap n m ms)
set_option maxHeartbeats 1000000 in
theorem walk_any52 {σ : Type} (st : Tr → Int → σ → Bool × σ) (G : Tr → Int → Prop) (hG : Ways st G) (E : World) (I : PH) (ms : List PH) (c1 c2 : Value) (pcs : σ → List PH) (U : Tr → Prop) (hU : ∀ t, U t → ∀ k ∈ t.kids, U k)
    (hdo : ∀ (w : World) (t : Tr) (d : Int) (s : σ) (ns : List PH), U t → G t d → Sat E I (ns ++ (pcs s ++ ms)) w → Calls Try.prog 28 #[t.val, .int .i64 d, c1, c2] w fun e w' => e = .returned (.bool (st t d s).1) ∧ Sat E I (ns ++ (pcs (st t d s).2 ++ ms)) w') :
    ∀ (n : Nat) (t : Tr) (d : Int) (s : σ) (ns : List PH) (w : World), t.size ≤ n → In I t → U t → G t d → Sat E I (ns ++ (pcs s ++ ms)) w →
      Calls Try.prog 27 #[t.val, .int .i64 d, .func (.func 28) #[] #[c1, c2]] w fun e w' => e = .returned (.bool (walkS st t d s).1) ∧ Sat E I (ns ++ (pcs (walkS st t d s).2 ++ ms)) w' := by
  intro n
  induction n with
  | zero => intro t d s ns w h; have := t.size_pos; omega
  | succ n ih =>
    intro t d s ns w hsz hin hu hg hS
    have hd := hG.up t d hg
    rw [walkS_eq]
    have DO := Lib.hid (fun w' ns' => hdo w' t d s ns' hu hg)
    unfold Tr.val at DO
    unfold Tr.val
    cases hb : (st t d s).1 with
    | false =>
      rw [hb] at DO
      simp only [Bool.false_eq_true, if_false]
      clear hb
      go_enter Try.func27, Try.ntmps27
      go_wp2_with (first | ((with_reducible refine atList ?_); first | ((with_reducible refine isGuard ?_); first | go_skip | (refine guarded_yes ?hw ?_; case hw => (simp only [Region.wanted, yielded, List.getElem?_toArray, List.getElem?_cons_succ, List.getElem?_cons_zero, Option.bind_some, beq_self_eq_true]; done)) | ((refine' guarded_cases (b := _) ?hy ?_ ?_); (case hy => (simp only [yielded, List.getElem?_toArray, List.getElem?_cons_succ, List.getElem?_cons_zero, Option.bind_some]; exact rfl)); all_goals (intro hb; (try simp only [Bool.not_true, Bool.not_false] at hb); (try simp only [hb]); (try simp only [Act.put, List.setIfInBounds_toArray, List.set_cons_succ, List.set_cons_zero]); first | ((have hf : False := by (simp at hb; done)); cases hf) | ((have hf : False := by (simp at hb; omega)); cases hf) | skip))) | ((with_reducible refine isLoad ?_); first | (refine ld1 0 hS rfl rfl ?ha rfl rfl rfl ?_; (case ha => first | exact ty_agg3 | exact ty_agg23); (try simp only [Act.put, List.setIfInBounds_toArray, List.set_cons_succ, List.set_cons_zero])) | (refine ldN 0 hS rfl rfl ?ha rfl rfl ?hb ?_; (case ha => first | exact ty_agg25); (case hb => first | exact ty_sz25); (try simp only [Act.put, List.setIfInBounds_toArray, List.set_cons_succ, List.set_cons_zero])) | ((refine' ldI1 (v := _) hS rfl rfl ?ha rfl ?hb ?_); (case ha => first | exact ty_agg3 | exact ty_agg23); (case hb => assumption); (try simp only [Act.put, List.setIfInBounds_toArray, List.set_cons_succ, List.set_cons_zero])) | ((refine' ldIN (vs := _) hS rfl rfl ?ha rfl ?hc ?hb ?_); (case ha => first | exact ty_agg25); (case hc => assumption); (case hb => first | exact ty_sz25); (try simp only [Act.put, List.setIfInBounds_toArray, List.set_cons_succ, List.set_cons_zero]))) | ((with_reducible refine isStore ?_); first | (refine st1 0 hS rfl rfl rfl rfl rfl ?ha rfl rfl ?hb ?_; (case ha => first | exact ty_sz3 | exact ty_sz23); (case hb => (simp; done)); clear hS; intro w hS; (try simp only [List.set_cons_succ, List.set_cons_zero, List.setIfInBounds_toArray, Act.eval, Array.getD_eq_getD_getElem?, List.getElem?_toArray, List.getElem?_cons_succ, List.getElem?_cons_zero, Option.getD_some, Value.cells] at hS); (try simp only [Act.put, List.setIfInBounds_toArray, List.set_cons_succ, List.set_cons_zero])) | (refine stN 0 hS rfl rfl rfl rfl rfl ?ha rfl rfl ?_; (case ha => first | exact ty_sz25); clear hS; intro w hS; (try simp only [List.set_cons_succ, List.set_cons_zero, List.setIfInBounds_toArray, Act.eval, Array.getD_eq_getD_getElem?, List.getElem?_toArray, List.getElem?_cons_succ, List.getElem?_cons_zero, Option.getD_some, Value.cells] at hS); (try simp only [Act.put, List.setIfInBounds_toArray, List.set_cons_succ, List.set_cons_zero]))) | ((with_reducible refine isBox ?_); refine bx hS rfl rfl rfl ?_; clear hS; intro X w hS; (try simp only [Act.eval, Array.getD_eq_getD_getElem?, List.getElem?_toArray, List.getElem?_cons_succ, List.getElem?_cons_zero, Option.getD_some, Value.cells] at hS); (try simp only [Act.put, List.setIfInBounds_toArray, List.set_cons_succ, List.set_cons_zero])) | ((with_reducible refine isAlloc ?_); (refine' al (z := _) hS rfl rfl ?ha ?_); (case ha => first | exact ty_z25 | exact ty_z3 | exact ty_z23); clear hS; intro X w hS; (try simp only [Act.eval, Array.getD_eq_getD_getElem?, List.getElem?_toArray, List.getElem?_cons_succ, List.getElem?_cons_zero, Option.getD_some, Value.cells] at hS); (try simp only [Act.put, List.setIfInBounds_toArray, List.set_cons_succ, List.set_cons_zero]))) | (go_at_call 28; refine (DO.out _ (_ :: ns) hS).mono ?_; clear hS; rintro e w ⟨rfl, hS⟩))
      go_ret
      exact ⟨rfl, hS.drop⟩
    | true =>
      rw [hb] at DO
      simp only [if_true]
      obtain ⟨hd4, hkids⟩ := hG.kid t d s hg hb
      have Hk := Lib.hid hkids
      have Hu := Lib.hid (hU t hu)
      have IH := Lib.hid ih
      have Hin := Lib.hid hin.at_
      have Hlen := hin.row.1
      have Hsz := Lib.hid (fun k (hk : k ∈ t.kids) => (show k.size ≤ n by have := Tr.size_kid hk; omega))
      generalize (st t d s).2 = s1 at *
      clear hb hkids hu hg ih hin hsz hU hdo hG
      obtain ⟨op, var, A, cap, kids⟩ := t
      simp only [Tr.op, Tr.var, Tr.A, Tr.kids, Tr.cap] at *
      go_enter Try.func27, Try.ntmps27
      go_wp2_with (first | ((with_reducible refine atList ?_); first | ((with_reducible refine isGuard ?_); first | go_skip | (refine guarded_yes ?hw ?_; case hw => (simp only [Region.wanted, yielded, List.getElem?_toArray, List.getElem?_cons_succ, List.getElem?_cons_zero, Option.bind_some, beq_self_eq_true]; done)) | ((refine' guarded_cases (b := _) ?hy ?_ ?_); (case hy => (simp only [yielded, List.getElem?_toArray, List.getElem?_cons_succ, List.getElem?_cons_zero, Option.bind_some]; exact rfl)); all_goals (intro hb; (try simp only [Bool.not_true, Bool.not_false] at hb); (try simp only [hb]); (try simp only [Act.put, List.setIfInBounds_toArray, List.set_cons_succ, List.set_cons_zero]); first | ((have hf : False := by (simp at hb; done)); cases hf) | ((have hf : False := by (simp at hb; omega)); cases hf) | skip))) | ((with_reducible refine isLoad ?_); first | (refine ld1 0 hS rfl rfl ?ha rfl rfl rfl ?_; (case ha => first | exact ty_agg3 | exact ty_agg23); (try simp only [Act.put, List.setIfInBounds_toArray, List.set_cons_succ, List.set_cons_zero])) | (refine ldN 0 hS rfl rfl ?ha rfl rfl ?hb ?_; (case ha => first | exact ty_agg25); (case hb => first | exact ty_sz25); (try simp only [Act.put, List.setIfInBounds_toArray, List.set_cons_succ, List.set_cons_zero])) | ((refine' ldI1 (v := _) hS rfl rfl ?ha rfl ?hb ?_); (case ha => first | exact ty_agg3 | exact ty_agg23); (case hb => assumption); (try simp only [Act.put, List.setIfInBounds_toArray, List.set_cons_succ, List.set_cons_zero])) | ((refine' ldIN (vs := _) hS rfl rfl ?ha rfl ?hc ?hb ?_); (case ha => first | exact ty_agg25); (case hc => assumption); (case hb => first | exact ty_sz25); (try simp only [Act.put, List.setIfInBounds_toArray, List.set_cons_succ, List.set_cons_zero]))) | ((with_reducible refine isStore ?_); first | (refine st1 0 hS rfl rfl rfl rfl rfl ?ha rfl rfl ?hb ?_; (case ha => first | exact ty_sz3 | exact ty_sz23); (case hb => (simp; done)); clear hS; intro w hS; (try simp only [List.set_cons_succ, List.set_cons_zero, List.setIfInBounds_toArray, Act.eval, Array.getD_eq_getD_getElem?, List.getElem?_toArray, List.getElem?_cons_succ, List.getElem?_cons_zero, Option.getD_some, Value.cells] at hS); (try simp only [Act.put, List.setIfInBounds_toArray, List.set_cons_succ, List.set_cons_zero])) | (refine stN 0 hS rfl rfl rfl rfl rfl ?ha rfl rfl ?_; (case ha => first | exact ty_sz25); clear hS; intro w hS; (try simp only [List.set_cons_succ, List.set_cons_zero, List.setIfInBounds_toArray, Act.eval, Array.getD_eq_getD_getElem?, List.getElem?_toArray, List.getElem?_cons_succ, List.getElem?_cons_zero, Option.getD_some, Value.cells] at hS); (try simp only [Act.put, List.setIfInBounds_toArray, List.set_cons_succ, List.set_cons_zero]))) | ((with_reducible refine isBox ?_); refine bx hS rfl rfl rfl ?_; clear hS; intro X w hS; (try simp only [Act.eval, Array.getD_eq_getD_getElem?, List.getElem?_toArray, List.getElem?_cons_succ, List.getElem?_cons_zero, Option.getD_some, Value.cells] at hS); (try simp only [Act.put, List.setIfInBounds_toArray, List.set_cons_succ, List.set_cons_zero])) | ((with_reducible refine isAlloc ?_); (refine' al (z := _) hS rfl rfl ?ha ?_); (case ha => first | exact ty_z25 | exact ty_z3 | exact ty_z23); clear hS; intro X w hS; (try simp only [Act.eval, Array.getD_eq_getD_getElem?, List.getElem?_toArray, List.getElem?_cons_succ, List.getElem?_cons_zero, Option.getD_some, Value.cells] at hS); (try simp only [Act.put, List.setIfInBounds_toArray, List.set_cons_succ, List.set_cons_zero]))) | (go_at_call 28; refine (DO.out _ (_ :: ns) hS).mono ?_; clear hS; rintro e w ⟨rfl, hS⟩))
      have HS0 := Lib.hid hS
      clear DO hS
      go_loopw [17] (fun i wr => ∃ k : Nat, k ≤ kids.length ∧ i = .int .i64 k ∧ (walksS st (kids.take k) (d + 1) s1).1 = true ∧ Sat E I (PH.one X (.cells #[.int .i64 op, .int .i64 var, .slice A kids.length cap] 25) :: (ns ++ (pcs (walksS st (kids.take k) (d + 1) s1).2 ++ ms))) wr) (fun i _ => (kids.length - intOf i).toNat)
      case atStart => exact ⟨0, Nat.zero_le _, rfl, rfl, HS0.out⟩
      case round =>
        obtain ⟨k, hk, rfl, hb, hS⟩ := hrel
        clear HS0
        by_cases hlt : k < kids.length
        · obtain ⟨Y, off, rfl, hc⟩ := Hin.out (by omega)
          have hget := List.getElem?_eq_getElem hlt
          have hmem := List.getElem_mem hlt
          generalize kids[k] = kd at *
          obtain ⟨hcell, hkin⟩ := hc k kd hget
          have hstep := walksS_take st (d + 1) kids k kd s1 hget hb
          have IHk := Lib.hid (fun w' ns' => IH.out kd (d + 1) (walksS st (kids.take k) (d + 1) s1).2 ns' w' (Hsz.out kd hmem) hkin (Hu.out kd hmem) (Hk.out kd hmem))
          unfold Tr.cells at hcell
          unfold Tr.val at IHk
          have k0 : (0 : Int) ≤ (k : Int) := by omega
          have k1 : (k : Int) < (kids.length : Int) := by omega
          have Hget := Lib.hid hget
          have Hstep := Lib.hid hstep
          have Hb := Lib.hid hb
          clear hget hstep hc hmem hkin hb
          cases hw : (walkS st kd (d + 1) (walksS st (kids.take k) (d + 1) s1).2).1 with
          | true =>
            rw [hw] at IHk
            have Hw := Lib.hid hw
            clear hw
            go_wp2_with (first | ((with_reducible refine atList ?_); first | ((with_reducible refine isGuard ?_); first | go_skip | (refine guarded_yes ?hw ?_; case hw => (simp only [Region.wanted, yielded, List.getElem?_toArray, List.getElem?_cons_succ, List.getElem?_cons_zero, Option.bind_some, beq_self_eq_true]; done)) | ((refine' guarded_cases (b := _) ?hy ?_ ?_); (case hy => (simp only [yielded, List.getElem?_toArray, List.getElem?_cons_succ, List.getElem?_cons_zero, Option.bind_some]; exact rfl)); all_goals (intro hb; (try simp only [Bool.not_true, Bool.not_false] at hb); (try simp only [hb]); (try simp only [Act.put, List.setIfInBounds_toArray, List.set_cons_succ, List.set_cons_zero]); first | ((have hf : False := by (simp at hb; done)); cases hf) | ((have hf : False := by (simp at hb; omega)); cases hf) | skip))) | ((with_reducible refine isLoad ?_); first | (refine ld1 0 hS rfl rfl ?ha rfl rfl rfl ?_; (case ha => first | exact ty_agg3 | exact ty_agg23); (try simp only [Act.put, List.setIfInBounds_toArray, List.set_cons_succ, List.set_cons_zero])) | (refine ld1 1 hS rfl rfl ?ha rfl rfl rfl ?_; (case ha => first | exact ty_agg3 | exact ty_agg23); (try simp only [Act.put, List.setIfInBounds_toArray, List.set_cons_succ, List.set_cons_zero])) | (refine ldN 0 hS rfl rfl ?ha rfl rfl ?hb ?_; (case ha => first | exact ty_agg25); (case hb => first | exact ty_sz25); (try simp only [Act.put, List.setIfInBounds_toArray, List.set_cons_succ, List.set_cons_zero])) | (refine ldN 1 hS rfl rfl ?ha rfl rfl ?hb ?_; (case ha => first | exact ty_agg25); (case hb => first | exact ty_sz25); (try simp only [Act.put, List.setIfInBounds_toArray, List.set_cons_succ, List.set_cons_zero])) | ((refine' ldI1 (v := _) hS rfl rfl ?ha rfl ?hb ?_); (case ha => first | exact ty_agg3 | exact ty_agg23); (case hb => assumption); (try simp only [Act.put, List.setIfInBounds_toArray, List.set_cons_succ, List.set_cons_zero])) | ((refine' ldIN (vs := _) hS rfl rfl ?ha rfl ?hc ?hb ?_); (case ha => first | exact ty_agg25); (case hc => assumption); (case hb => first | exact ty_sz25); (try simp only [Act.put, List.setIfInBounds_toArray, List.set_cons_succ, List.set_cons_zero]))) | ((with_reducible refine isStore ?_); first | (refine st1 0 hS rfl rfl rfl rfl rfl ?ha rfl rfl ?hb ?_; (case ha => first | exact ty_sz3 | exact ty_sz23); (case hb => (simp; done)); clear hS; intro w hS; (try simp only [List.set_cons_succ, List.set_cons_zero, List.setIfInBounds_toArray, Act.eval, Array.getD_eq_getD_getElem?, List.getElem?_toArray, List.getElem?_cons_succ, List.getElem?_cons_zero, Option.getD_some, Value.cells] at hS); (try simp only [Act.put, List.setIfInBounds_toArray, List.set_cons_succ, List.set_cons_zero])) | (refine st1 1 hS rfl rfl rfl rfl rfl ?ha rfl rfl ?hb ?_; (case ha => first | exact ty_sz3 | exact ty_sz23); (case hb => (simp; done)); clear hS; intro w hS; (try simp only [List.set_cons_succ, List.set_cons_zero, List.setIfInBounds_toArray, Act.eval, Array.getD_eq_getD_getElem?, List.getElem?_toArray, List.getElem?_cons_succ, List.getElem?_cons_zero, Option.getD_some, Value.cells] at hS); (try simp only [Act.put, List.setIfInBounds_toArray, List.set_cons_succ, List.set_cons_zero])) | (refine stN 0 hS rfl rfl rfl rfl rfl ?ha rfl rfl ?_; (case ha => first | exact ty_sz25); clear hS; intro w hS; (try simp only [List.set_cons_succ, List.set_cons_zero, List.setIfInBounds_toArray, Act.eval, Array.getD_eq_getD_getElem?, List.getElem?_toArray, List.getElem?_cons_succ, List.getElem?_cons_zero, Option.getD_some, Value.cells] at hS); (try simp only [Act.put, List.setIfInBounds_toArray, List.set_cons_succ, List.set_cons_zero])) | (refine stN 1 hS rfl rfl rfl rfl rfl ?ha rfl rfl ?_; (case ha => first | exact ty_sz25); clear hS; intro w hS; (try simp only [List.set_cons_succ, List.set_cons_zero, List.setIfInBounds_toArray, Act.eval, Array.getD_eq_getD_getElem?, List.getElem?_toArray, List.getElem?_cons_succ, List.getElem?_cons_zero, Option.getD_some, Value.cells] at hS); (try simp only [Act.put, List.setIfInBounds_toArray, List.set_cons_succ, List.set_cons_zero]))) | ((with_reducible refine isBox ?_); refine bx hS rfl rfl rfl ?_; clear hS; intro X w hS; (try simp only [Act.eval, Array.getD_eq_getD_getElem?, List.getElem?_toArray, List.getElem?_cons_succ, List.getElem?_cons_zero, Option.getD_some, Value.cells] at hS); (try simp only [Act.put, List.setIfInBounds_toArray, List.set_cons_succ, List.set_cons_zero])) | ((with_reducible refine isAlloc ?_); (refine' al (z := _) hS rfl rfl ?ha ?_); (case ha => first | exact ty_z25 | exact ty_z3 | exact ty_z23); clear hS; intro X w hS; (try simp only [Act.eval, Array.getD_eq_getD_getElem?, List.getElem?_toArray, List.getElem?_cons_succ, List.getElem?_cons_zero, Option.getD_some, Value.cells] at hS); (try simp only [Act.put, List.setIfInBounds_toArray, List.set_cons_succ, List.set_cons_zero]))) | (go_at_call 27; refine (IHk.out _ (_ :: _ :: ns) hS).mono ?_; clear hS; rintro e w ⟨rfl, hS⟩))
            exact ⟨⟨k + 1, hlt, by go_num, by rw [Hstep.out]; exact Hw.out, by rw [Hstep.out]; exact hS.drop⟩, by simp [intOf]; omega⟩
          | false =>
            rw [hw] at IHk
            have He := Lib.hid (show walksS st kids (d + 1) s1 = walkS st kd (d + 1) (walksS st (kids.take k) (d + 1) s1).2 from (walksS_false st (d + 1) kids (k + 1) s1 (by rw [Hstep.out]; exact hw)).trans Hstep.out)
            have Hw := Lib.hid hw
            clear hw
            go_wp2_with (first | ((with_reducible refine atList ?_); first | ((with_reducible refine isGuard ?_); first | go_skip | (refine guarded_yes ?hw ?_; case hw => (simp only [Region.wanted, yielded, List.getElem?_toArray, List.getElem?_cons_succ, List.getElem?_cons_zero, Option.bind_some, beq_self_eq_true]; done)) | ((refine' guarded_cases (b := _) ?hy ?_ ?_); (case hy => (simp only [yielded, List.getElem?_toArray, List.getElem?_cons_succ, List.getElem?_cons_zero, Option.bind_some]; exact rfl)); all_goals (intro hb; (try simp only [Bool.not_true, Bool.not_false] at hb); (try simp only [hb]); (try simp only [Act.put, List.setIfInBounds_toArray, List.set_cons_succ, List.set_cons_zero]); first | ((have hf : False := by (simp at hb; done)); cases hf) | ((have hf : False := by (simp at hb; omega)); cases hf) | skip))) | ((with_reducible refine isLoad ?_); first | (refine ld1 0 hS rfl rfl ?ha rfl rfl rfl ?_; (case ha => first | exact ty_agg3 | exact ty_agg23); (try simp only [Act.put, List.setIfInBounds_toArray, List.set_cons_succ, List.set_cons_zero])) | (refine ld1 1 hS rfl rfl ?ha rfl rfl rfl ?_; (case ha => first | exact ty_agg3 | exact ty_agg23); (try simp only [Act.put, List.setIfInBounds_toArray, List.set_cons_succ, List.set_cons_zero])) | (refine ldN 0 hS rfl rfl ?ha rfl rfl ?hb ?_; (case ha => first | exact ty_agg25); (case hb => first | exact ty_sz25); (try simp only [Act.put, List.setIfInBounds_toArray, List.set_cons_succ, List.set_cons_zero])) | (refine ldN 1 hS rfl rfl ?ha rfl rfl ?hb ?_; (case ha => first | exact ty_agg25); (case hb => first | exact ty_sz25); (try simp only [Act.put, List.setIfInBounds_toArray, List.set_cons_succ, List.set_cons_zero])) | ((refine' ldI1 (v := _) hS rfl rfl ?ha rfl ?hb ?_); (case ha => first | exact ty_agg3 | exact ty_agg23); (case hb => assumption); (try simp only [Act.put, List.setIfInBounds_toArray, List.set_cons_succ, List.set_cons_zero])) | ((refine' ldIN (vs := _) hS rfl rfl ?ha rfl ?hc ?hb ?_); (case ha => first | exact ty_agg25); (case hc => assumption); (case hb => first | exact ty_sz25); (try simp only [Act.put, List.setIfInBounds_toArray, List.set_cons_succ, List.set_cons_zero]))) | ((with_reducible refine isStore ?_); first | (refine st1 0 hS rfl rfl rfl rfl rfl ?ha rfl rfl ?hb ?_; (case ha => first | exact ty_sz3 | exact ty_sz23); (case hb => (simp; done)); clear hS; intro w hS; (try simp only [List.set_cons_succ, List.set_cons_zero, List.setIfInBounds_toArray, Act.eval, Array.getD_eq_getD_getElem?, List.getElem?_toArray, List.getElem?_cons_succ, List.getElem?_cons_zero, Option.getD_some, Value.cells] at hS); (try simp only [Act.put, List.setIfInBounds_toArray, List.set_cons_succ, List.set_cons_zero])) | (refine st1 1 hS rfl rfl rfl rfl rfl ?ha rfl rfl ?hb ?_; (case ha => first | exact ty_sz3 | exact ty_sz23); (case hb => (simp; done)); clear hS; intro w hS; (try simp only [List.set_cons_succ, List.set_cons_zero, List.setIfInBounds_toArray, Act.eval, Array.getD_eq_getD_getElem?, List.getElem?_toArray, List.getElem?_cons_succ, List.getElem?_cons_zero, Option.getD_some, Value.cells] at hS); (try simp only [Act.put, List.setIfInBounds_toArray, List.set_cons_succ, List.set_cons_zero])) | (refine stN 0 hS rfl rfl rfl rfl rfl ?ha rfl rfl ?_; (case ha => first | exact ty_sz25); clear hS; intro w hS; (try simp only [List.set_cons_succ, List.set_cons_zero, List.setIfInBounds_toArray, Act.eval, Array.getD_eq_getD_getElem?, List.getElem?_toArray, List.getElem?_cons_succ, List.getElem?_cons_zero, Option.getD_some, Value.cells] at hS); (try simp only [Act.put, List.setIfInBounds_toArray, List.set_cons_succ, List.set_cons_zero])) | (refine stN 1 hS rfl rfl rfl rfl rfl ?ha rfl rfl ?_; (case ha => first | exact ty_sz25); clear hS; intro w hS; (try simp only [List.set_cons_succ, List.set_cons_zero, List.setIfInBounds_toArray, Act.eval, Array.getD_eq_getD_getElem?, List.getElem?_toArray, List.getElem?_cons_succ, List.getElem?_cons_zero, Option.getD_some, Value.cells] at hS); (try simp only [Act.put, List.setIfInBounds_toArray, List.set_cons_succ, List.set_cons_zero]))) | ((with_reducible refine isBox ?_); refine bx hS rfl rfl rfl ?_; clear hS; intro X w hS; (try simp only [Act.eval, Array.getD_eq_getD_getElem?, List.getElem?_toArray, List.getElem?_cons_succ, List.getElem?_cons_zero, Option.getD_some, Value.cells] at hS); (try simp only [Act.put, List.setIfInBounds_toArray, List.set_cons_succ, List.set_cons_zero])) | ((with_reducible refine isAlloc ?_); (refine' al (z := _) hS rfl rfl ?ha ?_); (case ha => first | exact ty_z25 | exact ty_z3 | exact ty_z23); clear hS; intro X w hS; (try simp only [Act.eval, Array.getD_eq_getD_getElem?, List.getElem?_toArray, List.getElem?_cons_succ, List.getElem?_cons_zero, Option.getD_some, Value.cells] at hS); (try simp only [Act.put, List.setIfInBounds_toArray, List.set_cons_succ, List.set_cons_zero]))) | (go_at_call 27; refine (IHk.out _ (_ :: _ :: ns) hS).mono ?_; clear hS; rintro e w ⟨rfl, hS⟩))
            go_ret
            exact ⟨by rw [He.out, Hw.out]; rfl, by rw [He.out]; exact hS.drop.drop⟩
        · obtain rfl : k = kids.length := by omega
          have Hb := Lib.hid hb
          clear hb
          have hlt' : ¬ ((kids.length : Int) < (kids.length : Int)) := by omega
          rw [List.take_length] at hS
          go_wp2_with fail
          go_ret
          have hb := Hb.out
          rw [List.take_length] at hb
          exact ⟨by rw [hb]; rfl, hS.drop⟩
end Go.Proofs.Ytmhdcjjcddpciaa
