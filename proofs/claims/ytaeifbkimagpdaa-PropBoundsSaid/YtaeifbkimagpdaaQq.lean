/- The reference's sets: Of. -/
import Derived.Test.YtaeifbkimagpdaaQp
namespace Go.Proofs.Ytaeifbkimagpdaa
set_option linter.unusedSimpArgs false
set_option linter.unusedVariables false
open Go.RowKit
theorem OwnP.il {m : PH} {e : TypeId} {A : Option Addr} {c : Nat} {s : List Int} (h : OwnP m e 1 (.slice A s.length c) s.length (s.map (Value.int .i64))) : IL m A s :=
  ⟨Nat.le_trans h.le_max (by unfold maxLen; omega), fun hn => by
    obtain ⟨g, hA, hc⟩ := h.cells hn
    exact ⟨g, 0, hA, hc⟩⟩
theorem putL_len (v : Int) (l : List Int) : (putL v l).length = l.length + 1 := by
  have := putF_len v l ([], false)
  unfold putL putF
  cases hd : (l.foldl (putStep v) ([], false)).2 with
  | true => rw [hd] at this; simp at this ⊢; omega
  | false => rw [hd] at this; simp at this ⊢; omega
def ofStep (s : List Int) (x : Int) : List Int := if x ∈ s then s else putL x s
def ofL (l : List Int) : List Int := l.foldl ofStep []
theorem ofL_take (l : List Int) (k : Nat) (x : Int) (h : l[k]? = some x) : ofL (l.take (k + 1)) = ofStep (ofL (l.take k)) x := by
  unfold ofL
  rw [List.take_add_one, h]
  rw [List.foldl_append]
  rfl
theorem ofL_le : ∀ (l s : List Int), (l.foldl ofStep s).length ≤ s.length + l.length := by
  intro l
  induction l with
  | nil => intro s; exact Nat.le_refl _
  | cons x l ih =>
    intro s
    rw [List.foldl_cons]
    have := ih (ofStep s x)
    have h2 : (ofStep s x).length ≤ s.length + 1 := by
      unfold ofStep
      split
      · omega
      · rw [putL_len]; omega
    simp only [List.length_cons]
    omega
set_option maxHeartbeats 1000000 in
theorem of_any_p (E : World) (I : PH) (ms : List PH) (p : PH) (A : Option Addr) (c : Nat) (l : List Int) (w : World) (hl : IL p A l) (hsm : l.length ≤ 1000000000) (hp : Src I ms p) (hS : Sat E I ms w) :
    Calls Try.prog 60 #[.slice A l.length c] w fun e w' => ∃ v' m', e = .returned v' ∧ OwnP m' 3 1 v' (ofL l).length ((ofL l).map (Value.int .i64)) ∧ Sat E I (m' :: ms) w' := by
  have Ha := Lib.hid hl.2
  have Hle := Lib.hid (fun k => (show (ofL (l.take k)).length ≤ l.length from Nat.le_trans (ofL_le (l.take k) []) (by simp; omega)))
  clear hl
  generalize hL : l.length = L at *
  have HL := Lib.hid hL
  clear hL
  have HP1 := Lib.hid (fun m => hp.cons m)
  have HP2 := Lib.hid (fun m1 m2 => (hp.cons m2).cons m1)
  clear hp
  go_enter Try.func60, Try.ntmps60
  go_wp2_with (first | ((with_reducible refine atList ?_); first | ((with_reducible refine isGuard ?_); first | go_skip | (refine guarded_yes ?hw ?_; case hw => (simp only [Region.wanted, yielded, List.getElem?_toArray, List.getElem?_cons_succ, List.getElem?_cons_zero, Option.bind_some, beq_self_eq_true]; done)) | ((refine' guarded_cases (b := _) ?hy ?_ ?_); (case hy => (simp only [yielded, List.getElem?_toArray, List.getElem?_cons_succ, List.getElem?_cons_zero, Option.bind_some]; exact rfl)); all_goals (intro hb; (try simp only [Bool.not_true, Bool.not_false] at hb); (try simp only [hb]); (try simp only [Act.put, List.setIfInBounds_toArray, List.set_cons_succ, List.set_cons_zero]); first | ((have hf : False := by (simp at hb; done)); cases hf) | ((have hf : False := by (simp at hb; omega)); cases hf) | skip))) | ((with_reducible refine isLoad ?_); first | (refine ld1 0 hS rfl rfl ?ha rfl rfl rfl ?_; (case ha => first | exact ty_agg3 | exact ty_agg4); (try simp only [Act.put, List.setIfInBounds_toArray, List.set_cons_succ, List.set_cons_zero])) | ((refine' ldI1 (v := _) hS rfl rfl ?ha rfl ?hb ?_); (case ha => first | exact ty_agg3 | exact ty_agg4); (case hb => assumption); (try simp only [Act.put, List.setIfInBounds_toArray, List.set_cons_succ, List.set_cons_zero]))) | ((with_reducible refine isStore ?_); first | (refine st1 0 hS rfl rfl rfl rfl rfl ?ha rfl rfl ?hb ?_; (case ha => first | exact ty_sz3 | exact ty_sz4); (case hb => (simp; done)); clear hS; intro w hS; (try simp only [List.set_cons_succ, List.set_cons_zero, List.setIfInBounds_toArray, Act.eval, Array.getD_eq_getD_getElem?, List.getElem?_toArray, List.getElem?_cons_succ, List.getElem?_cons_zero, Option.getD_some, Value.cells] at hS); (try simp only [Act.put, List.setIfInBounds_toArray, List.set_cons_succ, List.set_cons_zero]))) | ((with_reducible refine isBox ?_); refine bx hS rfl rfl rfl ?_; clear hS; intro X w hS; (try simp only [Act.eval, Array.getD_eq_getD_getElem?, List.getElem?_toArray, List.getElem?_cons_succ, List.getElem?_cons_zero, Option.getD_some, Value.cells] at hS); (try simp only [Act.put, List.setIfInBounds_toArray, List.set_cons_succ, List.set_cons_zero])) | ((with_reducible refine isAlloc ?_); (refine' al (z := _) hS rfl rfl ?ha ?_); (case ha => first | exact ty_z3 | exact ty_z4); clear hS; intro X w hS; (try simp only [Act.eval, Array.getD_eq_getD_getElem?, List.getElem?_toArray, List.getElem?_cons_succ, List.getElem?_cons_zero, Option.getD_some, Value.cells] at hS); (try simp only [Act.put, List.setIfInBounds_toArray, List.set_cons_succ, List.set_cons_zero])) | ((with_reducible refine isBuildSlice ?_); (refine' bsl hS ?hr ?_); (case hr => (intro w0; go_simp; rfl)); clear hS; intro XS w hS; (try simp only [Act.eval, Array.getD_eq_getD_getElem?, List.getElem?_toArray, List.getElem?_cons_succ, List.getElem?_cons_zero, Option.getD_some, Value.cells] at hS); (try simp only [Act.put, List.setIfInBounds_toArray, List.set_cons_succ, List.set_cons_zero]))))
  have HS0 := Lib.hid hS
  clear hS
  go_loopw [3, 4] (fun v3 i wr => ∃ (k : Nat) (m : PH), k ≤ L ∧ i = .int .i64 k ∧ OwnP m 3 1 v3 (ofL (l.take k)).length ((ofL (l.take k)).map (Value.int .i64)) ∧ Sat E I (m :: ms) wr) (fun _ i _ => (L - intOf i).toNat)
  case atStart => exact ⟨0, _, Nat.zero_le _, rfl, OwnP.lit _ _ 1 0 #[] (Nat.zero_le _) rfl, HS0.out⟩
  case round =>
    obtain ⟨k, m, hk, rfl, hO, hS⟩ := hrel
    clear HS0
    have hq := Hle.out k
    obtain ⟨A3, c3, rfl, hc3⟩ := hO.shape
    by_cases hlt : k < L
    · obtain ⟨Y, off, rfl, hc⟩ := Ha.out (by omega)
      have hk1 : k < l.length := by rw [HL.out]; exact hlt
      have hcell : p.at Y (off + k) = some (.int .i64 l[k]) := hc k _ (by simp [hk1])
      have hgx : l[k]? = some l[k] := List.getElem?_eq_getElem hk1
      generalize l[k] = x at *
      have Hn := Lib.hid (ofL_take l k x hgx)
      have k0 : (0 : Int) ≤ (k : Int) := by omega
      have k1 : (k : Int) < (L : Int) := by omega
      clear hgx hc hk1 hc3
      generalize ofL (l.take k) = s at *
      have HC := Lib.hid (fun w' (hS : Sat E I (m :: ms) w') => ihas_any E I (m :: ms) m A3 c3 s x w' hO.il (.inr (.head _)) hS)
      have PC := Lib.hid (fun w' (hS : Sat E I (m :: ms) w') => put_any E I (m :: ms) m A3 c3 s x w' hO.il (by omega) (.inr (.head _)) hS)
      by_cases hx : x ∈ s
      · have e : ofStep s x = s := by simp [ofStep, hx]
        have e2 : decide (x ∈ s) = true := by simpa using hx
        rw [e] at Hn
        rw [e2] at HC
        have HO := Lib.hid hO
        clear e hx PC hO e2
        go_wp2_with (first | ((with_reducible refine atList ?_); first | ((with_reducible refine isGuard ?_); first | go_skip | (refine guarded_yes ?hw ?_; case hw => (simp only [Region.wanted, yielded, List.getElem?_toArray, List.getElem?_cons_succ, List.getElem?_cons_zero, Option.bind_some, beq_self_eq_true]; done)) | ((refine' guarded_cases (b := _) ?hy ?_ ?_); (case hy => (simp only [yielded, List.getElem?_toArray, List.getElem?_cons_succ, List.getElem?_cons_zero, Option.bind_some]; exact rfl)); all_goals (intro hb; (try simp only [Bool.not_true, Bool.not_false] at hb); (try simp only [hb]); (try simp only [Act.put, List.setIfInBounds_toArray, List.set_cons_succ, List.set_cons_zero]); first | ((have hf : False := by (simp at hb; done)); cases hf) | ((have hf : False := by (simp at hb; omega)); cases hf) | skip))) | ((with_reducible refine isLoad ?_); first | (refine ld1 0 hS rfl rfl ?ha rfl rfl rfl ?_; (case ha => first | exact ty_agg3 | exact ty_agg4); (try simp only [Act.put, List.setIfInBounds_toArray, List.set_cons_succ, List.set_cons_zero])) | (refine ld1 1 hS rfl rfl ?ha rfl rfl rfl ?_; (case ha => first | exact ty_agg3 | exact ty_agg4); (try simp only [Act.put, List.setIfInBounds_toArray, List.set_cons_succ, List.set_cons_zero])) | ((refine' ldI1 (v := _) hS rfl rfl ?ha rfl ?hb ?_); (case ha => first | exact ty_agg3 | exact ty_agg4); (case hb => assumption); (try simp only [Act.put, List.setIfInBounds_toArray, List.set_cons_succ, List.set_cons_zero]))) | ((with_reducible refine isStore ?_); first | (refine st1 0 hS rfl rfl rfl rfl rfl ?ha rfl rfl ?hb ?_; (case ha => first | exact ty_sz3 | exact ty_sz4); (case hb => (simp; done)); clear hS; intro w hS; (try simp only [List.set_cons_succ, List.set_cons_zero, List.setIfInBounds_toArray, Act.eval, Array.getD_eq_getD_getElem?, List.getElem?_toArray, List.getElem?_cons_succ, List.getElem?_cons_zero, Option.getD_some, Value.cells] at hS); (try simp only [Act.put, List.setIfInBounds_toArray, List.set_cons_succ, List.set_cons_zero])) | (refine st1 1 hS rfl rfl rfl rfl rfl ?ha rfl rfl ?hb ?_; (case ha => first | exact ty_sz3 | exact ty_sz4); (case hb => (simp; done)); clear hS; intro w hS; (try simp only [List.set_cons_succ, List.set_cons_zero, List.setIfInBounds_toArray, Act.eval, Array.getD_eq_getD_getElem?, List.getElem?_toArray, List.getElem?_cons_succ, List.getElem?_cons_zero, Option.getD_some, Value.cells] at hS); (try simp only [Act.put, List.setIfInBounds_toArray, List.set_cons_succ, List.set_cons_zero]))) | ((with_reducible refine isBox ?_); refine bx hS rfl rfl rfl ?_; clear hS; intro X w hS; (try simp only [Act.eval, Array.getD_eq_getD_getElem?, List.getElem?_toArray, List.getElem?_cons_succ, List.getElem?_cons_zero, Option.getD_some, Value.cells] at hS); (try simp only [Act.put, List.setIfInBounds_toArray, List.set_cons_succ, List.set_cons_zero])) | ((with_reducible refine isAlloc ?_); (refine' al (z := _) hS rfl rfl ?ha ?_); (case ha => first | exact ty_z3 | exact ty_z4); clear hS; intro X w hS; (try simp only [Act.eval, Array.getD_eq_getD_getElem?, List.getElem?_toArray, List.getElem?_cons_succ, List.getElem?_cons_zero, Option.getD_some, Value.cells] at hS); (try simp only [Act.put, List.setIfInBounds_toArray, List.set_cons_succ, List.set_cons_zero])) | ((with_reducible refine isBuildSlice ?_); (refine' bsl hS ?hr ?_); (case hr => (intro w0; go_simp; rfl)); clear hS; intro XS w hS; (try simp only [Act.eval, Array.getD_eq_getD_getElem?, List.getElem?_toArray, List.getElem?_cons_succ, List.getElem?_cons_zero, Option.getD_some, Value.cells] at hS); (try simp only [Act.put, List.setIfInBounds_toArray, List.set_cons_succ, List.set_cons_zero]))) | ((with_reducible refine isLoad ?_); first | ((refine' ldP1 (v := _) (HP1.out _) hS rfl rfl ?ha rfl ?hc ?_); (case ha => exact ty_agg3); (case hc => assumption); (try simp only [Act.put, List.setIfInBounds_toArray, List.set_cons_succ, List.set_cons_zero])) | ((refine' ldP1 (v := _) (HP2.out _ _) hS rfl rfl ?ha rfl ?hc ?_); (case ha => exact ty_agg3); (case hc => assumption); (try simp only [Act.put, List.setIfInBounds_toArray, List.set_cons_succ, List.set_cons_zero]))) | (go_at_call 40; ((with_reducible refine Calls.mono (HC.out _ hS) ?_); clear hS; rintro e w ⟨rfl, hS⟩)) | (go_at_call 65; ((with_reducible refine Calls.mono (PC.out _ hS) ?_); clear hS; rintro e w ⟨v1, m1, rfl, hO1, hS⟩)))
        exact ⟨⟨k + 1, m, hlt, by go_num, by rw [Hn.out]; exact HO.out, hS⟩, by simp [intOf]; omega⟩
      · have e : ofStep s x = putL x s := by simp [ofStep, hx]
        have e2 : decide (x ∈ s) = false := by simpa using hx
        rw [e] at Hn
        rw [e2] at HC
        clear e hx hO e2
        go_wp2_with (first | ((with_reducible refine atList ?_); first | ((with_reducible refine isGuard ?_); first | go_skip | (refine guarded_yes ?hw ?_; case hw => (simp only [Region.wanted, yielded, List.getElem?_toArray, List.getElem?_cons_succ, List.getElem?_cons_zero, Option.bind_some, beq_self_eq_true]; done)) | ((refine' guarded_cases (b := _) ?hy ?_ ?_); (case hy => (simp only [yielded, List.getElem?_toArray, List.getElem?_cons_succ, List.getElem?_cons_zero, Option.bind_some]; exact rfl)); all_goals (intro hb; (try simp only [Bool.not_true, Bool.not_false] at hb); (try simp only [hb]); (try simp only [Act.put, List.setIfInBounds_toArray, List.set_cons_succ, List.set_cons_zero]); first | ((have hf : False := by (simp at hb; done)); cases hf) | ((have hf : False := by (simp at hb; omega)); cases hf) | skip))) | ((with_reducible refine isLoad ?_); first | (refine ld1 0 hS rfl rfl ?ha rfl rfl rfl ?_; (case ha => first | exact ty_agg3 | exact ty_agg4); (try simp only [Act.put, List.setIfInBounds_toArray, List.set_cons_succ, List.set_cons_zero])) | (refine ld1 1 hS rfl rfl ?ha rfl rfl rfl ?_; (case ha => first | exact ty_agg3 | exact ty_agg4); (try simp only [Act.put, List.setIfInBounds_toArray, List.set_cons_succ, List.set_cons_zero])) | ((refine' ldI1 (v := _) hS rfl rfl ?ha rfl ?hb ?_); (case ha => first | exact ty_agg3 | exact ty_agg4); (case hb => assumption); (try simp only [Act.put, List.setIfInBounds_toArray, List.set_cons_succ, List.set_cons_zero]))) | ((with_reducible refine isStore ?_); first | (refine st1 0 hS rfl rfl rfl rfl rfl ?ha rfl rfl ?hb ?_; (case ha => first | exact ty_sz3 | exact ty_sz4); (case hb => (simp; done)); clear hS; intro w hS; (try simp only [List.set_cons_succ, List.set_cons_zero, List.setIfInBounds_toArray, Act.eval, Array.getD_eq_getD_getElem?, List.getElem?_toArray, List.getElem?_cons_succ, List.getElem?_cons_zero, Option.getD_some, Value.cells] at hS); (try simp only [Act.put, List.setIfInBounds_toArray, List.set_cons_succ, List.set_cons_zero])) | (refine st1 1 hS rfl rfl rfl rfl rfl ?ha rfl rfl ?hb ?_; (case ha => first | exact ty_sz3 | exact ty_sz4); (case hb => (simp; done)); clear hS; intro w hS; (try simp only [List.set_cons_succ, List.set_cons_zero, List.setIfInBounds_toArray, Act.eval, Array.getD_eq_getD_getElem?, List.getElem?_toArray, List.getElem?_cons_succ, List.getElem?_cons_zero, Option.getD_some, Value.cells] at hS); (try simp only [Act.put, List.setIfInBounds_toArray, List.set_cons_succ, List.set_cons_zero]))) | ((with_reducible refine isBox ?_); refine bx hS rfl rfl rfl ?_; clear hS; intro X w hS; (try simp only [Act.eval, Array.getD_eq_getD_getElem?, List.getElem?_toArray, List.getElem?_cons_succ, List.getElem?_cons_zero, Option.getD_some, Value.cells] at hS); (try simp only [Act.put, List.setIfInBounds_toArray, List.set_cons_succ, List.set_cons_zero])) | ((with_reducible refine isAlloc ?_); (refine' al (z := _) hS rfl rfl ?ha ?_); (case ha => first | exact ty_z3 | exact ty_z4); clear hS; intro X w hS; (try simp only [Act.eval, Array.getD_eq_getD_getElem?, List.getElem?_toArray, List.getElem?_cons_succ, List.getElem?_cons_zero, Option.getD_some, Value.cells] at hS); (try simp only [Act.put, List.setIfInBounds_toArray, List.set_cons_succ, List.set_cons_zero])) | ((with_reducible refine isBuildSlice ?_); (refine' bsl hS ?hr ?_); (case hr => (intro w0; go_simp; rfl)); clear hS; intro XS w hS; (try simp only [Act.eval, Array.getD_eq_getD_getElem?, List.getElem?_toArray, List.getElem?_cons_succ, List.getElem?_cons_zero, Option.getD_some, Value.cells] at hS); (try simp only [Act.put, List.setIfInBounds_toArray, List.set_cons_succ, List.set_cons_zero]))) | ((with_reducible refine isLoad ?_); first | ((refine' ldP1 (v := _) (HP1.out _) hS rfl rfl ?ha rfl ?hc ?_); (case ha => exact ty_agg3); (case hc => assumption); (try simp only [Act.put, List.setIfInBounds_toArray, List.set_cons_succ, List.set_cons_zero])) | ((refine' ldP1 (v := _) (HP2.out _ _) hS rfl rfl ?ha rfl ?hc ?_); (case ha => exact ty_agg3); (case hc => assumption); (try simp only [Act.put, List.setIfInBounds_toArray, List.set_cons_succ, List.set_cons_zero]))) | (go_at_call 40; ((with_reducible refine Calls.mono (HC.out _ hS) ?_); clear hS; rintro e w ⟨rfl, hS⟩)) | (go_at_call 65; ((with_reducible refine Calls.mono (PC.out _ hS) ?_); clear hS; rintro e w ⟨v1, m1, rfl, hO1, hS⟩)))
        exact ⟨⟨k + 1, m1, hlt, by go_num, by rw [Hn.out]; exact hO1, (hS.perm (List.Perm.swap _ _ _)).drop⟩, by simp [intOf]; omega⟩
    · obtain rfl : k = L := by omega
      have hf : l.take k = l := List.take_of_length_le (by have := HL.out; omega)
      rw [hf] at hO hq ⊢
      clear hf hc3
      have HO := Lib.hid hO
      clear hO
      generalize hs : ofL l = s at *
      have Hs := Lib.hid hs
      clear hs
      go_wp2_with (first | ((with_reducible refine atList ?_); first | ((with_reducible refine isGuard ?_); first | go_skip | (refine guarded_yes ?hw ?_; case hw => (simp only [Region.wanted, yielded, List.getElem?_toArray, List.getElem?_cons_succ, List.getElem?_cons_zero, Option.bind_some, beq_self_eq_true]; done)) | ((refine' guarded_cases (b := _) ?hy ?_ ?_); (case hy => (simp only [yielded, List.getElem?_toArray, List.getElem?_cons_succ, List.getElem?_cons_zero, Option.bind_some]; exact rfl)); all_goals (intro hb; (try simp only [Bool.not_true, Bool.not_false] at hb); (try simp only [hb]); (try simp only [Act.put, List.setIfInBounds_toArray, List.set_cons_succ, List.set_cons_zero]); first | ((have hf : False := by (simp at hb; done)); cases hf) | ((have hf : False := by (simp at hb; omega)); cases hf) | skip))) | ((with_reducible refine isLoad ?_); first | (refine ld1 0 hS rfl rfl ?ha rfl rfl rfl ?_; (case ha => first | exact ty_agg3 | exact ty_agg4); (try simp only [Act.put, List.setIfInBounds_toArray, List.set_cons_succ, List.set_cons_zero])) | ((refine' ldI1 (v := _) hS rfl rfl ?ha rfl ?hb ?_); (case ha => first | exact ty_agg3 | exact ty_agg4); (case hb => assumption); (try simp only [Act.put, List.setIfInBounds_toArray, List.set_cons_succ, List.set_cons_zero]))) | ((with_reducible refine isStore ?_); first | (refine st1 0 hS rfl rfl rfl rfl rfl ?ha rfl rfl ?hb ?_; (case ha => first | exact ty_sz3 | exact ty_sz4); (case hb => (simp; done)); clear hS; intro w hS; (try simp only [List.set_cons_succ, List.set_cons_zero, List.setIfInBounds_toArray, Act.eval, Array.getD_eq_getD_getElem?, List.getElem?_toArray, List.getElem?_cons_succ, List.getElem?_cons_zero, Option.getD_some, Value.cells] at hS); (try simp only [Act.put, List.setIfInBounds_toArray, List.set_cons_succ, List.set_cons_zero]))) | ((with_reducible refine isBox ?_); refine bx hS rfl rfl rfl ?_; clear hS; intro X w hS; (try simp only [Act.eval, Array.getD_eq_getD_getElem?, List.getElem?_toArray, List.getElem?_cons_succ, List.getElem?_cons_zero, Option.getD_some, Value.cells] at hS); (try simp only [Act.put, List.setIfInBounds_toArray, List.set_cons_succ, List.set_cons_zero])) | ((with_reducible refine isAlloc ?_); (refine' al (z := _) hS rfl rfl ?ha ?_); (case ha => first | exact ty_z3 | exact ty_z4); clear hS; intro X w hS; (try simp only [Act.eval, Array.getD_eq_getD_getElem?, List.getElem?_toArray, List.getElem?_cons_succ, List.getElem?_cons_zero, Option.getD_some, Value.cells] at hS); (try simp only [Act.put, List.setIfInBounds_toArray, List.set_cons_succ, List.set_cons_zero]))))
      go_ret
      exact ⟨_, m, rfl, by rw [Hs.out]; exact HO.out, hS⟩
end Go.Proofs.Ytaeifbkimagpdaa
