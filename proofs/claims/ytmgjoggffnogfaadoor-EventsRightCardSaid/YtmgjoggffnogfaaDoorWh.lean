/- The text of events, plainly; the empty Builder. -/
import Derived.Test.YtmgjoggffnogfaaDoorWg
import Derived.Test.YtmgjoggffnogfaaDoorEc
namespace Go.Proofs.YtmgjoggffnogfaaDoor
set_option linter.unusedSimpArgs false
set_option linter.unusedVariables false
open Go.RowKit
set_option linter.unusedVariables false
def evE (v : Ev) : Int := if v.2.1 < 1 ∨ 3 < v.2.1 then 11 else if v.1 < 1 ∨ v.2.2 < 0 ∨ (v.2.1 ≠ 2 ∧ v.2.2 ≠ 0) then 2 else 0
def evT (v : Ev) : List Nat := wordL v.2.1 ++ 32 :: txt v.1 ++ (if v.2.1 = 2 then 32 :: txt v.2.2 else []) ++ [10]
def tx : List Ev → List Nat × Int
  | [] => ([], 0)
  | v :: r => if evE v = 0 then (if (tx r).2 = 0 then (evT v ++ (tx r).1, 0) else tx r) else ([], evE v)
def txC (l : List Ev) : Int := if 256 < l.length then 18 else (tx l).2
def txS (l : List Ev) : List Nat := if 256 < l.length then [] else (tx l).1
theorem tx_bad : ∀ (l : List Ev) (i : Nat) (v : Ev), (∀ j u, j < i → l[j]? = some u → evE u = 0) → l[i]? = some v → evE v ≠ 0 → tx l = ([], evE v)
  | [], _, _, _, h, _ => by simp at h
  | u :: l, 0, v, _, h, h0 => by
    simp at h; subst h
    simp only [tx, if_neg h0]
  | u :: l, i + 1, v, hp, h, h0 => by
    have hu := hp 0 u (by omega) rfl
    have ih := tx_bad l i v (fun j x hj hx => hp (j + 1) x (by omega) (by simpa using hx)) (by simpa using h) h0
    simp only [tx, if_pos hu, ih, if_neg h0]
theorem tx_good : ∀ (l : List Ev), (∀ (j : Nat) u, l[j]? = some u → evE u = 0) → tx l = (l.flatMap evT, 0)
  | [], _ => rfl
  | u :: l, hp => by
    have hu := hp 0 u rfl
    have ih := tx_good l (fun j x hx => hp (j + 1) x (by simpa using hx))
    simp only [tx, if_pos hu, ih, if_true, List.flatMap_cons]
theorem evC_len (v : Ev) : (evC v).length = 3 := rfl
def EvOk (v : Ev) : Prop := I64 v.1 ∧ I64 v.2.1 ∧ I64 v.2.2
theorem txt_len (n : Int) (h : I64 n) : (txt n).length ≤ 20 := by
  have := textS_size n h
  rwa [← lst_length, lst_textS] at this
theorem wordL_len (k : Int) : (wordL k).length ≤ 7 := by
  unfold wordL
  split
  · decide
  · split
    · decide
    · split
      · decide
      · decide
theorem evT_len (v : Ev) (h : EvOk v) : (evT v).length ≤ 50 := by
  have h1 := txt_len _ h.1
  have h2 := txt_len _ h.2.2
  have h3 := wordL_len v.2.1
  unfold evT
  split <;> simp <;> omega
theorem flat_evT_len : ∀ (l : List Ev), (∀ v ∈ l, EvOk v) → (l.flatMap evT).length ≤ 50 * l.length
  | [], _ => by simp
  | v :: l, h => by
    have h1 := evT_len v (h v (.head _))
    have h2 := flat_evT_len l fun u hu => h u (.tail _ hu)
    simp only [List.flatMap_cons, List.length_append, List.length_cons]; omega
theorem wordL_lt (k : Int) : ∀ c ∈ wordL k, c < 256 := by
  unfold wordL
  split
  · decide
  · split
    · decide
    · split
      · decide
      · decide
theorem evT_lt (v : Ev) : ∀ c ∈ evT v, c < 256 := by
  intro c hc
  unfold evT at hc
  simp only [List.mem_append, List.mem_cons, List.mem_singleton, List.not_mem_nil, or_false] at hc
  rcases hc with ((h | h | h) | h) | h
  · exact wordL_lt _ c h
  · omega
  · exact txt_lt _ c h
  · split at h
    · rcases List.mem_cons.1 h with h | h
      · omega
      · exact txt_lt _ c h
    · cases h
  · omega
theorem take_next {α : Type} {l : List α} {i : Nat} {x : α} (h : l[i]? = some x) : l.take (i + 1) = l.take i ++ [x] := by
  rw [List.take_add_one, h]; rfl
abbrev bld0 : Array Value := #[.pointer none, .slice none 0 0]
set_option maxHeartbeats 2000000 in
set_option maxRecDepth 100000 in
theorem bstring_nil (E : World) (I : PH) (ms : List PH) (X : Nat) (p : Option Addr) (w : World) (hS : Sat E I (PH.one X (.cells #[.pointer p, .slice none 0 0] 51) :: ms) w) :
    Calls Tryd.prog 23 #[.pointer (some ⟨X, 0, none⟩)] w fun e w' => e = .returned (.string ByteArray.empty) ∧ Sat E I (PH.one X (.cells #[.pointer p, .slice none 0 0] 51) :: ms) w' := by
  have hSD : ∀ w, (Builtin.unsafeSliceData_ #[49] 81 #[.slice none 0 0]).run Tryd.prog w = .ok (.pointer none) w := fun w => Lib.run_unsafeSliceData_nil _ _ _ _ _
  have hUS : ∀ w : World, (Builtin.unsafeString_ #[81, 3] 9 #[.pointer none, .int .i64 0]).run Tryd.prog w = .ok (.string .empty) w := fun w => Lib.run_unsafeString_none _ _ _ _ _
  have HX := Lib.hid (fun (_ : Unit) => show PH.one X (.cells #[.pointer p, .slice none 0 0] 51) ∈ (PH.one X (.cells #[.pointer p, .slice none 0 0] 51) :: ms) from .head _)
  go_enter Tryd.func23, Tryd.ntmps23
  go_wp2_with fail
  refine region_f0 [[], [0], [0, 1], [0, 1, 2], [0, 1, 2, 3], [], [5], [5, 6], [5, 6, 7], [5, 6, 7, 8], [0, 1, 2, 3, 4, 5, 6, 7, 8, 9], [0, 1, 2, 3, 4, 5, 6, 7, 8, 9, 10]] E I _ [fun v _ => v = .pointer (some ⟨X, 0, none⟩), fun v _ => v = .pointer (some ⟨X, 0, none⟩), fun v _ => v = .pointer (some ⟨X, 1, none⟩), fun v _ => v = .slice none 0 0, fun v _ => v = .pointer none, fun v _ => v = .pointer (some ⟨X, 0, none⟩), fun v _ => v = .pointer (some ⟨X, 0, none⟩), fun v _ => v = .pointer (some ⟨X, 1, none⟩), fun v _ => v = .slice none 0 0, fun v _ => v = .int .i64 0, fun v _ => v = .string .empty, fun v _ => v = .string .empty] (by kernel_rfl) (by kernel_rfl) hS ?_ ?plain ?fin
  · repeat (first | exact Lasting.nil | refine Lasting.cons (fun _ _ _ _ h => h) ?_)
  case plain =>
    repeat' (first | exact trivial | apply And.intro)
    all_goals first | trivial | ((refine .inr ?_; intro vals J bs w hg hJ hS; simp only [List.getD_cons_succ, List.getD_cons_zero, Given, Facts] at hg; simp only [textL, actL, dstAt, opAt, List.getD_cons_succ, List.getD_cons_zero, List.getElem?_cons_succ, List.getElem?_cons_zero, Option.bind_some, if_true, Act.put, List.setIfInBounds_toArray, List.set_cons_succ, List.set_cons_zero, hg]; refine ⟨?_⟩; refine wpStep_of (fun K hK => ?_); have HK := Lib.hid hK; clear hK; rw [if_pos (by rfl)]; (first | ((with_reducible refine atLoad ?_); first | (refine wp_ldo1 hS (HX.out bs) ?ha rfl rfl ?_; (case ha => first | exact ty_agg49)) | ((refine' wp_ldi1 (v := _) hS hJ ?ha rfl ?hc ?_); (case ha => first | exact ty_agg49); (case hc => assumption))) | (go_wp2_with (first | fail))); (first | refine HK.out _ _ ⟨rfl, J, PH.le.refl _, hS, ?_⟩ | refine HK.out _ _ ⟨rfl, _, hJ2, hS, ?_⟩); clear HK; simp only [Facts, outOf, List.getD_cons_succ, List.getD_cons_zero, Act.put, List.setIfInBounds_toArray, List.set_cons_succ, List.set_cons_zero, Array.getD_eq_getD_getElem?, List.getElem?_toArray, List.getElem?_cons_succ, List.getElem?_cons_zero, Option.getD_some]); first | done | rfl)
  case fin =>
    clear hS
    intro vals J w hJ hg hS
    simp only [List.length_cons, List.length_nil, Nat.reduceAdd, Below_, Facts, List.getD_cons_succ, List.getD_cons_zero, true_and, and_true] at hg; simp only [List.length_cons, List.length_nil, Nat.reduceAdd, textL, actL, dstAt, opAt, List.getD_cons_succ, List.getD_cons_zero, List.getElem?_cons_succ, List.getElem?_cons_zero, Option.bind_some, if_true, Act.put, List.setIfInBounds_toArray, List.set_cons_succ, List.set_cons_zero, hg]; refine ⟨?_⟩
    have hS := hS.less hJ
    clear hg hJ HX
    go_wp2
    go_ret
    exact ⟨rfl, hS⟩
end Go.Proofs.YtmgjoggffnogfaaDoor
