/- prop.Table. -/
import Derived.Test.YtaeifbkimagpdaaQu
import Derived.Test.YtaeifbkimagpdaaQi
import Derived.Test.YtaeifbkimagpdaaSi
import Derived.Test.YtaeifbkimagpdaaMa
namespace Go.Proofs.Ytaeifbkimagpdaa
set_option linter.unusedSimpArgs false
set_option linter.unusedVariables false
open Go.ChangeShapes Go.WideShapes Go.ChangeAt Go.RowKit
set_option linter.unusedVariables false
attribute [local go_sem] Oper.semAt_some
attribute [local go_sem ↓] wpIn_at_zero wpIn_at_succ
def tabL (t : Tr) (m n : Nat) : List Bool := (List.range n).map fun i => t.value (bitsOf i m)
theorem tabL_succ (t : Tr) (m n : Nat) : tabL t m (n + 1) = tabL t m n ++ [t.value (bitsOf n m)] := by simp [tabL, List.range_succ]
theorem tabL_len (t : Tr) (m n : Nat) : (tabL t m n).length = n := by simp [tabL]
theorem all_any (E : World) (I : PH) (ms : List PH) (m : Nat) (hm : m ≤ 12) (w : World) (hS : Sat E I ms w) : Calls Try.prog 27 #[.int .i64 (m : Int)] w fun e w' => ∃ Y, e = .returned (.func (.func 50) #[] #[.pointer (some ⟨Y, 0, none⟩)]) ∧ Sat E I (PH.one Y (.cells #[.int .i64 m] 3) :: ms) w' := by
  refine (all_makes m w).mono ?_
  rintro e w' ⟨rfl, rfl⟩
  rw [show min (max (m : Int) 0) 12 = m by omega]
  exact ⟨_, rfl, hS.alloc _⟩
/-- What is known between two rounds: the row of results, its variable. -/
def RT (E : World) (I : PH) (ro : List PH) (XO : Nat) (xs : List Bool) (S : Nat → Prop) (W : World) : Prop :=
  ∃ (mm : PH) (v : Value), OwnP mm 4 1 v xs.length (xs.map Value.bool) ∧ Sat E I (ro ++ [mm, PH.one XO (.cells #[v] 23)]) W ∧ ∀ p ∈ ro ++ [mm, PH.one XO (.cells #[v] 23)], ∀ b, S b → p b = none
/-- The pieces, by what has run. -/
def tabMS (mm : PH) (XO : Nat) (v : Value) (b : Bool) (xs : List Bool) (L : Nat → Bool) (vals : Nat → Value) (ns : List PH) : Prop :=
  if L 6 then ∃ m', OwnP m' 4 1 (vals 5) (xs.length + 1) ((xs ++ [b]).map Value.bool) ∧ ns = [m', PH.one XO (.cells #[vals 5] 23)]
  else if L 5 then ∃ m', OwnP m' 4 1 (vals 5) (xs.length + 1) ((xs ++ [b]).map Value.bool) ∧ ns = [m', PH.one XO (.cells #[v] 23)]
  else if L 4 then ∃ X, vals 4 = .slice (some ⟨X, 0, none⟩) 1 1 ∧ ns = [PH.one X (.cells #[.bool b] 4), mm, PH.one XO (.cells #[v] 23)]
  else ns = [mm, PH.one XO (.cells #[v] 23)]
theorem tabMS_upd {mm : PH} {XO : Nat} {v u : Value} {b : Bool} {xs : List Bool} {L : Nat → Bool} {vals : Nat → Value} {ns : List PH} {i : Nat} (h : tabMS mm XO v b xs L vals ns) (hi : i < 4) : tabMS mm XO v b xs (upd L i true) (upd vals i u) ns := by
  unfold tabMS at *
  rw [upd_ne _ _ (by omega), upd_ne _ _ (by omega), upd_ne _ _ (by omega), upd_ne _ _ (by omega), upd_ne _ _ (by omega)]
  exact h
theorem tabMS_none {mm : PH} {XO : Nat} {v : Value} {b : Bool} {xs : List Bool} {L : Nat → Bool} {vals : Nat → Value} {ns : List PH} (h : tabMS mm XO v b xs L vals ns) (h4 : L 4 = false) (h5 : L 5 = false) (h6 : L 6 = false) : ns = [mm, PH.one XO (.cells #[v] 23)] := by
  unfold tabMS at h
  simpa [h4, h5, h6] using h
theorem tabMS_box {mm : PH} {XO : Nat} {v : Value} {b : Bool} {xs : List Bool} {L : Nat → Bool} {vals : Nat → Value} {ns : List PH} (h : tabMS mm XO v b xs L vals ns) (h6 : L 6 = false) : PH.one XO (.cells #[v] 23) ∈ ns := by
  unfold tabMS at h
  rw [h6, if_neg (by simp)] at h
  split at h
  · obtain ⟨m', _, rfl⟩ := h; simp
  · split at h
    · obtain ⟨X, _, rfl⟩ := h; simp
    · subst h; simp
section
variable {mm m' : PH} {XO X : Nat} {v u : Value} {b : Bool} {xs : List Bool} {L : Nat → Bool} {vals : Nat → Value} {ns : List PH}
theorem tabMS_4 (h5 : L 5 = false) (h6 : L 6 = false) (hu : u = .slice (some ⟨X, 0, none⟩) 1 1) : tabMS mm XO v b xs (upd L 4 true) (upd vals 4 u) [PH.one X (.cells #[.bool b] 4), mm, PH.one XO (.cells #[v] 23)] := by
  subst hu
  simp [tabMS, upd, h5, h6]
theorem tabMS_5 (h6 : L 6 = false) (hO : OwnP m' 4 1 u (xs.length + 1) ((xs ++ [b]).map Value.bool)) : tabMS mm XO v b xs (upd L 5 true) (upd vals 5 u) [m', PH.one XO (.cells #[v] 23)] := by
  unfold tabMS
  rw [upd_ne _ _ (by omega), h6, if_neg (by simp), upd_self, if_pos rfl, upd_self]
  exact ⟨m', hO, rfl⟩
theorem tabMS_6 (hO : OwnP m' 4 1 (vals 5) (xs.length + 1) ((xs ++ [b]).map Value.bool)) : tabMS mm XO v b xs (upd L 6 true) (upd vals 6 u) [m', PH.one XO (.cells #[vals 5] 23)] := by
  unfold tabMS
  rw [upd_self, if_pos rfl, upd_ne _ _ (by omega)]
  exact ⟨m', hO, rfl⟩
theorem tabMS_at5 (h : tabMS mm XO v b xs L vals ns) (h4 : L 4 = true) (h5 : L 5 = false) (h6 : L 6 = false) : ∃ X, vals 4 = .slice (some ⟨X, 0, none⟩) 1 1 ∧ ns = [PH.one X (.cells #[.bool b] 4), mm, PH.one XO (.cells #[v] 23)] := by
  unfold tabMS at h
  rw [h6, if_neg (by simp), h5, if_neg (by simp), h4, if_pos rfl] at h
  exact h
theorem tabMS_at6 (h : tabMS mm XO v b xs L vals ns) (h5 : L 5 = true) (h6 : L 6 = false) : ∃ m', OwnP m' 4 1 (vals 5) (xs.length + 1) ((xs ++ [b]).map Value.bool) ∧ ns = [m', PH.one XO (.cells #[v] 23)] := by
  unfold tabMS at h
  rw [h6, if_neg (by simp), h5, if_pos rfl] at h
  exact h
theorem tabMS_fin (h : tabMS mm XO v b xs L vals ns) (h6 : L 6 = true) : ∃ m', OwnP m' 4 1 (vals 5) (xs.length + 1) ((xs ++ [b]).map Value.bool) ∧ ns = [m', PH.one XO (.cells #[vals 5] 23)] := by
  unfold tabMS at h
  rw [h6, if_pos rfl] at h
  exact h
end
def tabD (t : Tr) (v lv : Value) (b : Bool) (i : Nat) (u : Value) : Prop := match i with | 0 => u = v | 1 => u = t.val | 2 => u = lv | 3 => u = .bool b | _ => True
theorem src_perm {I : PH} {ms ns : List PH} {p : PH} (h : Src I ms p) (hp : ms.Perm ns) : Src I ns p := h.of fun _ hm => hp.mem_iff.1 hm
set_option maxHeartbeats 600000 in
theorem Table_any (E : World) (I : PH) (ms : List PH) (t : Tr) (m : Nat) (hm : m ≤ 12) (w : World) (hin : In I t) (hok : (rchk t 1 0).1 = 0) (hS : Sat E I ms w) :
    Calls Try.prog 56 #[t.val, .int .i64 m] w fun e w' => ∃ A c mm, e = .returned (.slice A (2 ^ m) c) ∧ BL mm A (tabL t m (2 ^ m)) ∧ Sat E I (mm :: ms) w' := by
  have CK := Lib.hid (fun ms' w' => Check_any E I ms' w' t hin)
  have AL := Lib.hid (fun (ms' : List PH) w' => all_any E I ms' m hm w')
  rw [hok] at CK
  have hm0 : (0 : Int) ≤ (m : Int) := by omega
  have hm1 : (m : Int) ≤ 12 := by omega
  have HV := Lib.hid (fun (W : World) (J : PH) (p : PH) (A2 : Option Addr) (cp : Nat) (bl : List Bool) (hbl : BL p A2 bl) (hJ : I.le J) => value_vc W p A2 cp bl hbl t.size J t (Nat.le_refl _) (hin.le hJ) (rchk_ok t 1 0 (by omega) (by omega) (by omega) hok).1)
  have Hm := Lib.hid hm
  unfold Tr.val VC at *
  clear hin hok hm
  refine (callsIn_wide (n := 0)).1 ?_
  refine callsIn_of_wp_marks (n := 0) Try.func56 rfl trivial ?_ rfl
  simp only [Try.ntmps56, List.size_toArray, List.length_cons, List.length_nil, Nat.reduceAdd, Nat.reduceSub, Array.replicate_succ, Array.replicate_zero, List.push_toArray, List.append_toArray, List.nil_append, List.cons_append]
  refine wpIn_wide.2 ?_
  go_wp2_with (first | ((with_reducible refine atList ?_); first | ((with_reducible refine isBoxD 2 ?_); refine bx hS rfl rfl rfl ?_; clear hS; intro XE w hS; (try simp only [Act.eval, Array.getD_eq_getD_getElem?, List.getElem?_toArray, List.getElem?_cons_succ, List.getElem?_cons_zero, Option.getD_some, Value.cells] at hS); (try simp only [Act.put, List.setIfInBounds_toArray, List.set_cons_succ, List.set_cons_zero])) | ((with_reducible refine isAllocD 2 ?_); (refine' al (z := _) hS rfl rfl ?ha ?_); (case ha => first | exact ty_z47 | exact ty_z3 | exact ty_z23); clear hS; intro XE w hS; (try simp only [Act.eval, Array.getD_eq_getD_getElem?, List.getElem?_toArray, List.getElem?_cons_succ, List.getElem?_cons_zero, Option.getD_some, Value.cells] at hS); (try simp only [Act.put, List.setIfInBounds_toArray, List.set_cons_succ, List.set_cons_zero])) | ((with_reducible refine isBoxD 5 ?_); refine bx hS rfl rfl rfl ?_; clear hS; intro XO w hS; (try simp only [Act.eval, Array.getD_eq_getD_getElem?, List.getElem?_toArray, List.getElem?_cons_succ, List.getElem?_cons_zero, Option.getD_some, Value.cells] at hS); (try simp only [Act.put, List.setIfInBounds_toArray, List.set_cons_succ, List.set_cons_zero])) | ((with_reducible refine isAllocD 5 ?_); (refine' al (z := _) hS rfl rfl ?ha ?_); (case ha => first | exact ty_z47 | exact ty_z3 | exact ty_z23); clear hS; intro XO w hS; (try simp only [Act.eval, Array.getD_eq_getD_getElem?, List.getElem?_toArray, List.getElem?_cons_succ, List.getElem?_cons_zero, Option.getD_some, Value.cells] at hS); (try simp only [Act.put, List.setIfInBounds_toArray, List.set_cons_succ, List.set_cons_zero])) | ((with_reducible refine isGuard ?_); first | go_skip | (refine guarded_yes ?hw ?_; case hw => (simp only [Region.wanted, yielded, List.getElem?_toArray, List.getElem?_cons_succ, List.getElem?_cons_zero, Option.bind_some, beq_self_eq_true]; done)) | ((refine' guarded_cases (b := _) ?hy ?_ ?_); (case hy => (simp only [yielded, List.getElem?_toArray, List.getElem?_cons_succ, List.getElem?_cons_zero, Option.bind_some]; exact rfl)); all_goals (intro hb; (try simp only [Bool.not_true, Bool.not_false] at hb); (try simp only [hb]); (try simp only [Act.put, List.setIfInBounds_toArray, List.set_cons_succ, List.set_cons_zero]); first | ((have hf : False := by (simp at hb; done)); cases hf) | ((have hf : False := by (simp at hb; omega)); cases hf) | skip))) | ((with_reducible refine isLoad ?_); first | (refine ld1 0 hS rfl rfl ?ha rfl rfl rfl ?_; (case ha => first | exact ty_agg3 | exact ty_agg23); (try simp only [Act.put, List.setIfInBounds_toArray, List.set_cons_succ, List.set_cons_zero])) | (refine ld1 1 hS rfl rfl ?ha rfl rfl rfl ?_; (case ha => first | exact ty_agg3 | exact ty_agg23); (try simp only [Act.put, List.setIfInBounds_toArray, List.set_cons_succ, List.set_cons_zero])) | (refine ld1 2 hS rfl rfl ?ha rfl rfl rfl ?_; (case ha => first | exact ty_agg3 | exact ty_agg23); (try simp only [Act.put, List.setIfInBounds_toArray, List.set_cons_succ, List.set_cons_zero])) | (refine ldN 0 hS rfl rfl ?ha rfl rfl ?hb ?_; (case ha => first | exact ty_agg47); (case hb => first | exact ty_sz47); (try simp only [Act.put, List.setIfInBounds_toArray, List.set_cons_succ, List.set_cons_zero])) | (refine ldN 1 hS rfl rfl ?ha rfl rfl ?hb ?_; (case ha => first | exact ty_agg47); (case hb => first | exact ty_sz47); (try simp only [Act.put, List.setIfInBounds_toArray, List.set_cons_succ, List.set_cons_zero])) | (refine ldN 2 hS rfl rfl ?ha rfl rfl ?hb ?_; (case ha => first | exact ty_agg47); (case hb => first | exact ty_sz47); (try simp only [Act.put, List.setIfInBounds_toArray, List.set_cons_succ, List.set_cons_zero])) | ((refine' ldI1 (v := _) hS rfl rfl ?ha rfl ?hb ?_); (case ha => first | exact ty_agg3 | exact ty_agg23); (case hb => assumption); (try simp only [Act.put, List.setIfInBounds_toArray, List.set_cons_succ, List.set_cons_zero])) | ((refine' ldIN (vs := _) hS rfl rfl ?ha rfl ?hc ?hb ?_); (case ha => first | exact ty_agg47); (case hc => assumption); (case hb => first | exact ty_sz47); (try simp only [Act.put, List.setIfInBounds_toArray, List.set_cons_succ, List.set_cons_zero]))) | ((with_reducible refine isStore ?_); first | (refine st1 0 hS rfl rfl rfl rfl rfl ?ha rfl rfl ?hb ?_; (case ha => first | exact ty_sz3 | exact ty_sz23); (case hb => (simp; done)); clear hS; intro w hS; (try simp only [List.set_cons_succ, List.set_cons_zero, List.setIfInBounds_toArray, Act.eval, Array.getD_eq_getD_getElem?, List.getElem?_toArray, List.getElem?_cons_succ, List.getElem?_cons_zero, Option.getD_some, Value.cells] at hS); (try simp only [Act.put, List.setIfInBounds_toArray, List.set_cons_succ, List.set_cons_zero])) | (refine st1 1 hS rfl rfl rfl rfl rfl ?ha rfl rfl ?hb ?_; (case ha => first | exact ty_sz3 | exact ty_sz23); (case hb => (simp; done)); clear hS; intro w hS; (try simp only [List.set_cons_succ, List.set_cons_zero, List.setIfInBounds_toArray, Act.eval, Array.getD_eq_getD_getElem?, List.getElem?_toArray, List.getElem?_cons_succ, List.getElem?_cons_zero, Option.getD_some, Value.cells] at hS); (try simp only [Act.put, List.setIfInBounds_toArray, List.set_cons_succ, List.set_cons_zero])) | (refine st1 2 hS rfl rfl rfl rfl rfl ?ha rfl rfl ?hb ?_; (case ha => first | exact ty_sz3 | exact ty_sz23); (case hb => (simp; done)); clear hS; intro w hS; (try simp only [List.set_cons_succ, List.set_cons_zero, List.setIfInBounds_toArray, Act.eval, Array.getD_eq_getD_getElem?, List.getElem?_toArray, List.getElem?_cons_succ, List.getElem?_cons_zero, Option.getD_some, Value.cells] at hS); (try simp only [Act.put, List.setIfInBounds_toArray, List.set_cons_succ, List.set_cons_zero])) | (refine stN 0 hS rfl rfl rfl rfl rfl ?ha rfl rfl ?_; (case ha => first | exact ty_sz47); clear hS; intro w hS; (try simp only [List.set_cons_succ, List.set_cons_zero, List.setIfInBounds_toArray, Act.eval, Array.getD_eq_getD_getElem?, List.getElem?_toArray, List.getElem?_cons_succ, List.getElem?_cons_zero, Option.getD_some, Value.cells] at hS); (try simp only [Act.put, List.setIfInBounds_toArray, List.set_cons_succ, List.set_cons_zero])) | (refine stN 1 hS rfl rfl rfl rfl rfl ?ha rfl rfl ?_; (case ha => first | exact ty_sz47); clear hS; intro w hS; (try simp only [List.set_cons_succ, List.set_cons_zero, List.setIfInBounds_toArray, Act.eval, Array.getD_eq_getD_getElem?, List.getElem?_toArray, List.getElem?_cons_succ, List.getElem?_cons_zero, Option.getD_some, Value.cells] at hS); (try simp only [Act.put, List.setIfInBounds_toArray, List.set_cons_succ, List.set_cons_zero])) | (refine stN 2 hS rfl rfl rfl rfl rfl ?ha rfl rfl ?_; (case ha => first | exact ty_sz47); clear hS; intro w hS; (try simp only [List.set_cons_succ, List.set_cons_zero, List.setIfInBounds_toArray, Act.eval, Array.getD_eq_getD_getElem?, List.getElem?_toArray, List.getElem?_cons_succ, List.getElem?_cons_zero, Option.getD_some, Value.cells] at hS); (try simp only [Act.put, List.setIfInBounds_toArray, List.set_cons_succ, List.set_cons_zero]))) | ((with_reducible refine isBox ?_); refine bx hS rfl rfl rfl ?_; clear hS; intro X w hS; (try simp only [Act.eval, Array.getD_eq_getD_getElem?, List.getElem?_toArray, List.getElem?_cons_succ, List.getElem?_cons_zero, Option.getD_some, Value.cells] at hS); (try simp only [Act.put, List.setIfInBounds_toArray, List.set_cons_succ, List.set_cons_zero])) | ((with_reducible refine isAlloc ?_); (refine' al (z := _) hS rfl rfl ?ha ?_); (case ha => first | exact ty_z47 | exact ty_z3 | exact ty_z23); clear hS; intro X w hS; (try simp only [Act.eval, Array.getD_eq_getD_getElem?, List.getElem?_toArray, List.getElem?_cons_succ, List.getElem?_cons_zero, Option.getD_some, Value.cells] at hS); (try simp only [Act.put, List.setIfInBounds_toArray, List.set_cons_succ, List.set_cons_zero]))) | (go_at_call 28; ((with_reducible refine Calls.mono (CK.out _ _ hS) ?_); clear hS; rintro e w ⟨rfl, hS⟩)) | (go_at_call 27; ((with_reducible refine Calls.mono (AL.out _ _ hS) ?_); clear hS; rintro e w ⟨Y, rfl, hS⟩)))
  have hYlt := hS.lt (.head _) (PH.one_self Y _)
  have hY := hS.own _ (.head _) Y _ (PH.one_self Y _)
  have hall := all1_iter w Y m Hm.out hY
  have hS1 := hS.freeze
  have hIY : (I.join (PH.one Y (.cells #[.int .i64 (m : Int)] 3))) Y ≠ none := by
    have := PH.le_join_right (hS.off (.head _)) Y _ (PH.one_self Y _)
    rw [this]; simp
  have hIi : I.le (I.join (PH.one Y (.cells #[.int .i64 (m : Int)] 3))) := PH.le_join _ _
  generalize hI0 : I.join (PH.one Y (.cells #[.int .i64 (m : Int)] 3)) = I0 at *
  have hS2 : Sat E I0 ((PH.one XE (.cells #[.int .i64 t.op, .int .i64 t.var, .slice t.A t.kids.length t.cap] 47) :: ms) ++ [fun _ => none, PH.one XO (.cells #[.slice none 0 0] 23)]) w :=
    (hS1.empty.perm (List.perm_append_comm (l₁ := [_, _])))
  have hIlt : ∀ b o, I0 b = some o → b < w.heap.size := fun b o hb => hS2.ilt hb
  have hXO : XO < w.heap.size := hS1.lt (.head _) (PH.one_self XO _)
  have hXEin : PH.one XE (.cells #[.int .i64 t.op, .int .i64 t.var, .slice t.A t.kids.length t.cap] 47) ∈ (PH.one XE (.cells #[.int .i64 t.op, .int .i64 t.var, .slice t.A t.kids.length t.cap] 47) :: ms) := .head _
  generalize hro : (PH.one XE (.cells #[.int .i64 t.op, .int .i64 t.var, .slice t.A t.kids.length t.cap] 47) :: ms) = ro at *
  have hrolt : ∀ p ∈ ro, ∀ b o, p b = some o → b < w.heap.size := fun p hp b o hb => hS2.lt (List.mem_append_left _ hp) hb
  clear hS hS1 hI0 CK AL
  refine (wpIn_wide (n := 0)).1 ?_
  refine rangeFunc_lawG (K := fun b => b = Y) (gf := 50) (lb := #[.pointer (some ⟨Y, 0, none⟩)]) (w0 := w) rfl (enters_of Try.func50 (by kernel_rfl) rfl)
    hall (Keeps.refl _ _) (by rintro b rfl; exact hYlt) (fun _ => rfl)
    (fun S pre W' => RT E I0 ro XO (tabL t m pre.length) S W')
    (fun S cd _ W' => False) ?hI ?hIx ?start
    (fun i x a' W' => isL m i x W' ∧ a' = ⟨#[Value.agg #[Value.int IntKind.i64 t.op, Value.int IntKind.i64 t.var, Value.slice t.A t.kids.length t.cap],
          Value.int IntKind.i64 m, Value.pointer (some { block := XE, off := 0 }), undef, Value.slice none 0 0,
          Value.pointer (some { block := XO, off := 0 }), .slice x.1 m x.2, Value.int IntKind.i64 m, Value.bool false,
          Value.bool false, Value.int IntKind.i64 m, Value.bool false, Value.bool false, Value.bool false,
          Value.agg #[Value.int IntKind.i64 t.op, Value.int IntKind.i64 t.var, Value.slice t.A t.kids.length t.cap],
          Value.int IntKind.i64 0, Value.bool false, Value.bool false, Value.int IntKind.i64 m,
          Value.func (Fn.func 50) #[] #[Value.pointer (some { block := Y, off := 0 })], .slice x.1 m x.2, undef, undef, undef,
          undef, undef, undef, undef], []⟩) ?hAx ?assign ?body ?done ?stop
  case hI =>
    rintro S pre A B row ⟨mm, v, h1, h2, h3⟩ hg hr
    refine ⟨mm, v, h1, h2.turn hg hr (fun b o hb => .inl (hIlt b o hb)) (fun p hp b o hb => ?_), h3⟩
    rcases List.mem_append.1 hp with hp | hp
    · exact .inl (hrolt p hp b o hb)
    · simp only [List.mem_cons, List.not_mem_nil, or_false] at hp
      rcases hp with rfl | rfl
      · exact .inr (h1.isCells b o hb)
      · exact .inr (PH.one_isCells b o hb)
  case hIx => exact fun S c s A B row h => h.elim
  case start =>
    intro S W' hb hst
    refine ⟨fun _ => none, .slice none 0 0, OwnP.nil _ _, hS2.below_ hb, fun p hp b hSb => ?_⟩
    cases hpb : p b with
    | none => rfl
    | some o =>
      exfalso
      rcases hst.2 b hSb with rfl | h
      · rcases hS2.sep p hp b with h4 | h4
        · rw [hpb] at h4; cases h4
        · exact hIY h4
      · have := hS2.lt hp hpb; omega
  case hAx =>
    rintro i x a' s X Y row ⟨h1, h2⟩ hg hr
    exact ⟨h1.turn hg (fun r e => (hr r e).2), h2⟩
  case assign =>
    intro l' S pre x W' K' hlt hG hSl hKS hi hK
    have HK := hK
    clear hK
    unfold encL
    gi_wp2
    exact HK _ _ (Keeps.refl _ _) hi ⟨hG, rfl⟩
  case body =>
    rintro l' S pre x a' W' hpl hSl hKS ⟨mm, v, hO, hSr, hap⟩ ⟨hx, rfl⟩
    obtain ⟨I1, hI1, hS3, hfull⟩ := hSr.full
    have hp4 : pre.length < 4096 := Nat.lt_of_lt_of_le hpl (Nat.le_trans (Nat.pow_le_pow_right (by omega) Hm.out) (by decide))
    have hbl : ∃ p, Src I1 (ro ++ [mm, PH.one XO (.cells #[v] 23)]) p ∧ BL p x.1 (bitsOf pre.length m) := by
      by_cases h0 : m = 0
      · subst h0
        exact ⟨I1, .inl (PH.le.refl _), by simp [bitsOf_length], fun h => by simp [bitsOf_length] at h⟩
      · obtain ⟨b, o, e, hb, hc⟩ := hx.2 (by omega)
        obtain ⟨p, hp, hpb⟩ := hS3.find hfull b
        refine ⟨p, hp, by rw [bitsOf_length]; have := Hm.out; omega, fun _ => ⟨b, o, e, fun j u hj => ?_⟩⟩
        have hjl : j < m * 1 := by
          have := (List.getElem?_eq_some_iff.1 hj).1
          rw [List.length_map, bitsOf_length] at this
          omega
        refine PH.at_of_cell hpb ?_
        rw [hc j hjl]
        exact hj
    obtain ⟨p, hp, hbl⟩ := hbl
    have HC := Lib.hid (fun (J : PH) (ns : List PH) (w' : World) (hJ : I1.le J) (hs : Src J ns p) (hS' : Sat W' J ns w') => HV.out W' I1 p x.1 x.2 (bitsOf pre.length m) hbl (hIi.trans hI1) J ns w' hJ hs hS')
    rw [bitsOf_length] at HC
    have hst := tabL_succ t m pre.length
    have hln := tabL_len t m pre.length
    generalize t.value (bitsOf pre.length m) = bv at *
    generalize hxs : tabL t m pre.length = xs at *
    have Hxs := Lib.hid hxs
    clear hbl hxs
    have Hfull := Lib.hid hfull
    clear hfull
    obtain ⟨A0, c0, rfl, _⟩ := hO.shape
    gi_wp2_with fail
    refine region_og_in (F := Fence.wide.inRound l') (n := 0) [[], [], [], [1, 2], [1, 2, 3], [0, 1, 2, 3, 4], [0, 1, 2, 3, 4, 5]] W' I1 ro [mm, PH.one XO (.cells #[.slice A0 xs.length c0] 23)]
      (fun i u _ => tabD t (.slice A0 xs.length c0) (.slice x.1 m x.2) bv i u) (fun L vals _ ns => tabMS mm XO (.slice A0 xs.length c0) bv xs L vals ns)
      (fun _ => trivial) rfl (fun _ _ _ _ h => callsIn_round h) (fun _ _ _ _ h => rowsIn_round h) (by kernel_rfl) (by kernel_rfl) hS3 (by simp [tabMS]) (fun _ _ _ _ _ h => h) ?step ?fin
    case step =>
      intro i hi L vals J ns w' hLi hdn hanc hJ hs hMS
      simp only [List.length_cons, List.length_nil, Nat.reduceAdd] at hi hdn
      have d : ∀ j k, j < 7 → k ∈ ([[], [], [], [1, 2], [1, 2, 3], [0, 1, 2, 3, 4], [0, 1, 2, 3, 4, 5]] : List (List Nat)).getD j [] → L k = false → L j = false := fun j k hj hk h0 => by
        cases hL : L j with
        | false => rfl
        | true => rw [hdn j hj hL k hk] at h0; cases h0
      have hcs : i = 0 ∨ i = 1 ∨ i = 2 ∨ i = 3 ∨ i = 4 ∨ i = 5 ∨ i = 6 := by omega
      rcases hcs with rfl | rfl | rfl | rfl | rfl | rfl | rfl
      · have h6 := d 6 0 (by omega) (by simp) hLi
        simp only [opAt, textL, actL, dstAt, List.getD_cons_succ, List.getD_cons_zero, List.getElem?_cons_succ, List.getElem?_cons_zero, Option.bind_some, if_true, Act.put, List.setIfInBounds_toArray, List.set_cons_succ, List.set_cons_zero]
        refine wpStep_of (fun K hK => ?_)
        rw [if_pos (by rfl)]
        refine wp_ldo1 hs (List.mem_append_right _ (tabMS_box hMS h6)) ty_agg23 rfl rfl ?_
        exact hK _ _ ⟨rfl, J, ns, PH.le.refl _, hs, rfl, tabMS_upd hMS (by omega)⟩
      · simp only [opAt, textL, actL, dstAt, List.getD_cons_succ, List.getD_cons_zero, List.getElem?_cons_succ, List.getElem?_cons_zero, Option.bind_some, if_true, Act.put, List.setIfInBounds_toArray, List.set_cons_succ, List.set_cons_zero]
        refine wpStep_of (fun K hK => ?_)
        rw [if_pos (by rfl)]
        refine wp_ldoN hs (List.mem_append_left _ hXEin) ty_agg47 rfl ty_sz47 ?_
        exact hK _ _ ⟨rfl, J, ns, PH.le.refl _, hs, rfl, tabMS_upd hMS (by omega)⟩
      · simp only [opAt, textL, actL, dstAt, List.getD_cons_succ, List.getD_cons_zero, List.getElem?_cons_succ, List.getElem?_cons_zero, Option.bind_some, if_true, Act.put, List.setIfInBounds_toArray, List.set_cons_succ, List.set_cons_zero]
        refine wpStep_of (fun K hK => ?_)
        rw [if_pos (by rfl)]
        refine wp_mv ?_
        exact hK _ _ ⟨rfl, J, ns, PH.le.refl _, hs, rfl, tabMS_upd hMS (by omega)⟩
      · have h4 := d 4 3 (by omega) (by simp) hLi
        have h5 := d 5 3 (by omega) (by simp) hLi
        have h6 := d 6 3 (by omega) (by simp) hLi
        have e1 : vals 1 = t.val := (hanc 1 (by simp)).2
        have e2 : vals 2 = _ := (hanc 2 (by simp)).2
        refine Veil.out ?_
        obtain rfl := tabMS_none hMS h4 h5 h6
        refine ⟨?_⟩
        unfold Tr.val at e1
        simp only [opAt, textL, actL, dstAt, List.getD_cons_succ, List.getD_cons_zero, List.getElem?_cons_succ, List.getElem?_cons_zero, Option.bind_some, if_true, Act.put, List.setIfInBounds_toArray, List.set_cons_succ, List.set_cons_zero, e1, e2]
        refine wpStep_of (fun K hK => ?_)
        rw [if_pos (by rfl)]
        have HK := Lib.hid hK
        clear hK
        go_wp2_with (go_at_call 58; refine (HC.out J _ _ hJ (hp.le hJ) hs).mono ?_; rintro e w ⟨rfl, hs'⟩)
        exact HK.out _ _ ⟨rfl, J, _, PH.le.refl _, hs', rfl, tabMS_upd hMS (by omega)⟩
      · have h5 := d 5 4 (by omega) (by simp) hLi
        have h6 := d 6 4 (by omega) (by simp) hLi
        have e3 : vals 3 = _ := (hanc 3 (by simp)).2
        refine Veil.out ?_
        obtain rfl := tabMS_none hMS hLi h5 h6
        refine ⟨?_⟩
        simp only [opAt, textL, actL, dstAt, List.getD_cons_succ, List.getD_cons_zero, List.getElem?_cons_succ, List.getElem?_cons_zero, Option.bind_some, if_true, Act.put, List.setIfInBounds_toArray, List.set_cons_succ, List.set_cons_zero, e3]
        refine wpStep_of (fun K hK => ?_)
        rw [if_pos (by rfl)]
        refine wp_bsl (cs := #[.bool bv]) (e := 4) hs (by intro w0; go_simp) fun X w2 hs2 => ?_
        refine hK _ _ ⟨rfl, J, [PH.one X (.cells #[.bool bv] 4), mm, PH.one XO (.cells #[.slice A0 xs.length c0] 23)], PH.le.refl _, hs2.perm (List.perm_middle (l₁ := ro)).symm, trivial, tabMS_4 h5 h6 rfl⟩
      · have h6 := d 6 5 (by omega) (by simp) hLi
        have e0 : vals 0 = _ := (hanc 0 (by simp)).2
        have hL4 := (hanc 4 (by simp)).1
        refine Veil.out ?_
        obtain ⟨X, e4, rfl⟩ := tabMS_at5 hMS hL4 hLi h6
        refine ⟨?_⟩
        have hs2 := hs.perm (List.perm_append_comm (l₁ := ro))
        simp only [opAt, textL, actL, dstAt, List.getD_cons_succ, List.getD_cons_zero, List.getElem?_cons_succ, List.getElem?_cons_zero, Option.bind_some, if_true, Act.put, List.setIfInBounds_toArray, List.set_cons_succ, List.set_cons_zero, e0, e4]
        refine wpStep_of (fun K hK => ?_)
        rw [if_pos (by rfl)]
        refine wp_apP hs2 1 rfl (.inr (List.Mem.head _)) rfl Try.underlying23 bool_info rfl Nat.one_pos rfl hO rfl rfl (Cells.one _ _ _ _) rfl (by unfold maxLen; omega) (by omega) fun v' m' w2 hO' hS' => ?_
        simp only [List.cons_append, List.nil_append, List.set_cons_succ, List.set_cons_zero] at hS'
        refine hK _ _ ⟨rfl, J, [m', PH.one XO (.cells #[.slice A0 xs.length c0] 23)], PH.le.refl _, hS'.drop.perm (List.perm_append_comm (l₁ := [_, _])), trivial, tabMS_5 h6 ?_⟩
        rw [List.map_append]
        exact hO'
      · have hL5 : L 5 = true := (hanc 5 (show 5 ∈ [0, 1, 2, 3, 4, 5] by decide)).1
        refine Veil.out ?_
        obtain ⟨m', hO', rfl⟩ := tabMS_at6 hMS hL5 hLi
        obtain ⟨A', c', e5, _⟩ := hO'.shape
        refine ⟨?_⟩
        have hs2 := hs.perm (List.perm_append_comm (l₁ := ro))
        simp only [opAt, textL, actL, dstAt, List.getD_cons_succ, List.getD_cons_zero, List.getElem?_cons_succ, List.getElem?_cons_zero, Option.bind_some, if_true, Act.put, List.setIfInBounds_toArray, List.set_cons_succ, List.set_cons_zero, e5]
        refine wpStep_of (fun K hK => ?_)
        rw [if_pos (by rfl)]
        refine wp_st1 hs2 1 rfl rfl rfl rfl ty_sz23 rfl rfl (by simp) fun w2 hS' => ?_
        simp only [List.cons_append, List.nil_append, List.set_cons_succ, List.set_cons_zero] at hS'
        refine hK _ _ ⟨rfl, J, [m', PH.one XO (.cells #[vals 5] 23)], PH.le.refl _, ?_, trivial, tabMS_6 hO'⟩
        rw [e5]; exact hS'.perm (List.perm_append_comm (l₁ := [_, _]))
    case fin =>
      intro vals J ns w' hJ hD hs ⟨L, hL, hMS⟩
      obtain ⟨m', hO', rfl⟩ := tabMS_fin hMS (hL 6 (by simp))
      obtain ⟨hk, hap'⟩ := Sat.keeps Hfull.out hSl hap hJ hs
      refine ⟨hk, m', vals 5, ?_, (hSr.unbase hs).less (hI1.trans hJ), hap'⟩
      rw [show (pre ++ [x]).length = pre.length + 1 by simp, hst]
      rw [show (xs ++ [bv]).length = xs.length + 1 by simp]
      exact hO'
  case done =>
    rintro D S ys W3 hD hSS hyl ⟨mm, v, hO, hSr, hap⟩ hd
    have hS := hSr.perm (List.perm_append_comm (l₁ := ro))
    simp only [List.cons_append, List.nil_append] at hS
    rw [hyl] at hO
    generalize hxs : tabL t m (2 ^ m) = xs at *
    obtain ⟨A0, c0, rfl, _⟩ := hO.shape
    have HO := Lib.hid hO
    clear hO
    go_wp2_with (first | ((with_reducible refine atList ?_); first | ((with_reducible refine isGuard ?_); first | go_skip | (refine guarded_yes ?hw ?_; case hw => (simp only [Region.wanted, yielded, List.getElem?_toArray, List.getElem?_cons_succ, List.getElem?_cons_zero, Option.bind_some, beq_self_eq_true]; done)) | ((refine' guarded_cases (b := _) ?hy ?_ ?_); (case hy => (simp only [yielded, List.getElem?_toArray, List.getElem?_cons_succ, List.getElem?_cons_zero, Option.bind_some]; exact rfl)); all_goals (intro hb; (try simp only [Bool.not_true, Bool.not_false] at hb); (try simp only [hb]); (try simp only [Act.put, List.setIfInBounds_toArray, List.set_cons_succ, List.set_cons_zero]); first | ((have hf : False := by (simp at hb; done)); cases hf) | ((have hf : False := by (simp at hb; omega)); cases hf) | skip))) | ((with_reducible refine isLoad ?_); first | (refine ld1 0 hS rfl rfl ?ha rfl rfl rfl ?_; (case ha => first | exact ty_agg23); (try simp only [Act.put, List.setIfInBounds_toArray, List.set_cons_succ, List.set_cons_zero])) | (refine ld1 1 hS rfl rfl ?ha rfl rfl rfl ?_; (case ha => first | exact ty_agg23); (try simp only [Act.put, List.setIfInBounds_toArray, List.set_cons_succ, List.set_cons_zero])) | ((refine' ldI1 (v := _) hS rfl rfl ?ha rfl ?hb ?_); (case ha => first | exact ty_agg23); (case hb => assumption); (try simp only [Act.put, List.setIfInBounds_toArray, List.set_cons_succ, List.set_cons_zero]))) | ((with_reducible refine isStore ?_); first | (refine st1 0 hS rfl rfl rfl rfl rfl ?ha rfl rfl ?hb ?_; (case ha => first | exact ty_sz23); (case hb => (simp; done)); clear hS; intro w hS; (try simp only [List.set_cons_succ, List.set_cons_zero, List.setIfInBounds_toArray, Act.eval, Array.getD_eq_getD_getElem?, List.getElem?_toArray, List.getElem?_cons_succ, List.getElem?_cons_zero, Option.getD_some, Value.cells] at hS); (try simp only [Act.put, List.setIfInBounds_toArray, List.set_cons_succ, List.set_cons_zero])) | (refine st1 1 hS rfl rfl rfl rfl rfl ?ha rfl rfl ?hb ?_; (case ha => first | exact ty_sz23); (case hb => (simp; done)); clear hS; intro w hS; (try simp only [List.set_cons_succ, List.set_cons_zero, List.setIfInBounds_toArray, Act.eval, Array.getD_eq_getD_getElem?, List.getElem?_toArray, List.getElem?_cons_succ, List.getElem?_cons_zero, Option.getD_some, Value.cells] at hS); (try simp only [Act.put, List.setIfInBounds_toArray, List.set_cons_succ, List.set_cons_zero]))) | ((with_reducible refine isBox ?_); refine bx hS rfl rfl rfl ?_; clear hS; intro X w hS; (try simp only [Act.eval, Array.getD_eq_getD_getElem?, List.getElem?_toArray, List.getElem?_cons_succ, List.getElem?_cons_zero, Option.getD_some, Value.cells] at hS); (try simp only [Act.put, List.setIfInBounds_toArray, List.set_cons_succ, List.set_cons_zero])) | ((with_reducible refine isAlloc ?_); (refine' al (z := _) hS rfl rfl ?ha ?_); (case ha => first | exact ty_z23); clear hS; intro X w hS; (try simp only [Act.eval, Array.getD_eq_getD_getElem?, List.getElem?_toArray, List.getElem?_cons_succ, List.getElem?_cons_zero, Option.getD_some, Value.cells] at hS); (try simp only [Act.put, List.setIfInBounds_toArray, List.set_cons_succ, List.set_cons_zero]))))
    have hxl : xs.length = 2 ^ m := by rw [← hxs, tabL_len]
    have hT : Sat E I0 (ro ++ [mm, PH.one XO (.cells #[.slice A0 xs.length c0] 23)]) (W3.putObj D (.deferred none)) := by
      refine hSr.turn (B := w.heap.size) (grownBy_putObj' W3 D _) (fun r e => by cases e; exact ⟨hD, _, hd, rfl⟩) (fun b o hb => .inl (hIlt b o hb)) (fun p hp b o hb => ?_)
      rcases List.mem_append.1 hp with hp | hp
      · exact .inl (hrolt p hp b o hb)
      · simp only [List.mem_cons, List.not_mem_nil, or_false] at hp
        rcases hp with rfl | rfl
        · exact .inr (HO.out.isCells b o hb)
        · exact .inr (PH.one_isCells b o hb)
    have hF := ((hT.less hIi).perm (List.perm_append_comm (l₁ := ro)))
    rw [← hro] at hF
    have hG := hF.sub (List.Sublist.cons_cons mm (List.Sublist.cons _ (List.Sublist.cons _ (List.Sublist.refl ms))))
    have hB : BL mm A0 xs := ⟨by rw [hxl]; exact Nat.le_trans (Nat.pow_le_pow_right (by omega) Hm.out) (by decide), fun h => by
      obtain ⟨g, h1, h2⟩ := HO.out.cells h
      exact ⟨g, 0, h1, h2⟩⟩
    clear hF hT hSr hS hap
    refine ⟨by simp, .inl ⟨_, _, rfl, run_takeDeferred hd, ?_⟩⟩
    refine ⟨_, (results_tmp Try.results56 _ _ _), A0, c0, mm, by rw [← hxl]; rfl, by rw [hxs]; exact hB, hG⟩
  case stop => exact fun D S c pre W h1 h2 h3 h4 => h4.elim
end Go.Proofs.Ytaeifbkimagpdaa
