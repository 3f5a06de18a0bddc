import Derived.Test.YtiigjjjaciliaaaT4
namespace Go.Proofs.Ytiigjjjaciliaaa
open Go.ChangeShapes Go.WideShapes Go.ChangeAt Go.RowKit
set_option linter.unusedVariables false
def half (n : Nat) : Nat → Nat
  | 0 => n
  | k + 1 => half n k / 2
def isV (nd : Nat) (e : Int) : Bool := ((e / 2 == 0) || (((half nd (e / 2).toNat : Nat) : Int) % 2 == 1)) != ng e
theorem half_lt (n k : Nat) (h : n < 18446744073709551616) : half n k < 18446744073709551616 := by
  induction k with
  | zero => exact h
  | succ k ih => unfold half; omega
theorem retb {a b : Bool} (h : b = a) : Ending.returned (.bool a) = .returned (.bool b) := by rw [h]
set_option maxHeartbeats 400000 in
theorem is_any (e : Int) (nd : Nat) (w : World) (h0 : 0 ≤ e) (h1 : e ≤ 100) (hn : nd < 18446744073709551616) :
    Calls Try.prog 15 #[.int .i64 e, .int .u64 (nd : Int)] w fun r w' => r = .returned (.bool (isV nd e)) ∧ w = w' := by
  go_enter Try.func15, Try.ntmps15
  go_wp2_with (first | (go_at_call 22; refine (rnode_any _ _ (by omega) (by omega)).mono ?_; rintro r w' ⟨rfl, rfl⟩))
  go_loop [1, 6] (fun n i => ∃ k : Nat, (k : Int) ≤ e / 2 ∧ i = .int .i64 k ∧ n = .int .u64 ((half nd k : Nat) : Int)) (fun _ i => (e / 2 - intOf i).toNat)
  case atStart => exact ⟨0, by omega, rfl, rfl⟩
  case round =>
    obtain ⟨k, hk, rfl, rfl⟩ := hrel
    have hl := half_lt nd k hn
    by_cases hlt : (k : Int) < e / 2
    · go_wp2
      go_round
      case rel => exact ⟨k + 1, by omega, by go_num, by simp [half]⟩
      case measure => simp [intOf]; omega
    · have hz : isV nd e = (((e / 2 == 0) || (((half nd k : Nat) : Int) % 2 == 1)) != ng e) := by
        unfold isV; rw [show (e / 2).toNat = k from by omega]
      have Hz := Lib.hid hz; clear hz
      go_wp2_with (go_at_call 18; refine (rneg_any _ _ (by omega)).mono ?_; rintro r w' ⟨rfl, rfl⟩)
      all_goals go_ret
      all_goals refine ⟨retb ?_, rfl⟩
      all_goals rw [Hz.out]
      all_goals first | rfl | simp [*]
theorem nt_half (e : Int) : nt e / 2 = e / 2 := by unfold nt; split <;> omega
theorem ng_nt (e : Int) : ng (nt e) = !ng e := by
  unfold nt ng
  split
  · rename_i h
    rw [show (e % 2 == 1) = false from by simp [h], show ((e + 1) % 2 == 1) = true from by rw [beq_iff_eq]; omega]; rfl
  · rename_i h
    rw [show (e % 2 == 1) = true from by rw [beq_iff_eq]; omega, show ((e - 1) % 2 == 1) = false from by rw [beq_eq_false_iff_ne]; omega]; rfl
theorem isV_nt (nd : Nat) (e : Int) : isV nd (nt e) = !isV nd e := by
  unfold isV
  rw [nt_half, ng_nt]
  cases ng e <;> simp
theorem isV_0 (nd : Nat) : isV nd 0 = true := rfl
theorem isV_1 (nd : Nat) : isV nd 1 = false := rfl
theorem nt_bd' (e : Int) (h0 : 0 ≤ e) (h1 : e ≤ 41) : 0 ≤ nt e ∧ nt e ≤ 41 := by unfold nt; split <;> omega
theorem norm_means (nd : Nat) (f g : Int) (f0 : 0 ≤ f) (f1 : f ≤ 41) (g0 : 0 ≤ g) (g1 : g ≤ 41) :
    ∃ l k n, normV f g = #[.int .i64 l, .int .i64 k, .bool n] ∧ 0 ≤ l ∧ l ≤ 41 ∧ 0 ≤ k ∧ k ≤ 41 ∧ isV nd l = (isV nd f != n) ∧ isV nd k = (isV nd g != n) ∧ ng k = false := by
  have a := nt_bd' f f0 f1
  have b := nt_bd' g g0 g1
  unfold normV
  cases h : ng g
  · exact ⟨f, g, false, rfl, f0, f1, g0, g1, by simp, by simp, h⟩
  · exact ⟨nt f, nt g, true, rfl, a.1, a.2, b.1, b.2, by rw [isV_nt]; simp, by rw [isV_nt]; simp, by rw [ng_nt, h]; rfl⟩
theorem meet_means (nd : Nat) (f g : Int) (f0 : 0 ≤ f) (f1 : f ≤ 41) (g0 : 0 ≤ g) (g1 : g ≤ 41) :
    ∃ r ok, meetV f g = #[.int .i64 r, .bool ok] ∧ 0 ≤ r ∧ r ≤ 41 ∧ (ok = true → isV nd r = (isV nd f && isV nd g)) := by
  unfold meetV
  split
  · rename_i h
    refine ⟨1, true, rfl, by omega, by omega, fun _ => ?_⟩
    rw [isV_1]
    rcases h with h | h | h
    · rw [h, isV_1]; rfl
    · rw [h, isV_1]; simp
    · rw [h, isV_nt]; cases isV nd g <;> rfl
  · split
    · rename_i h
      refine ⟨g, true, rfl, g0, g1, fun _ => ?_⟩
      rcases h with h | h
      · rw [h, isV_0]; simp
      · rw [h]; simp
    · split
      · rename_i h
        refine ⟨f, true, rfl, f0, f1, fun _ => ?_⟩
        rw [h, isV_0]; simp
      · exact ⟨0, false, rfl, by omega, by omega, fun h => by cases h⟩
theorem sg_means (nd : Nat) (f g : Int) : isV nd f = true → isV nd (sg f g) = isV nd g := by
  intro h
  unfold sg
  split
  · rename_i e; rw [e, h]; rfl
  · split
    · rename_i e; rw [e, isV_nt, h]; rfl
    · rfl
theorem sh_means (nd : Nat) (f g : Int) : isV nd f = false → isV nd (sh f g) = isV nd g := by
  intro h
  unfold sh
  split
  · rename_i e; rw [e, h]; rfl
  · split
    · rename_i e; rw [e, isV_nt, h]; rfl
    · rfl
theorem sg_bd' (f g : Int) (g0 : 0 ≤ g) (g1 : g ≤ 41) : 0 ≤ sg f g ∧ sg f g ≤ 41 := by unfold sg; split <;> (try split) <;> omega
theorem sh_bd' (f g : Int) (g0 : 0 ≤ g) (g1 : g ≤ 41) : 0 ≤ sh f g ∧ sh f g ≤ 41 := by unfold sh; split <;> (try split) <;> omega
theorem ng_out (e : Int) (h : ng e = true) : ng (nt e) = false := by rw [ng_nt, h]; rfl
theorem fin_means (nd : Nat) (f g h : Int) (f0 : 0 ≤ f) (f1 : f ≤ 41) (g0 : 0 ≤ g) (g1 : g ≤ 41) (h0 : 0 ≤ h) (h1 : h ≤ 41) (hf : ng f = false) :
    ∃ a b c n, fin f g h = askV a b c n 0 false ∧ 0 ≤ a ∧ a ≤ 41 ∧ 0 ≤ b ∧ b ≤ 41 ∧ 0 ≤ c ∧ c ≤ 41 ∧ ng a = false ∧ ng b = false ∧ (if isV nd a then isV nd b else isV nd c) = ((if isV nd f then isV nd g else isV nd h) != n) := by
  have x := nt_bd' g g0 g1
  have y := nt_bd' h h0 h1
  unfold fin
  split
  · rename_i e
    exact ⟨f, nt g, nt h, true, rfl, f0, f1, x.1, x.2, y.1, y.2, hf, ng_out g e, by rw [isV_nt, isV_nt]; split <;> simp⟩
  · rename_i e
    exact ⟨f, g, h, false, rfl, f0, f1, g0, g1, h0, h1, hf, by simpa using e, by split <;> simp⟩
theorem ite_means (nd : Nat) (f g h : Int) (f0 : 0 ≤ f) (f1 : f ≤ 41) (g0 : 0 ≤ g) (g1 : g ≤ 41) (h0 : 0 ≤ h) (h1 : h ≤ 41) :
    (∃ a b c n r, iteV f g h = askV a b c n r true ∧ 0 ≤ r ∧ r ≤ 41 ∧ isV nd r = (if isV nd f then isV nd g else isV nd h)) ∨
    (∃ a b c n r, iteV f g h = askV a b c n r false ∧ 0 ≤ a ∧ a ≤ 41 ∧ 0 ≤ b ∧ b ≤ 41 ∧ 0 ≤ c ∧ c ≤ 41 ∧ ng a = false ∧ ng b = false ∧ ((if isV nd a then isV nd b else isV nd c) != n) = (if isV nd f then isV nd g else isV nd h)) := by
  have hg := sg_bd' f g g0 g1
  have hh := sh_bd' f h h0 h1
  have hw : (if isV nd f then isV nd g else isV nd h) = (if isV nd f then isV nd (sg f g) else isV nd (sh f h)) := by
    cases e : isV nd f
    · simp [sh_means nd f h e]
    · simp [sg_means nd f g e]
  rw [hw]
  unfold iteV
  clear hw
  generalize sg f g = g' at *
  generalize sh f h = h' at *
  clear g0 g1 h0 h1
  obtain ⟨g0, g1⟩ := hg
  obtain ⟨h0, h1⟩ := hh
  unfold ite'
  split
  · rename_i e
    refine Or.inl ⟨0, 0, 0, false, g', rfl, g0, g1, ?_⟩
    rcases e with e | e
    · rw [e, isV_0]; rfl
    · rw [e]; simp
  · split
    · rename_i e
      exact Or.inl ⟨0, 0, 0, false, h', rfl, h0, h1, by rw [e, isV_1]; rfl⟩
    · split
      · rename_i e
        exact Or.inl ⟨0, 0, 0, false, f, rfl, f0, f1, by rw [e.1, e.2, isV_0, isV_1]; cases isV nd f <;> rfl⟩
      · split
        · rename_i e
          exact Or.inl ⟨0, 0, 0, false, nt f, rfl, (nt_bd' f f0 f1).1, (nt_bd' f f0 f1).2, by rw [e.1, e.2, isV_0, isV_1, isV_nt]; cases isV nd f <;> rfl⟩
        · split
          · rename_i e
            obtain ⟨a, b, c, n, q, r1, r2, r3, r4, r5, r6, r7, r8, r9⟩ := fin_means nd (nt f) h' g' (nt_bd' f f0 f1).1 (nt_bd' f f0 f1).2 h0 h1 g0 g1 (ng_out f e)
            exact Or.inr ⟨a, b, c, n, 0, q, r1, r2, r3, r4, r5, r6, r7, r8, by rw [r9, isV_nt]; cases isV nd f <;> simp⟩
          · rename_i e
            obtain ⟨a, b, c, n, q, r1, r2, r3, r4, r5, r6, r7, r8, r9⟩ := fin_means nd f g' h' f0 f1 g0 g1 h0 h1 (by simpa using e)
            exact Or.inr ⟨a, b, c, n, 0, q, r1, r2, r3, r4, r5, r6, r7, r8, by rw [r9]; cases isV nd f <;> simp⟩
end Go.Proofs.Ytiigjjjaciliaaa
