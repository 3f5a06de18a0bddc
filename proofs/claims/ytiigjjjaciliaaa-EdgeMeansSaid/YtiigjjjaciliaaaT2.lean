import Derived.Test.YtiigjjjaciliaaaT1
namespace Go.Proofs.Ytiigjjjaciliaaa
open Go.ChangeShapes Go.WideShapes Go.ChangeAt Go.RowKit
set_option linter.unusedVariables false
theorem fin_ask (f g h : Int) : ∃ a b c n r d, fin f g h = askV a b c n r d := by
  unfold fin
  split
  all_goals exact ⟨_, _, _, _, _, _, rfl⟩
theorem ite13_any (f g h : Int) (w : World) (f0 : 0 ≤ f) (f1 : f ≤ 4294967296) (g0 : 0 ≤ g) (g1 : g ≤ 4294967296) (h0 : 0 ≤ h) (h1 : h ≤ 4294967296) :
    Calls Try.prog 13 #[.int .i64 f, .int .i64 g, .int .i64 h] w fun r w' => r = .returned (.agg (iteV f g h)) ∧ Below w.heap.size w w' := by
  obtain ⟨a, b, c, n, r, d, he⟩ : ∃ a b c n r d, iteV f g h = askV a b c n r d := by
    unfold iteV ite' fin
    repeat' split
    all_goals exact ⟨_, _, _, _, _, _, rfl⟩
  have hc := fun w => ite_any f g h w f0 f1 g0 g1 h0 h1
  rw [he] at hc ⊢
  unfold askV at hc ⊢
  have Hc := Lib.hid hc; clear hc he
  go_enter Try.func13, Try.ntmps13
  go_wp2_with (go_at_call 27; refine (Hc.out _).mono ?_; rintro r w' ⟨rfl, rfl⟩)
  exact bodyPost_ret (v := .agg #[.int .i64 a, .int .i64 b, .int .i64 c, .bool n, .int .i64 r, .bool d]) (by simp [results, Try.results13, go_sem]) rfl ⟨rfl, by repeat (first | exact Below.refl _ _ | apply Below.drew | refine Below.alloc ?_ (by simp) _ | refine Below.setCell ?_ (by simp) _)⟩
theorem turned_any (f g h : Int) (w : World) (f0 : 0 ≤ f) (f1 : f ≤ 4294967300) (g0 : 0 ≤ g) (g1 : g ≤ 4294967300) (h0 : 0 ≤ h) (h1 : h ≤ 4294967300) :
    Calls Try.prog 28 #[.int .i64 f, .int .i64 g, .int .i64 h] w fun r w' => r = .returned (.agg (fin f g h)) ∧ Below w.heap.size w w' := by
  unfold fin askV
  cases hn : ng g
  all_goals
    go_enter Try.func28, Try.ntmps28
    go_wp2_with (first | (go_at_call 18; refine (rneg_any _ _ (by omega)).mono ?_; rintro r w' ⟨rfl, rfl⟩) | (go_at_call 23; refine (rnot_any _ _ (by omega) (by omega)).mono ?_; rintro r w' ⟨rfl, rfl⟩))
    exact bodyPost_ret (v := .agg #[.int .i64 _, .int .i64 _, .int .i64 _, .bool _, .int .i64 _, .bool _]) (by simp [results, Try.results28, go_sem]) rfl ⟨rfl, by repeat (first | exact Below.refl _ _ | apply Below.drew | refine Below.alloc ?_ (by simp) _ | refine Below.setCell ?_ (by simp) _)⟩
theorem turned_ask (f g h : Int) (w : World) (f0 : 0 ≤ f) (f1 : f ≤ 4294967300) (g0 : 0 ≤ g) (g1 : g ≤ 4294967300) (h0 : 0 ≤ h) (h1 : h ≤ 4294967300) :
    Calls Try.prog 28 #[.int .i64 f, .int .i64 g, .int .i64 h] w fun e w' => ∃ a b c n r d, fin f g h = askV a b c n r d ∧ e = .returned (.agg #[.int .i64 a, .int .i64 b, .int .i64 c, .bool n, .int .i64 r, .bool d]) ∧ Below w.heap.size w w' := by
  refine (turned_any f g h w f0 f1 g0 g1 h0 h1).mono ?_
  rintro e w' ⟨rfl, hb⟩
  obtain ⟨a, b, c, n, r, d, he⟩ := fin_ask f g h
  exact ⟨a, b, c, n, r, d, he, by rw [he]; rfl, hb⟩
theorem retagg {a b c d e f : Value} {x : Array Value} (h : x = #[a, b, c, d, e, f]) : Ending.returned (.agg #[a, b, c, d, e, f]) = .returned (.agg x) := by rw [h]
set_option maxHeartbeats 1000000 in
theorem rite_any (f g h : Int) (w : World) (f0 : 0 ≤ f) (f1 : f ≤ 4294967296) (g0 : 0 ≤ g) (g1 : g ≤ 4294967296) (h0 : 0 ≤ h) (h1 : h ≤ 4294967296) :
    Calls Try.prog 14 #[.int .i64 f, .int .i64 g, .int .i64 h] w fun r w' => r = .returned (.agg (iteV f g h)) ∧ Below w.heap.size w w' := by
  have nb := nt_bd f f0 f1
  have gb := sg_bd f g g0 g1
  have hb := sh_bd f h h0 h1
  go_enter Try.func14, Try.ntmps14
  go_upto_if 9 with fail
  go_cut [1] (fun s1 wx => wx = (w.alloc (.cells #[.int .i64 0, .int .i64 0, .int .i64 0, .bool false, .int .i64 0, .bool false] 34)) ∧ s1 = .int .i64 (sg f g))
  case first =>
    go_wp2_with (go_at_call 23; refine (rnot_any _ _ (by omega) (by omega)).mono ?_; rintro r w' ⟨rfl, rfl⟩)
    all_goals go_meet
    all_goals go_light
    all_goals refine ⟨rfl, congrArg (Value.int IntKind.i64) ?_⟩
    all_goals grind [sg]
  case rest =>
    obtain ⟨rfl, rfl⟩ := hcut
    go_upto_if 16 with fail
    go_cut [2] (fun s1 wy => wy = (w.alloc (.cells #[.int .i64 0, .int .i64 0, .int .i64 0, .bool false, .int .i64 0, .bool false] 34)) ∧ s1 = .int .i64 (sh f h))
    case first =>
      go_wp2_with (go_at_call 23; refine (rnot_any _ _ (by omega) (by omega)).mono ?_; rintro r w' ⟨rfl, rfl⟩)
      all_goals go_meet
      all_goals go_light
      all_goals refine ⟨rfl, congrArg (Value.int IntKind.i64) ?_⟩
      all_goals grind [sh]
    case rest =>
      obtain ⟨rfl, rfl⟩ := hcut
      go_wp2_with (first | (go_at_call 18; refine (rneg_any _ _ (by omega)).mono ?_; rintro r w' ⟨rfl, rfl⟩) | (go_at_call 23; refine (rnot_any _ _ (by omega) (by omega)).mono ?_; rintro r w' ⟨rfl, rfl⟩) | (go_at_call 28; refine (turned_ask _ _ _ _ (by omega) (by omega) (by omega) (by omega) (by omega) (by omega)).mono ?_; rintro r w1 ⟨ta, tb, tc, tn, tr, td, ht, rfl, hb1⟩; obtain ⟨hc1, hf1⟩ := bcell hb1; have Ht := Lib.hid ht; clear ht))
      all_goals try have ht := Ht.out
      all_goals go_light
      all_goals refine bodyPost_ret (v := .agg #[.int .i64 _, .int .i64 _, .int .i64 _, .bool _, .int .i64 _, .bool _]) (by simp [results, Try.results14, go_sem, *]; exact ⟨rfl, rfl, rfl, rfl, rfl, rfl⟩) rfl ⟨retagg ?_, ?_⟩
      all_goals first
        | ((repeat' (first | (with_reducible exact Below.refl _ _) | (with_reducible refine Below.setCell ?_ ?_ _) | (with_reducible refine Below.alloc ?_ ?_ _) | (with_reducible refine Below.trans ?_ (Below.mono (by assumption) ?_)))); (all_goals simp); done)
        | skip
      all_goals try rw [show f = 0 from by assumption]
      all_goals unfold iteV
      all_goals generalize sg _ g = g' at *
      all_goals generalize sh _ h = h' at *
      all_goals grind [ite', fin, askV, fl]
end Go.Proofs.Ytiigjjjaciliaaa
