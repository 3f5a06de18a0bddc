import Derived.Test.YtiigjjjaciliaaaEdge
import Derived.Deep.DeepCutAuto
import Derived.Deep.CutBlock
import Derived.ChangeKeysEq
namespace Go.Proofs.Ytiigjjjaciliaaa
open Go.ChangeShapes Go.WideShapes Go.ChangeAt Go.RowKit
set_option linter.unusedVariables false
theorem rmeet_any (f g : Int) (w : World) (f0 : 0 ≤ f) (f1 : f ≤ 4294967300) (g0 : 0 ≤ g) (g1 : g ≤ 4294967300) :
    Calls Try.prog 12 #[.int .i64 f, .int .i64 g] w fun r w' => r = .returned (.tuple (meetV f g)) ∧ w = w' := by
  go_enter Try.func12, Try.ntmps12
  go_wp2_with (go_at_call 23; refine (rnot_any _ _ (by omega) (by omega)).mono ?_; rintro r w' ⟨rfl, rfl⟩)
  all_goals go_ret2
  all_goals go_light
  all_goals refine ⟨ret2 (a := .int .i64 _) (b := .bool _) ?_, rfl⟩
  all_goals grind [meetV]
def normV (lo hi : Int) : Array Value := if ng hi = true then #[.int .i64 (nt lo), .int .i64 (nt hi), .bool true] else #[.int .i64 lo, .int .i64 hi, .bool false]
theorem ret3 {a b c : Value} {x : Array Value} (h : x = #[a, b, c]) : Ending.returned (.tuple #[a, b, c]) = .returned (.tuple x) := by rw [h]
theorem norm_any (f g : Int) (w : World) (f0 : 0 ≤ f) (f1 : f ≤ 4294967300) (g0 : 0 ≤ g) (g1 : g ≤ 4294967300) :
    Calls Try.prog 9 #[.int .i64 f, .int .i64 g] w fun r w' => r = .returned (.tuple (normV f g)) ∧ w = w' := by
  go_enter Try.func9, Try.ntmps9
  go_wp2_with (first | (go_at_call 17; refine (neg_any _ _ (by omega)).mono ?_; rintro r w' ⟨rfl, rfl⟩) | (go_at_call 24; refine (flip_any _ _ _ (by omega) (by omega)).mono ?_; rintro r w' ⟨rfl, rfl⟩))
  all_goals go_ret3
  all_goals go_light
  all_goals refine ⟨ret3 (a := .int .i64 _) (b := .int .i64 _) (c := .bool _) ?_, rfl⟩
  all_goals grind [normV, fl]
theorem rnorm_any (f g : Int) (w : World) (f0 : 0 ≤ f) (f1 : f ≤ 4294967300) (g0 : 0 ≤ g) (g1 : g ≤ 4294967300) :
    Calls Try.prog 10 #[.int .i64 f, .int .i64 g] w fun r w' => r = .returned (.tuple (normV f g)) ∧ w = w' := by
  go_enter Try.func10, Try.ntmps10
  go_wp2_with (first | (go_at_call 18; refine (rneg_any _ _ (by omega)).mono ?_; rintro r w' ⟨rfl, rfl⟩) | (go_at_call 23; refine (rnot_any _ _ (by omega) (by omega)).mono ?_; rintro r w' ⟨rfl, rfl⟩))
  all_goals go_ret3
  all_goals go_light
  all_goals refine ⟨ret3 (a := .int .i64 _) (b := .int .i64 _) (c := .bool _) ?_, rfl⟩
  all_goals grind [normV, fl]
def sg (f g : Int) : Int := if g = f then 0 else if g = nt f then 1 else g
def sh (f g : Int) : Int := if g = f then 1 else if g = nt f then 0 else g
def askV (a b c : Int) (n : Bool) (r : Int) (d : Bool) : Array Value := #[.int .i64 a, .int .i64 b, .int .i64 c, .bool n, .int .i64 r, .bool d]
def fin (f g h : Int) : Array Value := if ng g = true then askV f (nt g) (nt h) true 0 false else askV f g h false 0 false
def ite' (f g h : Int) : Array Value :=
  if f = 0 ∨ g = h then askV 0 0 0 false g true
  else if f = 1 then askV 0 0 0 false h true
  else if g = 0 ∧ h = 1 then askV 0 0 0 false f true
  else if g = 1 ∧ h = 0 then askV 0 0 0 false (nt f) true
  else if ng f = true then fin (nt f) h g
  else fin f g h
def iteV (f g h : Int) : Array Value := ite' f (sg f g) (sh f h)
theorem sg_bd (f g : Int) (g0 : 0 ≤ g) (g1 : g ≤ 4294967296) : 0 ≤ sg f g ∧ sg f g ≤ 4294967296 := by unfold sg; split <;> (try split) <;> omega
theorem sh_bd (f g : Int) (g0 : 0 ≤ g) (g1 : g ≤ 4294967296) : 0 ≤ sh f g ∧ sh f g ≤ 4294967296 := by unfold sh; split <;> (try split) <;> omega
theorem info23 : (Try.prog.info? 23).isSome = true := by kernel_rfl
theorem cells23 : Try.prog.cellsOf 23 = 1 := by kernel_rfl
theorem eq_arr2 (W : World) (a b c d : Int) : (Op.equalIn 10000 52 (.agg #[.int .i64 a, .int .i64 b]) (.agg #[.int .i64 c, .int .i64 d])).run Try.prog W = .ok (a == c && b == d) W := by
  obtain ⟨i, hi⟩ := Option.isSome_iff_exists.1 info23
  rw [show (10000 : Nat) = 9999 + 1 from rfl, run_equalIn_array W 9999 _ _ Try.underlying52 hi, cells23]
  simp only [show List.range 2 = [0, 1] from rfl, Op.eqItems]
  cases h1 : (a == c) <;> cases h2 : (b == d) <;> simp [go_sem, h1, h2, part, Try.underlying23]
theorem ret6 {a b c d e f : Value} {x : Array Value} (h : x = #[a, b, c, d, e, f]) : Ending.returned (.tuple #[a, b, c, d, e, f]) = .returned (.tuple x) := by rw [h]
set_option maxHeartbeats 1000000 in
theorem ite_any (f g h : Int) (w : World) (f0 : 0 ≤ f) (f1 : f ≤ 4294967296) (g0 : 0 ≤ g) (g1 : g ≤ 4294967296) (h0 : 0 ≤ h) (h1 : h ≤ 4294967296) :
    Calls Try.prog 27 #[.int .i64 f, .int .i64 g, .int .i64 h] w fun r w' => r = .returned (.tuple (iteV f g h)) ∧ w = w' := by
  have nb := nt_bd f f0 f1
  have gb := sg_bd f g g0 g1
  have hb := sh_bd f h h0 h1
  go_enter Try.func27, Try.ntmps27
  go_upto_block 0 with fail
  go_cut [1] (fun s1 wx => wx = w ∧ s1 = .int .i64 (sg f g))
  case first =>
    go_wp2_with (go_at_call 16; refine (not_any _ _ (by omega) (by omega)).mono ?_; rintro r w' ⟨rfl, rfl⟩)
    all_goals go_meet
    all_goals go_light
    all_goals refine ⟨rfl, congrArg (Value.int IntKind.i64) ?_⟩
    all_goals grind [sg]
  case rest =>
    obtain ⟨rfl, rfl⟩ := hcut
    go_upto_block 1 with fail
    go_cut [2] (fun s1 wy => wy = wc ∧ s1 = .int .i64 (sh f h))
    case first =>
      go_wp2_with (go_at_call 16; refine (not_any _ _ (by omega) (by omega)).mono ?_; rintro r w' ⟨rfl, rfl⟩)
      all_goals go_meet
      all_goals go_light
      all_goals refine ⟨rfl, congrArg (Value.int IntKind.i64) ?_⟩
      all_goals grind [sh]
    case rest =>
      obtain ⟨rfl, rfl⟩ := hcut
      have heq := eq_arr2
      go_wp2_with (first | (go_at_call 17; refine (neg_any _ _ (by omega)).mono ?_; rintro r w' ⟨rfl, rfl⟩) | (go_at_call 24; refine (flip_any _ _ _ (by omega) (by omega)).mono ?_; rintro r w' ⟨rfl, rfl⟩) | (go_at_call 16; refine (not_any _ _ (by omega) (by omega)).mono ?_; rintro r w' ⟨rfl, rfl⟩))
      all_goals go_light
      all_goals refine bodyPost_ret (v := .tuple #[.int .i64 _, .int .i64 _, .int .i64 _, .bool _, .int .i64 _, .bool _]) (by simp [results, Try.results27, go_sem]; exact ⟨rfl, rfl, rfl, rfl, rfl, rfl⟩) rfl ⟨ret6 ?_, rfl⟩
      all_goals try rw [show f = 0 from by assumption]
      all_goals unfold iteV
      all_goals generalize sg _ g = g' at *
      all_goals generalize sh _ h = h' at *
      all_goals grind [ite', fin, askV, fl]
end Go.Proofs.Ytiigjjjaciliaaa
