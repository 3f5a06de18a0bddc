/- EdgePairs: for every input the law returns true, and the input reads behind the call as it read before. No condition. -/
import Derived.Test.YtiigjjjaciliaaaRows
import Derived.WalkKit
import Derived.ProofKit
import Derived.OpenShut
import Derived.Test.YtiigjjjaciliaaaPost
import Derived.Test.YtiigjjjaciliaaaT3
namespace Go.Proofs.Ytiigjjjaciliaaa.edgePairs
open Go.ChangeShapes Go.WideShapes Go.ChangeAt Go.RowKit
set_option linter.unusedVariables false

theorem own : ownKnob Try.prog.godebug = none := by kernel_rfl

theorem walk (a0 : Int) (a1 : Int) (w0 : (Lit.int .i64 a0).wf = true) (w1 : (Lit.int .i64 a1).wf = true) (w : World) :
    Calls Try.prog 3 #[.int .i64 a0, .int .i64 a1] w fun e w' => e = .returned (.bool true) ∧ Below w.heap.size w w' := by
  by_cases f0 : a0 < 0
  · go_enter Try.func3, Try.ntmps3
    go_wp2_with (go_at_call 8; refine (lives_any _).mono ?_; rintro r w1 ⟨rfl, hb1⟩)
    go_ret
    exact ⟨rfl, by assumption⟩
  by_cases g0 : a1 < 0
  · go_enter Try.func3, Try.ntmps3
    go_wp2_with (go_at_call 8; refine (lives_any _).mono ?_; rintro r w1 ⟨rfl, hb1⟩)
    go_ret
    exact ⟨rfl, by assumption⟩
  by_cases f1 : 4294967296 < a0
  · go_enter Try.func3, Try.ntmps3
    go_wp2_with (go_at_call 8; refine (lives_any _).mono ?_; rintro r w1 ⟨rfl, hb1⟩)
    go_ret
    exact ⟨rfl, by assumption⟩
  by_cases g1 : 4294967296 < a1
  · go_enter Try.func3, Try.ntmps3
    go_wp2_with (go_at_call 8; refine (lives_any _).mono ?_; rintro r w1 ⟨rfl, hb1⟩)
    go_ret
    exact ⟨rfl, by assumption⟩
  obtain ⟨n1, n2, n3, hn⟩ : ∃ a b c, normV a0 a1 = #[.int .i64 a, .int .i64 b, .bool c] := by
    unfold normV; split <;> exact ⟨_, _, _, rfl⟩
  obtain ⟨m1, m2, hm⟩ : ∃ a b, meetV a0 a1 = #[.int .i64 a, .bool b] := by
    unfold meetV; repeat' split
    all_goals exact ⟨_, _, rfl⟩
  have c1 := fun w => norm_any a0 a1 w (by omega) (by omega) (by omega) (by omega)
  have c2 := fun w => rnorm_any a0 a1 w (by omega) (by omega) (by omega) (by omega)
  have c3 := fun w => meet_any a0 a1 w (by omega) (by omega) (by omega) (by omega)
  have c4 := fun w => rmeet_any a0 a1 w (by omega) (by omega) (by omega) (by omega)
  rw [hn] at c1 c2
  rw [hm] at c3 c4
  have C1 := Lib.hid c1
  have C2 := Lib.hid c2
  have C3 := Lib.hid c3
  have C4 := Lib.hid c4
  clear c1 c2 c3 c4 hn hm
  go_enter Try.func3, Try.ntmps3
  go_wp2_with (first | (go_at_call 9; refine (C1.out _).mono ?_; rintro r w' ⟨rfl, rfl⟩) | (go_at_call 10; refine (C2.out _).mono ?_; rintro r w' ⟨rfl, rfl⟩) | (go_at_call 11; refine (C3.out _).mono ?_; rintro r w' ⟨rfl, rfl⟩) | (go_at_call 12; refine (C4.out _).mono ?_; rintro r w' ⟨rfl, rfl⟩) | (go_at_call 8; refine (lives_any _).mono ?_; rintro r w1 ⟨rfl, hb1⟩))
  go_ret
  exact ⟨rfl, by assumption⟩

set_option maxRecDepth 100000 in
theorem lifted (os : Os) (started : os.Started) (H : Type) (enc : TypeId × Value → H) :
    ReturnsInHanded {} Try.checked os 3 .any (Rows.edgePairsSpec.pre6 enc Try.prog Try.f3 Rows.edgePairsRow.domain false) (Rows.edgePairsSpec.post enc Try.prog Try.f3 false true false false) := by
  refine returnsInHanded_of_change (C := Try.checked) own started (by kernel_rfl) Try.func3
    (ChangeSpec.witness6 (enc := enc) (C := Try.checked) false ⟨#[], #[.int .i64 0, .int .i64 0], []⟩ 8 (by kernel_rfl) (by kernel_rfl) (by kernel_rfl) (by kernel_rfl)) ?_
  intro W base args ds gs before hval0 hW hcnd _
  have hval : ∀ (j : Nat) t v, Try.f3.params[j]? = some t → args[j]? = some v → Value.okWide Try.prog W .any base t v := hval0
  have hW' := hW
  obtain ⟨p, q, hA0, hV, rfl, hfz, hnd⟩ := hW
  have hA : DataW.TrodAll enc Try.prog W 0 (fun _ => true) true Try.f3.params.toList args.toList ds p := hA0
  rw [Try.params3] at hA hval
  obtain ⟨v0, vs0, d0, ds0, p0, q0, hargs, rfl, rfl, h0, r0⟩ := trodAll_cons hA
  obtain ⟨v1, vs1, d1, ds1, p1, q1, rfl, rfl, rfl, h1, r1⟩ := trodAll_cons r0
  obtain ⟨rfl, rfl, rfl⟩ := trodAll_nil r1
  obtain rfl : args = #[v0, v1] := by cases args; simp_all
  obtain ⟨rfl, rfl⟩ := trodVars_none hV
  obtain ⟨a0, rfl, rfl, rfl, w0⟩ := open_int Try.underlying3 (hval 0 3 v0 rfl rfl) h0
  obtain ⟨a1, rfl, rfl, rfl, w1⟩ := open_int Try.underlying3 (hval 1 3 v1 rfl rfl) h1
  clear hA0 hval0
  simp only [List.append_nil] at hW'
  refine (walk a0 a1 w0 w1 W).mono fun e W' ⟨he, hg⟩ => ?_
  subst he
  exact ⟨_, rfl, post_of_below (pa := []) (pv := []) hW' (fun _ _ _ => (trodAll_cons_mk (shut_bool Try.underlying4 _) trodAll_mk0)) (fun sp _ => (trodAll_cons_mk (shut_int Try.underlying3 w0) (trodAll_cons_mk (shut_int Try.underlying3 w1) trodAll_mk0))) (fun _ _ => rfl) rfl
    hg (ok_one (by kernel_rfl) rfl (okWide_bool_mk Try.underlying4 _))⟩

theorem over : Rows.edgePairsRow.holds Try.pinned (OpenSpec.ofChange Rows.edgePairsSpec) :=
  OpenClaim.holds_of_wide 3 Try.f3 rfl rfl rfl rfl rfl rfl rfl ⟨rfl, rfl, rfl, rfl, rfl⟩ rfl rfl rfl rfl rfl (by kernel_rfl) Try.func3 (by kernel_rfl)
    (of_decide_eq_true (by kernel_rfl)) (by unfold Func.isWrapper; first | (rw [if_pos (by decide +kernel)]; kernel_rfl) | (rw [if_neg (by decide +kernel)]; exact ⟨rfl, rfl⟩))
    (fun os started H enc _ => lifted os started H enc)

theorem proved : Rows.EdgePairsSaid :=
  over
#print axioms proved
end Go.Proofs.Ytiigjjjaciliaaa.edgePairs
