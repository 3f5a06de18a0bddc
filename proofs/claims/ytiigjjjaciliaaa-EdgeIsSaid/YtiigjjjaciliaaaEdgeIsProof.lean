/- EdgeIs: for every input the law returns true, and the input reads behind the call as it read before. No condition. -/
import Derived.Test.YtiigjjjaciliaaaRows
import Derived.WalkKit
import Derived.ProofKit
import Derived.OpenShut
import Derived.Test.YtiigjjjaciliaaaPost
import Derived.Test.YtiigjjjaciliaaaT4
namespace Go.Proofs.Ytiigjjjaciliaaa.edgeIs
open Go.ChangeShapes Go.WideShapes Go.ChangeAt Go.RowKit
set_option linter.unusedVariables false

theorem own : ownKnob Try.prog.godebug = none := by kernel_rfl

theorem walk (a0 : Int) (a1 : Bool) (a2 : Int) (w0 : (Lit.int .i64 a0).wf = true) (w2 : (Lit.int .i64 a2).wf = true) (w : World) :
    Calls Try.prog 6 #[.int .i64 a0, .bool a1, .int .i64 a2] w fun e w' => e = .returned (.bool true) ∧ Below w.heap.size w w' := by
  by_cases n1 : 1073741824 < a0
  · go_enter Try.func6, Try.ntmps6
    go_wp2_with (go_at_call 8; refine (lives_any _).mono ?_; rintro r w1 ⟨rfl, hb1⟩)
    go_ret
    exact ⟨rfl, by assumption⟩
  by_cases e1 : 4294967296 < a2
  · go_enter Try.func6, Try.ntmps6
    go_wp2_with (go_at_call 8; refine (lives_any _).mono ?_; rintro r w1 ⟨rfl, hb1⟩)
    go_ret
    exact ⟨rfl, by assumption⟩
  have c1 := fun w => of_any a0 a1 w (by omega)
  have c2 := fun w => rof_any a0 a1 w (by omega)
  have C1 := Lib.hid c1
  have C2 := Lib.hid c2
  clear c1 c2
  by_cases e0 : a2 < 0
  · go_enter Try.func6, Try.ntmps6
    go_wp2_with (first | (go_at_call 19; refine (C1.out _).mono ?_; rintro r w' ⟨rfl, rfl⟩) | (go_at_call 20; refine (C2.out _).mono ?_; rintro r w' ⟨rfl, rfl⟩) | (go_at_call 21; refine (node_neg _ _ (by omega)).mono ?_; rintro r w' ⟨rfl, rfl⟩) | (go_at_call 22; refine (rnode_neg _ _ (by omega)).mono ?_; rintro r w' ⟨rfl, rfl⟩) | (go_at_call 17; refine (neg_neg _ _ (by omega)).mono ?_; rintro r w' ⟨rfl, rfl⟩) | (go_at_call 18; refine (rneg_neg _ _ (by omega)).mono ?_; rintro r w' ⟨rfl, rfl⟩) | (go_at_call 8; refine (lives_any _).mono ?_; rintro r w3 ⟨rfl, hb3⟩))
    go_ret
    exact ⟨rfl, by assumption⟩
  · go_enter Try.func6, Try.ntmps6
    go_wp2_with (first | (go_at_call 19; refine (C1.out _).mono ?_; rintro r w' ⟨rfl, rfl⟩) | (go_at_call 20; refine (C2.out _).mono ?_; rintro r w' ⟨rfl, rfl⟩) | (go_at_call 21; refine (node_any _ _ (by omega) (by omega)).mono ?_; rintro r w' ⟨rfl, rfl⟩) | (go_at_call 22; refine (rnode_any _ _ (by omega) (by omega)).mono ?_; rintro r w' ⟨rfl, rfl⟩) | (go_at_call 17; refine (neg_any _ _ (by omega)).mono ?_; rintro r w' ⟨rfl, rfl⟩) | (go_at_call 18; refine (rneg_any _ _ (by omega)).mono ?_; rintro r w' ⟨rfl, rfl⟩) | (go_at_call 16; refine (not_any _ _ (by omega) (by omega)).mono ?_; rintro r w' ⟨rfl, rfl⟩) | (go_at_call 23; refine (rnot_any _ _ (by omega) (by omega)).mono ?_; rintro r w' ⟨rfl, rfl⟩) | (go_at_call 24; refine (flip_any _ _ _ (by omega) (by omega)).mono ?_; rintro r w' ⟨rfl, rfl⟩) | (go_at_call 25; refine (rflip_any _ _ _ (by omega) (by omega)).mono ?_; rintro r w' ⟨rfl, rfl⟩) | (go_at_call 26; refine (const_any _ _ (by omega) (by omega)).mono ?_; rintro r w' ⟨rfl, rfl⟩) | (go_at_call 8; refine (lives_any _).mono ?_; rintro r w3 ⟨rfl, hb3⟩))
    go_ret
    exact ⟨rfl, by assumption⟩

set_option maxRecDepth 100000 in
theorem lifted (os : Os) (started : os.Started) (H : Type) (enc : TypeId × Value → H) :
    ReturnsInHanded {} Try.checked os 6 .any (Rows.edgeIsSpec.pre6 enc Try.prog Try.f6 Rows.edgeIsRow.domain false) (Rows.edgeIsSpec.post enc Try.prog Try.f6 false true false false) := by
  refine returnsInHanded_of_change (C := Try.checked) own started (by kernel_rfl) Try.func6
    (ChangeSpec.witness6 (enc := enc) (C := Try.checked) false ⟨#[], #[.int .i64 0, .bool false, .int .i64 0], []⟩ 8 (by kernel_rfl) (by kernel_rfl) (by kernel_rfl) (by kernel_rfl)) ?_
  intro W base args ds gs before hval0 hW hcnd _
  have hval : ∀ (j : Nat) t v, Try.f6.params[j]? = some t → args[j]? = some v → Value.okWide Try.prog W .any base t v := hval0
  have hW' := hW
  obtain ⟨p, q, hA0, hV, rfl, hfz, hnd⟩ := hW
  have hA : DataW.TrodAll enc Try.prog W 0 (fun _ => true) true Try.f6.params.toList args.toList ds p := hA0
  rw [Try.params6] at hA hval
  obtain ⟨v0, vs0, d0, ds0, p0, q0, hargs, rfl, rfl, h0, r0⟩ := trodAll_cons hA
  obtain ⟨v1, vs1, d1, ds1, p1, q1, rfl, rfl, rfl, h1, r1⟩ := trodAll_cons r0
  obtain ⟨v2, vs2, d2, ds2, p2, q2, rfl, rfl, rfl, h2, r2⟩ := trodAll_cons r1
  obtain ⟨rfl, rfl, rfl⟩ := trodAll_nil r2
  obtain rfl : args = #[v0, v1, v2] := by cases args; simp_all
  obtain ⟨rfl, rfl⟩ := trodVars_none hV
  obtain ⟨a0, rfl, rfl, rfl, w0⟩ := open_int Try.underlying3 (hval 0 3 v0 rfl rfl) h0
  obtain ⟨a1, rfl, rfl, rfl⟩ := open_bool Try.underlying4 (hval 1 4 v1 rfl rfl) h1
  obtain ⟨a2, rfl, rfl, rfl, w2⟩ := open_int Try.underlying3 (hval 2 3 v2 rfl rfl) h2
  clear hA0 hval0
  simp only [List.append_nil] at hW'
  refine (walk a0 a1 a2 w0 w2 W).mono fun e W' ⟨he, hg⟩ => ?_
  subst he
  exact ⟨_, rfl, post_of_below (pa := []) (pv := []) hW' (fun _ _ _ => (trodAll_cons_mk (shut_bool Try.underlying4 _) trodAll_mk0)) (fun sp _ => (trodAll_cons_mk (shut_int Try.underlying3 w0) (trodAll_cons_mk (shut_bool Try.underlying4 _) (trodAll_cons_mk (shut_int Try.underlying3 w2) trodAll_mk0)))) (fun _ _ => rfl) rfl
    hg (ok_one (by kernel_rfl) rfl (okWide_bool_mk Try.underlying4 _))⟩

theorem over : Rows.edgeIsRow.holds Try.pinned (OpenSpec.ofChange Rows.edgeIsSpec) :=
  OpenClaim.holds_of_wide 6 Try.f6 rfl rfl rfl rfl rfl rfl rfl ⟨rfl, rfl, rfl, rfl, rfl⟩ rfl rfl rfl rfl rfl (by kernel_rfl) Try.func6 (by kernel_rfl)
    (of_decide_eq_true (by kernel_rfl)) (by unfold Func.isWrapper; first | (rw [if_pos (by decide +kernel)]; kernel_rfl) | (rw [if_neg (by decide +kernel)]; exact ⟨rfl, rfl⟩))
    (fun os started H enc _ => lifted os started H enc)

theorem proved : Rows.EdgeIsSaid :=
  over
#print axioms proved
end Go.Proofs.Ytiigjjjaciliaaa.edgeIs
