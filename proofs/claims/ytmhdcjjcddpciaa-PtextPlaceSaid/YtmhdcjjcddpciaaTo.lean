/- ptext: what a text is read as; the deferred closure of Parse. -/
import Derived.Test.YtmhdcjjcddpciaaTn
import Derived.Defers
import Derived.Recover
namespace Go.Proofs.Ytmhdcjjcddpciaa
set_option linter.unusedSimpArgs false
set_option linter.unusedVariables false
open Go.RowKit
mutual
def PT.tr : PT → Tr
  | .mk op var ks => .mk op var none 0 (PT.trs ks)
def PT.trs : List PT → List Tr
  | [] => []
  | k :: ks => k.tr :: PT.trs ks
end
theorem trs_length (t : List Tr) : (PT.trs (Tr.pures t)).length = t.length := by
  induction t with
  | nil => rfl
  | cons k ks ih => simp [Tr.pures, PT.trs, ih]
theorem partE_pure (t : Tr) (d n : Int) : partE t.pure.tr d n = partE t d n := by
  cases t with
  | mk op var A cap ks =>
    have : (Tr.mk op var A cap ks).pure.tr.wrong = (Tr.mk op var A cap ks).wrong := by
      rw [Tr.pure, PT.tr]
      unfold Tr.wrong
      show wrongP op var (PT.trs (Tr.pures ks)).length = wrongP op var ks.length
      rw [trs_length]
    unfold partE
    rw [this]
mutual
theorem rchk_pure : ∀ (t : Tr) (d n : Int), rchk t.pure.tr d n = rchk t d n
  | .mk op var A cap ks, d, n => by
    have h := partE_pure (.mk op var A cap ks) d (wrap64 (n + 1))
    rw [rchk_eq, rchk_eq, h]
    simp only [Tr.pure, PT.tr, Tr.kids]
    rw [rchks_pure ks]
theorem rchks_pure : ∀ (l : List Tr) (d n : Int), rchks (PT.trs (Tr.pures l)) d n = rchks l d n
  | [], d, n => rfl
  | k :: ks, d, n => by
    rw [Tr.pures, PT.trs, rchks, rchks, rchk_pure k d n, rchks_pure ks]
end
mutual
theorem same_pure : ∀ (t u : Tr), t.pure = u.pure → t.same u = true
  | .mk op var A cap ks, .mk op' var' A' cap' ks', h => by
    rw [Tr.pure, Tr.pure] at h
    injection h with h1 h2 h3
    obtain ⟨h4, h5⟩ := sames_pure ks ks' h3
    rw [Tr.same]
    simp [Tr.op, Tr.var, Tr.kids, h1, h2, h4, h5]
theorem sames_pure : ∀ (l m : List Tr), Tr.pures l = Tr.pures m → l.length = m.length ∧ Tr.sames l m = true
  | [], [], _ => ⟨rfl, rfl⟩
  | [], _ :: _, h => by rw [Tr.pures, Tr.pures] at h; cases h
  | _ :: _, [], h => by rw [Tr.pures, Tr.pures] at h; cases h
  | k :: ks, u :: us, h => by
    rw [Tr.pures, Tr.pures] at h
    injection h with h1 h2
    obtain ⟨h4, h5⟩ := sames_pure ks us h2
    rw [Tr.sames, same_pure k u h1, h5]
    exact ⟨by simp [h4], rfl⟩
end
/-- The first error of a tree without addresses. -/
def pchk (p : PT) : Int := (rchk p.tr 1 0).1
theorem pchk_pure {t : Tr} {p : PT} (h : t.pure = p) : (rchk t 1 0).1 = pchk p := by subst h; unfold pchk; rw [rchk_pure]
def zeroP : PT := .mk 0 0 []
/-- What a text is read as: tree, offset, error. -/
def pres (l : List Nat) : PT × Nat × Int :=
  if 65536 < l.length then (zeroP, 0, 4) else
  match pex l (l.length + 1) 0 with
  | ⟨none, b⟩ => (zeroP, b, 3)
  | ⟨some p, b⟩ => if b < l.length then (zeroP, b, 3) else if pchk p = 0 then (p, l.length, 0) else (zeroP, 0, pchk p)
/-- What both hand back. -/
def ResV (J : PH) (v : Value) (r : PT × Nat × Int) : Prop := ∃ t : Tr, v = .tuple #[.agg #[.int .i64 t.op, .int .i64 t.var, .slice t.A t.kids.length t.cap], .int .i64 r.2.1, .int .i64 r.2.2] ∧ t.pure = r.1 ∧ In J t
theorem ResV.zero (J : PH) (a : Nat) (e : Int) : ResV J (.tuple #[.agg #[.int .i64 0, .int .i64 0, .slice none 0 0], .int .i64 a, .int .i64 e]) (zeroP, a, e) := ⟨.mk 0 0 none 0 [], rfl, rfl, in_leaf_ _ _ _ _⟩
/-- Three results, each a variable of the call's own: several cells, one, one. -/
theorem ret_cellN11 {P : Program} {fn : Func} {p q r : Tmp} {T U V : TypeId} {tmps : Array Value} {w E : World} {I : PH} {ms : List PH} (k l m : Nat) (hS : Sat E I ms w) (h : fn.results = #[.cell p T, .cell q U, .cell r V]) {X Y Z : Nat} {c d e : Array Value} {T' U' V' : TypeId} {z y x : Nat × Nat} {u v : Value}
    (hp : tmps.getD p undef = .pointer (some ⟨X, 0, none⟩)) (hq : tmps.getD q undef = .pointer (some ⟨Y, 0, none⟩)) (hr : tmps.getD r undef = .pointer (some ⟨Z, 0, none⟩)) (hk : ms[k]? = some (PH.one X (.cells c T' z))) (hl : ms[l]? = some (PH.one Y (.cells d U' y))) (hm : ms[m]? = some (PH.one Z (.cells e V' x)))
    (ha : aggB P T = some true) (hsz : sizeB P T = some c.size) (hb : aggB P U = some false) (hc : aggB P V = some false) (hu : d.toList[0]? = some u) (hv : e.toList[0]? = some v) : (results fn tmps).run P w = .ok (.tuple #[.agg c, u, v]) w := by
  have h0 := run_loadN (P := P) (hS.mle hk) ha (Cells.one X c T' z) (by rw [hsz]; simp)
  have h1 := run_load1 (P := P) (hS.mle hl) hb (X := Y) (off := 0) (v := u) (by simp only [PH.at, PH.one_self]; rw [← hu]; simp)
  have h2 := run_load1 (P := P) (hS.mle hm) hc (X := Z) (off := 0) (v := v) (by simp only [PH.at, PH.one_self]; rw [← hv]; simp)
  simp only [Instr.loadAt, Instr.sureAddr, Sem.run_bind, Sem.run_pure, Result.andThen_ok] at h0 h1 h2
  rw [Array.getD_eq_getD_getElem?] at hp hq hr
  simp [results, h, hp, hq, hr, asAddr, h0, h1, h2]
/-- One result a variable of the call's own, of several cells; two plain ones. -/
theorem ret_cellNtt {P : Program} {fn : Func} (p q r : Tmp) {T : TypeId} {tmps : Array Value} {w E : World} {I : PH} {ms : List PH} (k : Nat) (hS : Sat E I ms w) (h : fn.results = #[.cell p T, .tmp q, .tmp r]) {X : Nat} {c : Array Value} {T' : TypeId} {z : Nat × Nat} {u v : Value}
    (hp : tmps.getD p undef = .pointer (some ⟨X, 0, none⟩)) (hq : tmps.getD q undef = u) (hr : tmps.getD r undef = v) (hk : ms[k]? = some (PH.one X (.cells c T' z)))
    (ha : aggB P T = some true) (hsz : sizeB P T = some c.size) : (results fn tmps).run P w = .ok (.tuple #[.agg c, u, v]) w := by
  have h0 := run_loadN (P := P) (hS.mle hk) ha (Cells.one X c T' z) (by rw [hsz]; simp)
  simp only [Instr.loadAt, Instr.sureAddr, Sem.run_bind, Sem.run_pure, Result.andThen_ok] at h0
  rw [Array.getD_eq_getD_getElem?] at hp hq hr
  simp [results, h, hp, hq, hr, asAddr, h0]
set_option maxHeartbeats 2000000 in
set_option maxRecDepth 100000 in
/-- The closure, where the reading has failed. -/
theorem catch_wrong (E : World) (I : PH) (ms : List PH) (XE XA XR : Nat) (b : Int) (c0 c1 c2 a0 r0 : Value) (w : World) (hS : Sat E I (PH.one XR (.cells #[r0] 26) :: PH.one XA (.cells #[a0] 3) :: PH.one XE (.cells #[c0, c1, c2] 25) :: ms) w) :
    CallsD Try.prog 14 #[.pointer (some ⟨XE, 0, none⟩), .pointer (some ⟨XA, 0, none⟩), .pointer (some ⟨XR, 0, none⟩)] (.panicking [{ v := .iface 41 (.int .i64 b), recovered := false }]) w fun e u' w' =>
      e = .returned (.tuple #[]) ∧ u' = .panicking [{ v := .iface 41 (.int .i64 b), recovered := true }] ∧ Sat E I (PH.one XR (.cells #[.int .i64 3] 26) :: PH.one XA (.cells #[.int .i64 b] 3) :: PH.one XE (.cells #[.int .i64 0, .int .i64 0, .slice none 0 0] 25) :: ms) w' := by
  refine callsD_of_wpS Try.func14 rfl fun c₀ cs hu => ?_
  have hta : ∀ w : World, (Instr.typeAssert (.iface 41 (.int .i64 b)) 20 41 true).run Try.prog w = .ok (.tuple #[.int .i64 b, .bool true]) w := fun _ => by kernel_rfl
  simp only [Try.ntmps14, List.size_toArray, List.length_cons, List.length_nil, Nat.reduceAdd, Nat.reduceSub, Array.replicate_succ, Array.replicate_zero, List.push_toArray, List.append_toArray, List.nil_append, List.cons_append]
  apply wpS_seq
  apply wpS_region
  simp [wpOpsS, go_sem, recoverD, hu, Exit.thenS]
  refine wpS_of_wp ?_
  go_wp2_with (first | ((with_reducible refine atList ?_); first | ((with_reducible refine isGuard ?_); first | go_skip | (refine guarded_yes ?hw ?_; case hw => (simp only [Region.wanted, yielded, List.getElem?_toArray, List.getElem?_cons_succ, List.getElem?_cons_zero, Option.bind_some, beq_self_eq_true]; done)) | ((refine' guarded_cases (b := _) ?hy ?_ ?_); (case hy => (simp only [yielded, List.getElem?_toArray, List.getElem?_cons_succ, List.getElem?_cons_zero, Option.bind_some]; exact rfl)); all_goals (intro hb; (try simp only [Bool.not_true, Bool.not_false] at hb); (try simp only [hb]); (try simp only [Act.put, List.setIfInBounds_toArray, List.set_cons_succ, List.set_cons_zero]); first | ((have hf : False := by (simp at hb; done)); cases hf) | ((have hf : False := by (simp at hb; omega)); cases hf) | skip))) | ((with_reducible refine isLoad ?_); first | (refine ld1 0 hS rfl rfl ?ha rfl rfl rfl ?_; (case ha => first | exact ty_agg3 | exact ty_agg26); (try simp only [Act.put, List.setIfInBounds_toArray, List.set_cons_succ, List.set_cons_zero])) | (refine ld1 1 hS rfl rfl ?ha rfl rfl rfl ?_; (case ha => first | exact ty_agg3 | exact ty_agg26); (try simp only [Act.put, List.setIfInBounds_toArray, List.set_cons_succ, List.set_cons_zero])) | (refine ld1 2 hS rfl rfl ?ha rfl rfl rfl ?_; (case ha => first | exact ty_agg3 | exact ty_agg26); (try simp only [Act.put, List.setIfInBounds_toArray, List.set_cons_succ, List.set_cons_zero])) | (refine ldN 0 hS rfl rfl ?ha rfl rfl ?hb ?_; (case ha => first | exact ty_agg25); (case hb => first | exact ty_sz25); (try simp only [Act.put, List.setIfInBounds_toArray, List.set_cons_succ, List.set_cons_zero])) | (refine ldN 1 hS rfl rfl ?ha rfl rfl ?hb ?_; (case ha => first | exact ty_agg25); (case hb => first | exact ty_sz25); (try simp only [Act.put, List.setIfInBounds_toArray, List.set_cons_succ, List.set_cons_zero])) | (refine ldN 2 hS rfl rfl ?ha rfl rfl ?hb ?_; (case ha => first | exact ty_agg25); (case hb => first | exact ty_sz25); (try simp only [Act.put, List.setIfInBounds_toArray, List.set_cons_succ, List.set_cons_zero])) | ((refine' ldI1 (v := _) hS rfl rfl ?ha rfl ?hb ?_); (case ha => first | exact ty_agg3 | exact ty_agg26); (case hb => assumption); (try simp only [Act.put, List.setIfInBounds_toArray, List.set_cons_succ, List.set_cons_zero])) | ((refine' ldIN (vs := _) hS rfl rfl ?ha rfl ?hc ?hb ?_); (case ha => first | exact ty_agg25); (case hc => assumption); (case hb => first | exact ty_sz25); (try simp only [Act.put, List.setIfInBounds_toArray, List.set_cons_succ, List.set_cons_zero]))) | ((with_reducible refine isStore ?_); first | (refine st1 0 hS rfl rfl rfl rfl rfl ?ha rfl rfl ?hb ?_; (case ha => first | exact ty_sz3 | exact ty_sz26); (case hb => (simp; done)); clear hS; intro w hS; (try simp only [List.set_cons_succ, List.set_cons_zero, List.setIfInBounds_toArray, Act.eval, Array.getD_eq_getD_getElem?, List.getElem?_toArray, List.getElem?_cons_succ, List.getElem?_cons_zero, Option.getD_some, Value.cells] at hS); (try simp only [Act.put, List.setIfInBounds_toArray, List.set_cons_succ, List.set_cons_zero])) | (refine st1 1 hS rfl rfl rfl rfl rfl ?ha rfl rfl ?hb ?_; (case ha => first | exact ty_sz3 | exact ty_sz26); (case hb => (simp; done)); clear hS; intro w hS; (try simp only [List.set_cons_succ, List.set_cons_zero, List.setIfInBounds_toArray, Act.eval, Array.getD_eq_getD_getElem?, List.getElem?_toArray, List.getElem?_cons_succ, List.getElem?_cons_zero, Option.getD_some, Value.cells] at hS); (try simp only [Act.put, List.setIfInBounds_toArray, List.set_cons_succ, List.set_cons_zero])) | (refine st1 2 hS rfl rfl rfl rfl rfl ?ha rfl rfl ?hb ?_; (case ha => first | exact ty_sz3 | exact ty_sz26); (case hb => (simp; done)); clear hS; intro w hS; (try simp only [List.set_cons_succ, List.set_cons_zero, List.setIfInBounds_toArray, Act.eval, Array.getD_eq_getD_getElem?, List.getElem?_toArray, List.getElem?_cons_succ, List.getElem?_cons_zero, Option.getD_some, Value.cells] at hS); (try simp only [Act.put, List.setIfInBounds_toArray, List.set_cons_succ, List.set_cons_zero])) | (refine stN 0 hS rfl rfl rfl rfl rfl ?ha rfl rfl ?_; (case ha => first | exact ty_sz25); clear hS; intro w hS; (try simp only [List.set_cons_succ, List.set_cons_zero, List.setIfInBounds_toArray, Act.eval, Array.getD_eq_getD_getElem?, List.getElem?_toArray, List.getElem?_cons_succ, List.getElem?_cons_zero, Option.getD_some, Value.cells] at hS); (try simp only [Act.put, List.setIfInBounds_toArray, List.set_cons_succ, List.set_cons_zero])) | (refine stN 1 hS rfl rfl rfl rfl rfl ?ha rfl rfl ?_; (case ha => first | exact ty_sz25); clear hS; intro w hS; (try simp only [List.set_cons_succ, List.set_cons_zero, List.setIfInBounds_toArray, Act.eval, Array.getD_eq_getD_getElem?, List.getElem?_toArray, List.getElem?_cons_succ, List.getElem?_cons_zero, Option.getD_some, Value.cells] at hS); (try simp only [Act.put, List.setIfInBounds_toArray, List.set_cons_succ, List.set_cons_zero])) | (refine stN 2 hS rfl rfl rfl rfl rfl ?ha rfl rfl ?_; (case ha => first | exact ty_sz25); clear hS; intro w hS; (try simp only [List.set_cons_succ, List.set_cons_zero, List.setIfInBounds_toArray, Act.eval, Array.getD_eq_getD_getElem?, List.getElem?_toArray, List.getElem?_cons_succ, List.getElem?_cons_zero, Option.getD_some, Value.cells] at hS); (try simp only [Act.put, List.setIfInBounds_toArray, List.set_cons_succ, List.set_cons_zero]))) | ((with_reducible refine isBox ?_); refine bx hS rfl rfl rfl ?_; clear hS; intro X w hS; (try simp only [Act.eval, Array.getD_eq_getD_getElem?, List.getElem?_toArray, List.getElem?_cons_succ, List.getElem?_cons_zero, Option.getD_some, Value.cells] at hS); (try simp only [Act.put, List.setIfInBounds_toArray, List.set_cons_succ, List.set_cons_zero])) | ((with_reducible refine isAlloc ?_); (refine' al (z := _) hS rfl rfl ?ha ?_); (case ha => first | exact ty_z25 | exact ty_z3 | exact ty_z26); clear hS; intro X w hS; (try simp only [Act.eval, Array.getD_eq_getD_getElem?, List.getElem?_toArray, List.getElem?_cons_succ, List.getElem?_cons_zero, Option.getD_some, Value.cells] at hS); (try simp only [Act.put, List.setIfInBounds_toArray, List.set_cons_succ, List.set_cons_zero]))))
  simp [bodyPostS, results, Try.results14]
  exact hS
set_option maxHeartbeats 2000000 in
set_option maxRecDepth 100000 in
/-- The closure, where nothing is wrong. -/
theorem catch_idle (x y z : Value) (w : World) :
    CallsD Try.prog 14 #[x, y, z] .returning w fun e u' w' => e = .returned (.tuple #[]) ∧ u' = .returning ∧ w' = w := by
  refine callsD_of_wpS Try.func14 rfl fun c₀ cs hu => ?_
  simp only [Try.ntmps14, List.size_toArray, List.length_cons, List.length_nil, Nat.reduceAdd, Nat.reduceSub, Array.replicate_succ, Array.replicate_zero, List.push_toArray, List.append_toArray, List.nil_append, List.cons_append]
  apply wpS_seq
  apply wpS_region
  simp [wpOpsS, go_sem, recoverD, hu, Exit.thenS]
  refine wpS_of_wp ?_
  go_wp2_with fail
  cases c₀
  simp_all [bodyPostS, results, Try.results14]
section
variable {P : Program} {fn : Func} {R : Ending → World → Prop} {a : Act} {w : World} {v : Value} {fv : Fn} {cap dargs : Array Value} {f : FuncId} {args : Array Value}
theorem postD_ret (hd : a.defers = []) (h : (results fn a.tmps).run P w = .ok v w) (hR : R (.returned v) w) : bodyPostD P fn R .ret a w := by
  show Leaves P fn a.tmps R a.defers .returning w
  rw [hd]; exact ⟨v, h, hR⟩
theorem postD_idle (hd : a.defers = [{ target := .fn fv cap, args := dargs }]) (hi : (invoke (.fn fv cap) dargs).run P w = .ok (.enter f args) w)
    (hc : CallsD P f args .returning w fun e u' w' => e = .returned (.tuple #[]) ∧ u' = .returning ∧ w' = w) (h : (results fn a.tmps).run P w = .ok v w) (hR : R (.returned v) w) : bodyPostD P fn R .ret a w := by
  show Leaves P fn a.tmps R a.defers .returning w
  rw [hd]
  refine leaves_cons (by simp) hi (hc.mono ?_)
  rintro e u' w' ⟨rfl, rfl, rfl⟩
  exact ⟨v, h, hR⟩
theorem postD_caught {chain : List PanicEntry} {pe : PanicEntry} {S : World → Prop} (hd : a.defers = [{ target := .fn fv cap, args := dargs }]) (hi : (invoke (.fn fv cap) dargs).run P w = .ok (.enter f args) w)
    (hc : CallsD P f args (.panicking chain) w fun e u' w' => e = .returned (.tuple #[]) ∧ u' = .panicking [{ v := pe.v, recovered := true }] ∧ S w') (h : ∀ w', S w' → ∃ v, (results fn a.tmps).run P w' = .ok v w' ∧ R (.returned v) w') : bodyPostD P fn R (.panic chain) a w := by
  show Leaves P fn a.tmps R a.defers (.panicking chain) w
  rw [hd]
  refine leaves_cons (by simp) hi (hc.mono ?_)
  rintro e u' w' ⟨rfl, rfl, hS⟩
  exact h w' hS
end
end Go.Proofs.Ytmhdcjjcddpciaa
