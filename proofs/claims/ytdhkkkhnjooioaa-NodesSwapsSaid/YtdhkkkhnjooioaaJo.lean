import Derived.Test.YtdhkkkhnjooioaaJn
import Derived.Test.YtdhkkkhnjooioaaFb
namespace Go.Proofs.Ytdhkkkhnjooioaa
set_option linter.unusedSimpArgs false
set_option linter.unusedVariables false
open Go.RowKit
set_option linter.unusedVariables false
theorem G.StOk.sane {B : Nat} {s : G.St} (h : G.StOk B s) : Sane s := ⟨h.pl, fun v => h.tab_lt v⟩
theorem G.StOk.swap_len {B : Nat} {s : G.St} (h : G.StOk B s) (hr : G.many s.pl.slots ≤ 1000000) : ∀ s0 c, s.collect = some (s0, c) → ∀ v, (s0.tab v).length ≤ 1000000 := fun s0 c hc v => by
  obtain ⟨s1, h1, h2⟩ := h.collect
  rw [h1] at hc
  cases hc
  have h3 := h2.ok.tab_len v
  have h4 := h2.many
  omega
namespace Lv
open G
def stOf (o : Option (St × Nat × Nat)) : St := match o with | some (s, _) => s | none => St.new 0 0
def stOf2 (o : Option (St × Nat)) : St := match o with | some (s, _) => s | none => St.new 0 0
def L1 : St := stOf ((St.new 2 9).mkE 1 1 0)
def L2 : St := stOf (L1.mkE 0 1 2)
def L3 : St := stOf2 (L2.hold 4)
def L4 : St := stOf (L3.mkE 0 2 1)
def L5 : St := stOf2 (L4.swap 0)
theorem h1 : (St.new 2 9).mkE 1 1 0 = some (L1, 2, 0) := by kernel_rfl
theorem h2 : L1.mkE 0 1 2 = some (L2, 4, 0) := by kernel_rfl
theorem h3 : L2.hold 4 = some (L3, 0) := by kernel_rfl
theorem h4 : L3.mkE 0 2 1 = some (L4, 7, 0) := by kernel_rfl
theorem h5 : L4.mkE 1 4 0 = some (L4, 0, 10) := by kernel_rfl
theorem h6 : L4.swap 0 = some (L5, 0) := by kernel_rfl
theorem k0 : StOk 0 (St.new 2 9) := StOk.new (by decide) (by decide) (by decide)
theorem k1 : StOk 0 L1 := k0.mk_any h1
theorem k2 : StOk 0 L2 := k1.mk_any h2
theorem k3 : StOk 1 L3 := k2.hold_any (by decide) h3
theorem k4 : StOk 1 L4 := k3.mk_any h4
theorem n2 : many L2.pl.slots = 2 := by kernel_rfl
theorem n4 : many L4.pl.slots = 3 := by kernel_rfl
theorem d2 : L2.dead = 2 := by kernel_rfl
theorem d3 : L3.dead = 0 := by kernel_rfl
theorem o5 : L5.vars = [1, 0] := by kernel_rfl
theorem t5 : ∀ i b, [false, false, false, true][i]? = some b → L5.valM i 2 3 4 = (b, true)
  | 0, b, h => by cases h; kernel_rfl
  | 1, b, h => by cases h; kernel_rfl
  | 2, b, h => by cases h; kernel_rfl
  | 3, b, h => by cases h; kernel_rfl
  | i + 4, b, h => by simp at h
end Lv
section
variable {E w : World} {I m : PH} {ms : List PH} {S : Nat}
theorem lv0 (hS : Sat E I ms w) : Calls Try.prog 8 #[.int .i64 2, .int .i64 9] w fun e w' => ∃ S m, e = .returned (.tuple #[vPt S, .int .i64 0]) ∧ StAt S (G.St.new 2 9) m ∧ Sat E I (m :: ms) w' := snew_ok 2 9 (by decide) (by decide) (by decide) hS
theorem lv1 (hA : StAt S (G.St.new 2 9) m) (hS : Sat E I (m :: ms) w) : Calls Try.prog 31 #[vPt S, .int .i64 1, .int .i64 1, .int .i64 0] w fun e w' => e = .returned (.tuple #[.int .i64 2, .int .i64 0]) ∧ ∃ m', StAt S Lv.L1 m' ∧ Sat E I (m' :: ms) w' := smk_any Lv.h1 (by decide) (by decide) Lv.k0.sane.tab hA hS
theorem lv2 (hA : StAt S Lv.L1 m) (hS : Sat E I (m :: ms) w) : Calls Try.prog 31 #[vPt S, .int .i64 0, .int .i64 1, .int .i64 2] w fun e w' => e = .returned (.tuple #[.int .i64 4, .int .i64 0]) ∧ ∃ m', StAt S Lv.L2 m' ∧ Sat E I (m' :: ms) w' := smk_any Lv.h2 (by decide) (by decide) Lv.k1.sane.tab hA hS
theorem lvL (hA : StAt S Lv.L2 m) (hS : Sat E I (m :: ms) w) : Calls Try.prog 12 #[vPt S] w fun e w' => e = .returned (.int .i64 2) ∧ w = w' := by
  have := slen_any (hA.read.le (hS.own _ (.head _)))
  rw [Lv.n2] at this
  exact this
theorem lvD (hA : StAt S Lv.L2 m) (hS : Sat E I (m :: ms) w) : Calls Try.prog 21 #[vPt S] w fun e w' => e = .returned (.int .i64 2) ∧ w = w' := by
  have := sdead_any (hA.read.le (hS.own _ (.head _)))
  rw [Lv.d2] at this
  exact this
theorem lv3 (hA : StAt S Lv.L2 m) (hS : Sat E I (m :: ms) w) : Calls Try.prog 27 #[vPt S, .int .i64 4] w fun e w' => e = .returned (.int .i64 0) ∧ ∃ m', StAt S Lv.L3 m' ∧ Sat E I (m' :: ms) w' := shold_any Lv.h3 (by decide) hA hS
theorem lvE (hA : StAt S Lv.L3 m) (hS : Sat E I (m :: ms) w) : Calls Try.prog 21 #[vPt S] w fun e w' => e = .returned (.int .i64 0) ∧ w = w' := by
  have := sdead_any (hA.read.le (hS.own _ (.head _)))
  rw [Lv.d3] at this
  exact this
theorem lv4 (hA : StAt S Lv.L3 m) (hS : Sat E I (m :: ms) w) : Calls Try.prog 31 #[vPt S, .int .i64 0, .int .i64 2, .int .i64 1] w fun e w' => e = .returned (.tuple #[.int .i64 7, .int .i64 0]) ∧ ∃ m', StAt S Lv.L4 m' ∧ Sat E I (m' :: ms) w' := smk_any Lv.h4 (by decide) (by decide) Lv.k3.sane.tab hA hS
theorem lv5 (hA : StAt S Lv.L4 m) (hS : Sat E I (m :: ms) w) : Calls Try.prog 31 #[vPt S, .int .i64 1, .int .i64 4, .int .i64 0] w fun e w' => e = .returned (.tuple #[.int .i64 0, .int .i64 10]) ∧ ∃ m', StAt S Lv.L4 m' ∧ Sat E I (m' :: ms) w' := smk_any Lv.h5 (by decide) (by decide) Lv.k4.sane.tab hA hS
theorem lv6 (hA : StAt S Lv.L4 m) (hS : Sat E I (m :: ms) w) : Calls Try.prog 29 #[vPt S, .int .i64 0] w fun e w' => e = .returned (.int .i64 0) ∧ ∃ m', StAt S Lv.L5 m' ∧ Sat E I (m' :: ms) w' := sswap_any Lv.h6 Lv.k4.sane Lv.k4.pm (Lv.k4.swap_len (by rw [Lv.n4]; decide)) hA hS
theorem lvO (hA : StAt S Lv.L5 m) (hS : Sat E I (m :: ms) w) : Calls Try.prog 9 #[vPt S] w fun e w' => ∃ v m', e = .returned v ∧ OwnP m' 3 1 v 2 ([1, 0].flatMap ivC) ∧ Sat E I (m' :: m :: ms) w' := by
  have := sorder_any (hA.read.le (hS.own _ (.head _))) hS
  rw [Lv.o5] at this
  exact this
theorem lvT (hA : StAt S Lv.L5 m) (hS : Sat E I (m :: ms) w) : Calls Try.prog 16 #[vPt S, .int .i64 4, .int .i64 2] w fun e w' => ∃ v m', e = .returned v ∧ OwnP m' 4 1 v 4 ([false, false, false, true].flatMap bvC) ∧ Sat E I (m' :: m :: ms) w' :=
  table_any (f := 4) (n := 2) (t := [false, false, false, true]) (hA.read.le (hS.own _ (.head _))) (by decide) (by decide) rfl Lv.t5 hS
theorem lvS (h : Sat E I ms w) {v : Value} {mo : PH} {X : Nat} (hv : OwnP mo 3 1 v 2 ([1, 0].flatMap ivC)) (h1 : ms[1]? = some mo) (h2 : ms[0]? = some (PH.one X (.cells #[.int .i64 1, .int .i64 0] 3))) : Calls Try.prog 22 #[v, .slice (some ⟨X, 0, none⟩) 2 2] w fun e w' => e = .returned (.bool true) ∧ Sat E I ms w' := by
  have hn : NumR (heapOf w) v [1, 0] := (OwnP.num (l := [1, 0]) hv).le (h.own _ (List.mem_of_getElem? h1))
  have hl : NumR (heapOf w) (.slice (some ⟨X, 0, none⟩) 2 2) [1, 0] := (OwnP.num (l := [1, 0]) (OwnP.lit X 3 1 2 #[.int .i64 1, .int .i64 0] (by decide) rfl)).le (h.own _ (List.mem_of_getElem? h2))
  have := nsame_any (ms := []) hn hl (by decide) (Sat.start w)
  refine this.mono ?_
  rintro e w' ⟨rfl, h9⟩
  exact ⟨rfl, h.below_ (h9.end_ (PH.le.refl _))⟩
theorem lvB (h : Sat E I ms w) {v : Value} {mo : PH} {X : Nat} (hv : OwnP mo 4 1 v 4 ([false, false, false, true].flatMap bvC)) (h1 : ms[1]? = some mo) (h2 : ms[0]? = some (PH.one X (.cells #[.bool false, .bool false, .bool false, .bool true] 4))) : Calls Try.prog 15 #[v, .slice (some ⟨X, 0, none⟩) 4 4] w fun e w' => e = .returned (.bool true) ∧ Sat E I ms w' := by
  have hn : BoolR (heapOf w) v [false, false, false, true] := (OwnP.boolR (l := [false, false, false, true]) hv).le (h.own _ (List.mem_of_getElem? h1))
  have hl : BoolR (heapOf w) (.slice (some ⟨X, 0, none⟩) 4 4) [false, false, false, true] := (OwnP.boolR (l := [false, false, false, true]) (OwnP.lit X 4 1 4 #[.bool false, .bool false, .bool false, .bool true] (by decide) rfl)).le (h.own _ (List.mem_of_getElem? h2))
  have := bsame_any (ms := []) hn hl (by decide) (Sat.start w)
  refine this.mono ?_
  rintro e w' ⟨rfl, h9⟩
  exact ⟨rfl, h.below_ (h9.end_ (PH.le.refl _))⟩
set_option maxRecDepth 100000 in
set_option maxHeartbeats 8000000 in
theorem lives_any (hS : Sat E I ms w) : Calls Try.prog 17 #[] w fun e w' => e = .returned (.bool true) ∧ Sat E I ms w' := by
  go_enter Try.func17, Try.ntmps17
  go_wp2_with (first
    | (go_at_call 8; (with_reducible refine Calls.mono (lv0 hS) ?_); clear hS; rintro e w ⟨S, m, rfl, hA, hS⟩; have HA0 := Lib.hid hA; clear hA)
    | (go_at_call 31; first | ((with_reducible refine Calls.mono (lv1 HA0.out hS) ?_); clear hS; rintro e w ⟨rfl, m1, hA, hS⟩; have HA1 := Lib.hid hA; clear hA) | ((with_reducible refine Calls.mono (lv2 HA1.out hS) ?_); clear hS; rintro e w ⟨rfl, m2, hA, hS⟩; have HA2 := Lib.hid hA; clear hA) | ((with_reducible refine Calls.mono (lv4 HA3.out hS) ?_); clear hS; rintro e w ⟨rfl, m4, hA, hS⟩; have HA4 := Lib.hid hA; clear hA) | ((with_reducible refine Calls.mono (lv5 HA4.out hS) ?_); clear hS; rintro e w ⟨rfl, m5, hA, hS⟩; have HA5 := Lib.hid hA; clear hA))
    | (go_at_call 12; (with_reducible refine Calls.mono (lvL HA2.out hS) ?_); rintro e w9 ⟨rfl, rfl⟩)
    | (go_at_call 21; first | ((with_reducible refine Calls.mono (lvD HA2.out hS) ?_); rintro e w9 ⟨rfl, rfl⟩) | ((with_reducible refine Calls.mono (lvE HA3.out hS) ?_); rintro e w9 ⟨rfl, rfl⟩))
    | (go_at_call 27; (with_reducible refine Calls.mono (lv3 HA2.out hS) ?_); clear hS; rintro e w ⟨rfl, m3, hA, hS⟩; have HA3 := Lib.hid hA; clear hA)
    | (go_at_call 29; (with_reducible refine Calls.mono (lv6 HA5.out hS) ?_); clear hS; rintro e w ⟨rfl, m6, hA, hS⟩; have HA6 := Lib.hid hA; clear hA)
    | (go_at_call 9; (with_reducible refine Calls.mono (lvO HA6.out hS) ?_); clear hS; rintro e w ⟨vo, mo, rfl, hO, hS⟩; have HO := Lib.hid hO; clear hO)
    | (go_at_call 22; (with_reducible refine Calls.mono (lvS hS HO.out rfl rfl) ?_); clear hS; rintro e w ⟨rfl, hS⟩; replace hS := hS.drop.drop)
    | (go_at_call 16; (with_reducible refine Calls.mono (lvT HA6.out hS) ?_); clear hS; rintro e w ⟨vt, mt, rfl, hT, hS⟩; have HT := Lib.hid hT; clear hT)
    | (go_at_call 15; (with_reducible refine Calls.mono (lvB hS HT.out rfl rfl) ?_); clear hS; rintro e w ⟨rfl, hS⟩; replace hS := hS.drop.drop)
    | ((with_reducible refine isBuildSlice ?_); (refine' bsl hS ?hr ?_); (case hr => (intro w0; go_simp; rfl)); clear hS; intro XS w hS; (try simp only [zF, zG, zE, Act.eval, zD, zC, zA, zB, zJ, Value.cells] at hS); (try simp only [Act.put, zE, zF, zG]))
    | ((with_reducible refine atList ?_); first | ((with_reducible refine isGuard ?_); first | go_skip | ((with_reducible refine guarded_no ?hw ?_); (case hw => (simp only [Region.wanted, yielded, zC, zA, zB, zK]; first | exact (rfl : (some true == some false) = false) | exact (rfl : (some false == some true) = false))); (try simp only [Act.put, zE, zF, zG])) | ((with_reducible refine guarded_yes ?hw ?_); case hw => (simp only [Region.wanted, yielded, zC, zA, zB, zK, beq_self_eq_true]; done)) | ((refine' guarded_cases (b := _) ?hy ?_ ?_); (case hy => (simp only [yielded, zC, zA, zB, zK]; exact rfl)); all_goals (intro hb; (try simp only [Bool.not_true, Bool.not_false] at hb); (try simp only [hb]); (try simp only [Act.put, zE, zF, zG]); first | ((have hf : False := by (simp at hb; done)); cases hf) | ((have hf : False := by (simp at hb; omega)); cases hf) | skip)))))
  go_ret
  exact ⟨rfl, hS.drop⟩
end
end Go.Proofs.Ytdhkkkhnjooioaa
