/- The law's Build. -/
import Derived.Test.YtdhkkkhnjooioaaJq
import Derived.Test.YtdhkkkhnjooioaaJo
import Derived.Test.YtdhkkkhnjooioaaFb
namespace Go.Proofs.Ytdhkkkhnjooioaa.G
set_option linter.unusedSimpArgs false
set_option linter.unusedVariables false
variable {B : Nat} {s s' : St}
theorem StOk.tb_at (h : StOk B s) {f : Nat} (hv : val s.nd f) {t : Tb} (ht : s.tb f = t) : ∀ i b, t[i]? = some b → s.valM i s.vars.length (s.vars.length + 1) f = (b, true) := fun i b hb => by
  rw [h.valM' i hv]
  subst ht
  unfold St.tb at hb
  have hi : i < 2 ^ s.vars.length := by have := (List.getElem?_eq_some_iff.1 hb).1; rwa [tabOf_length] at this
  rw [tabOf_get hi] at hb
  injection hb with hb
  rw [hb]
end Go.Proofs.Ytdhkkkhnjooioaa.G
namespace Go.Proofs.Ytdhkkkhnjooioaa
set_option linter.unusedSimpArgs false
set_option linter.unusedVariables false
open Go.RowKit
set_option linter.unusedVariables false
set_option maxRecDepth 100000 in
set_option maxHeartbeats 8000000 in
theorem build_any {E : World} {S n : Nat} {ov : Value} {o : List Nat} (ho : ∀ v ∈ o, v < n) (hol : o.length ≤ 64) (hn : n ≤ 12) {B : Nat} : ∀ (k : Nat) (I m : PH) (ms : List PH) (w : World) (s s' : G.St) (xv : Value) (x : List Bool) (f : Nat) (b : Bool), G.St.build k s o x = some (s', f, b) → G.StOk B s → NumR I ov o → BoolR I xv x → x.length = 2 ^ n → StAt S s m → Sat E I (m :: ms) w →
    Calls Try.prog 10 #[vPt S, ov, xv] w fun e w' => e = .returned (.tuple #[nv f, .bool b]) ∧ ∃ m', StAt S s' m' ∧ Sat E I (m' :: ms) w'
  | 0, I, m, ms, w, s, s', xv, x, f, b, hb, _, _, _, _, _, _ => by unfold G.St.build at hb; cases hb
  | k + 1, I, m, ms, w, s, s', xv, x, f, b, hb, hok, hov, hxv, hl, hA, hS => by
    have htop := rtop_any hov hxv hl ho hol hn hS
    have HTop := Lib.hid htop
    have HA := Lib.hid hA
    have Hxv := Lib.hid hxv
    have Hov := Lib.hid hov
    have Hok := Lib.hid hok
    have hp : 0 < x.length := by rw [hl]; exact Nat.two_pow_pos n
    obtain ⟨X, c, b0, rfl, hx0, fx⟩ := hxv.ld hp
    have hxl : x.length ≤ 4096 := by rw [hl]; exact Nat.le_trans (Nat.pow_le_pow_right (show (2 : Nat) > 0 by decide) hn) (by decide)
    unfold G.St.build at hb
    cases ht : G.topT o x with
    | none =>
      rw [ht] at hb HTop
      cases hb
      have hb0 : x.getD 0 false = b0 := by rw [List.getD_eq_getElem?_getD, hx0]; rfl
      rw [hb0]
      have hpi : (0 : Int) < (x.length : Int) := by omega
      have hli : (x.length : Int) ≤ 4096 := by omega
      clear hxv hov hok hA htop hx0 hb0 ht
      clear hl
      generalize x.length = N at *
      cases b0 with
      | true =>
        go_enter Try.func10, Try.ntmps10
        go_wp2_with (first | (go_at_call 39; (with_reducible refine Calls.mono HTop.out ?_); clear hS; rintro e w ⟨rfl, hS⟩; simp only [G.topI]) | ((with_reducible refine isLoad ?_); (refine' ldI1 (v := _) hS rfl rfl ty_agg4 rfl ?hb ?_); (case hb => assumption); (try simp only [Act.put, zE, zF, zG])))
        go_ret2
        exact ⟨rfl, m, HA.out, hS⟩
      | false =>
        go_enter Try.func10, Try.ntmps10
        go_wp2_with (first | (go_at_call 39; (with_reducible refine Calls.mono HTop.out ?_); clear hS; rintro e w ⟨rfl, hS⟩; simp only [G.topI]) | ((with_reducible refine isLoad ?_); (refine' ldI1 (v := _) hS rfl rfl ty_agg4 rfl ?hb ?_); (case hb => assumption); (try simp only [Act.put, zE, zF, zG])))
        go_ret2
        exact ⟨rfl, m, HA.out, hS⟩
    | some v =>
      rw [ht] at hb HTop
      simp only [] at hb
      have hvn : v < n := ho v (G.topT_some ht).1
      cases h1 : G.St.build k s o (G.cofT x v false) with
      | none => rw [h1] at hb; cases hb
      | some q1 =>
      obtain ⟨s1, lo, a1⟩ := q1
      rw [h1] at hb
      simp only [] at hb
      cases h2 : G.St.build k s1 o (G.cofT x v true) with
      | none => rw [h2] at hb; cases hb
      | some q2 =>
      obtain ⟨s2, hi, a2⟩ := q2
      rw [h2] at hb
      simp only [] at hb
      cases h3 : s2.mkE v lo hi with
      | none => rw [h3] at hb; cases hb
      | some q3 =>
      obtain ⟨s3, f3, e3⟩ := q3
      rw [h3] at hb
      cases hb
      obtain ⟨k1, l1⟩ := G.St.build_sound k _ _ _ _ _ h1 hok
      obtain ⟨k2, l2⟩ := G.St.build_sound k _ _ _ _ _ h2 k1
      have HB1 := Lib.hid h1
      have HB2 := Lib.hid h2
      have HM := Lib.hid h3
      have Hk1 := Lib.hid k1
      have Hk2 := Lib.hid k2
      have Hl := Lib.hid hl
      have hv0 : ¬ (v : Int) < 0 := by omega
      clear hxv hov hok hA htop hx0 ht h1 h2 h3 k1 k2 hl hp fx
      go_enter Try.func10, Try.ntmps10
      go_wp2_with (first | (go_at_call 39; (with_reducible refine Calls.mono HTop.out ?_); clear hS; rintro e w ⟨rfl, hS⟩; simp only [G.topI]))
      refine (rcof_any (b := false) Hxv.out Hl.out hvn hn hS).mono ?_
      clear hS
      rintro e w ⟨u1, J1, rfl, j1, g1, hS⟩
      have G1 := Lib.hid g1
      have Hj1 := Lib.hid j1
      clear g1 j1
      go_wp2_with fail
      refine (build_any ho hol hn k _ _ _ _ _ _ _ _ _ _ HB1.out Hok.out (Hov.out.le Hj1.out) G1.out (by rw [G.cofT_length]; exact Hl.out) HA.out hS).mono ?_
      clear hS
      rintro e w ⟨rfl, m1, hA1, hS⟩
      have HA1 := Lib.hid hA1
      clear hA1
      have hS := hS.less Hj1.out
      go_wp2_with fail
      refine (rcof_any (b := true) Hxv.out Hl.out hvn hn hS).mono ?_
      clear hS
      rintro e w ⟨u2, J2, rfl, j2, g2, hS⟩
      have G2 := Lib.hid g2
      have Hj2 := Lib.hid j2
      clear g2 j2
      go_wp2_with fail
      refine (build_any ho hol hn k _ _ _ _ _ _ _ _ _ _ HB2.out Hk1.out (Hov.out.le Hj2.out) G2.out (by rw [G.cofT_length]; exact Hl.out) HA1.out hS).mono ?_
      clear hS
      rintro e w ⟨rfl, m2, hA2, hS⟩
      have HA2 := Lib.hid hA2
      clear hA2
      have hS := hS.less Hj2.out
      have HMk := Lib.hid (smk_any HM.out (by omega) (by omega) Hk2.out.sane.tab HA2.out hS)
      go_wp2_with fail
      refine HMk.out.mono ?_
      clear hS HMk
      rintro e w ⟨rfl, m3, hA3, hS⟩
      have HA3 := Lib.hid hA3
      clear hA3
      have hee : ((e3 : Int) == 0) = (e3 == 0) := by
        by_cases he : e3 = 0
        · subst he; rfl
        · have : ¬ (e3 : Int) = 0 := by omega
          rw [beq_eq_false_iff_ne.2 he, beq_eq_false_iff_ne.2 this]
      have Hee := Lib.hid hee
      clear hee
      cases a1 with
      | false =>
        go_wp2_with fail
        go_ret2
        exact ⟨rfl, m3, HA3.out, hS⟩
      | true =>
        cases a2 with
        | false =>
          go_wp2_with fail
          go_ret2
          exact ⟨rfl, m3, HA3.out, hS⟩
        | true =>
          go_wp2_with fail
          go_ret2
          refine ⟨?_, m3, HA3.out, hS⟩
          show Ending.returned (.tuple #[nv f, .bool ((e3 : Int) == 0)]) = _
          rw [Hee.out]
          rfl
end Go.Proofs.Ytdhkkkhnjooioaa
