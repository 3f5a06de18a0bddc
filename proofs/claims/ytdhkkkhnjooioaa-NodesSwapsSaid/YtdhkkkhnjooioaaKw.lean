import Derived.Test.YtdhkkkhnjooioaaJq
import Derived.Test.YtdhkkkhnjooioaaJo
import Derived.Test.YtdhkkkhnjooioaaFb
namespace Go.Proofs.Ytdhkkkhnjooioaa.G
set_option linter.unusedSimpArgs false
set_option linter.unusedVariables false
variable {B : Nat} {s s' : St}
theorem StOk.tb_at (h : StOk B s) {f : Nat} (hv : val s.nd f) {t : Tb} (ht : s.tb f = t) : ∀ i b, t[i]? = some b → s.valM i s.vars.length (s.vars.length + 1) f = (b, true) := fun i b hb => by
  rw [h.valM' i hv]
  subst ht
  unfold St.tb at hb
  have hi : i < 2 ^ s.vars.length := by have := (List.getElem?_eq_some_iff.1 hb).1; rwa [tabOf_length] at this
  rw [tabOf_get hi] at hb
  injection hb with hb
  rw [hb]
end Go.Proofs.Ytdhkkkhnjooioaa.G
namespace Go.Proofs.Ytdhkkkhnjooioaa
set_option linter.unusedSimpArgs false
set_option linter.unusedVariables false
open Go.RowKit
set_option linter.unusedVariables false
set_option maxRecDepth 100000 in
set_option maxHeartbeats 8000000 in
theorem build_any {E : World} {S n : Nat} {ov : Value} {o : List Nat} (ho : ∀ v ∈ o, v < n) (hol : o.length ≤ 64) (hn : n ≤ 12) {B : Nat} : ∀ (k : Nat) (I m : PH) (ms : List PH) (w : World) (s s' : G.St) (xv : Value) (x : List Bool) (f : Nat) (b : Bool), G.St.build k s o x = some (s', f, b) → G.StOk B s → NumR I ov o → BoolR I xv x → x.length = 2 ^ n → StAt S s m → Sat E I (m :: ms) w →
    Calls Try.prog 10 #[vPt S, ov, xv] w fun e w' => e = .returned (.tuple #[nv f, .bool b]) ∧ ∃ m', StAt S s' m' ∧ Sat E I (m' :: ms) w'
  | 0, I, m, ms, w, s, s', xv, x, f, b, hb, _, _, _, _, _, _ => by unfold G.St.build at hb; cases hb
  | k + 1, I, m, ms, w, s, s', xv, x, f, b, hb, hok, hov, hxv, hl, hA, hS => by
    have htop := rtop_any hov hxv hl ho hol hn hS
    have HTop := Lib.hid htop
    have HA := Lib.hid hA
    have Hxv := Lib.hid hxv
    have Hov := Lib.hid hov
    have Hok := Lib.hid hok
    have hp : 0 < x.length := by rw [hl]; exact Nat.two_pow_pos n
    obtain ⟨X, c, b0, rfl, hx0, fx⟩ := hxv.ld hp
    have hxl : x.length ≤ 4096 := by rw [hl]; exact Nat.le_trans (Nat.pow_le_pow_right (show (2 : Nat) > 0 by decide) hn) (by decide)
    unfold G.St.build at hb
    cases ht : G.topT o x with
    | none =>
      rw [ht] at hb HTop
      cases hb
      have hb0 : x.getD 0 false = b0 := by rw [List.getD_eq_getElem?_getD, hx0]; rfl
      rw [hb0]
      have hpi : (0 : Int) < (x.length : Int) := by omega
      have hli : (x.length : Int) ≤ 4096 := by omega
      clear hxv hov hok hA htop hx0 hb0 ht
      clear hl
      generalize x.length = N at *
      cases b0 with
      | true =>
        go_enter Try.func10, Try.ntmps10
        go_wp2_with (first | (go_at_call 39; (with_reducible refine Calls.mono HTop.out ?_); clear hS; rintro e w ⟨rfl, hS⟩; simp only [G.topI]) | ((with_reducible refine isLoad ?_); (refine' ldI1 (v := _) hS rfl rfl ty_agg4 rfl ?hb ?_); (case hb => assumption); (try simp only [Act.put, zE, zF, zG])))
        go_ret2
        exact ⟨rfl, m, HA.out, hS⟩
      | false =>
        go_enter Try.func10, Try.ntmps10
        go_wp2_with (first | (go_at_call 39; (with_reducible refine Calls.mono HTop.out ?_); clear hS; rintro e w ⟨rfl, hS⟩; simp only [G.topI]) | ((with_reducible refine isLoad ?_); (refine' ldI1 (v := _) hS rfl rfl ty_agg4 rfl ?hb ?_); (case hb => assumption); (try simp only [Act.put, zE, zF, zG])))
        go_ret2
        exact ⟨rfl, m, HA.out, hS⟩
    | some v =>
      rw [ht] at hb HTop
      simp only [] at hb
      have hvn : v < n := ho v (G.topT_some ht).1
      cases h1 : G.St.build k s o (G.cofT x v false) with
      | none => rw [h1] at hb; cases hb
      | some q1 =>
      obtain ⟨s1, lo, a1⟩ := q1
      rw [h1] at hb
      simp only [] at hb
      cases h2 : G.St.build k s1 o (G.cofT x v true) with
      | none => rw [h2] at hb; cases hb
      | some q2 =>
      obtain ⟨s2, hi, a2⟩ := q2
      rw [h2] at hb
      simp only [] at hb
      cases h3 : s2.mkE v lo hi with
      | none => rw [h3] at hb; cases hb
      | some q3 =>
      obtain ⟨s3, f3, e3⟩ := q3
      rw [h3] at hb
      cases hb
      obtain ⟨k1, l1⟩ := G.St.build_sound k _ _ _ _ _ h1 hok
      obtain ⟨k2, l2⟩ := G.St.build_sound k _ _ _ _ _ h2 k1
      have HB1 := Lib.hid h1
      have HB2 := Lib.hid h2
      have HM := Lib.hid h3
      have Hk1 := Lib.hid k1
      have Hk2 := Lib.hid k2
      have Hl := Lib.hid hl
      have hv0 : ¬ (v : Int) < 0 := by omega
      clear hxv hov hok hA htop hx0 ht h1 h2 h3 k1 k2 hl hp fx
      go_enter Try.func10, Try.ntmps10
      go_wp2_with (first | (go_at_call 39; (with_reducible refine Calls.mono HTop.out ?_); clear hS; rintro e w ⟨rfl, hS⟩; simp only [G.topI]))
      refine (rcof_any (b := false) Hxv.out Hl.out hvn hn hS).mono ?_
      clear hS
      rintro e w ⟨u1, J1, rfl, j1, g1, hS⟩
      have G1 := Lib.hid g1
      have Hj1 := Lib.hid j1
      clear g1 j1
      go_wp2_with fail
      refine (build_any ho hol hn k _ _ _ _ _ _ _ _ _ _ HB1.out Hok.out (Hov.out.le Hj1.out) G1.out (by rw [G.cofT_length]; exact Hl.out) HA.out hS).mono ?_
      clear hS
      rintro e w ⟨rfl, m1, hA1, hS⟩
      have HA1 := Lib.hid hA1
      clear hA1
      have hS := hS.less Hj1.out
      go_wp2_with fail
      refine (rcof_any (b := true) Hxv.out Hl.out hvn hn hS).mono ?_
      clear hS
      rintro e w ⟨u2, J2, rfl, j2, g2, hS⟩
      have G2 := Lib.hid g2
      have Hj2 := Lib.hid j2
      clear g2 j2
      go_wp2_with fail
      refine (build_any ho hol hn k _ _ _ _ _ _ _ _ _ _ HB2.out Hk1.out (Hov.out.le Hj2.out) G2.out (by rw [G.cofT_length]; exact Hl.out) HA1.out hS).mono ?_
      clear hS
      rintro e w ⟨rfl, m2, hA2, hS⟩
      have HA2 := Lib.hid hA2
      clear hA2
      have hS := hS.less Hj2.out
      have HMk := Lib.hid (smk_any HM.out (by omega) (by omega) Hk2.out.sane.tab HA2.out hS)
      go_wp2_with fail
      refine HMk.out.mono ?_
      clear hS HMk
      rintro e w ⟨rfl, m3, hA3, hS⟩
      have HA3 := Lib.hid hA3
      clear hA3
      have hee : ((e3 : Int) == 0) = (e3 == 0) := by
        by_cases he : e3 = 0
        · subst he; rfl
        · have : ¬ (e3 : Int) = 0 := by omega
          rw [beq_eq_false_iff_ne.2 he, beq_eq_false_iff_ne.2 this]
      have Hee := Lib.hid hee
      clear hee
      cases a1 with
      | false =>
        go_wp2_with fail
        go_ret2
        exact ⟨rfl, m3, HA3.out, hS⟩
      | true =>
        cases a2 with
        | false =>
          go_wp2_with fail
          go_ret2
          exact ⟨rfl, m3, HA3.out, hS⟩
        | true =>
          go_wp2_with fail
          go_ret2
          refine ⟨?_, m3, HA3.out, hS⟩
          show Ending.returned (.tuple #[nv f, .bool ((e3 : Int) == 0)]) = _
          rw [Hee.out]
          rfl
end Go.Proofs.Ytdhkkkhnjooioaa

namespace Go.Proofs.Ytdhkkkhnjooioaa.G
set_option linter.unusedSimpArgs false
set_option linter.unusedVariables false
variable {B : Nat} {s s' : St}
theorem bitsT_inj {x y : Nat} (hx : x < 4294967296) (hy : y < 4294967296) (h : bitsT x = bitsT y) : x = y :=
  Nat.eq_of_testBit_eq fun i => by
    by_cases hi : i < 32
    · have h1 := bitsT_get (n := x) hi
      rw [h, bitsT_get hi] at h1
      injection h1 with h1
      exact h1.symm
    · have hp : (2 : Nat) ^ 32 ≤ 2 ^ i := Nat.pow_le_pow_right (by decide) (by omega)
      have h32 : (2 : Nat) ^ 32 = 4294967296 := by decide
      rw [Nat.testBit_lt_two_pow (Nat.lt_of_lt_of_le hx (by rw [h32] at hp; exact hp)), Nat.testBit_lt_two_pow (Nat.lt_of_lt_of_le hy (by rw [h32] at hp; exact hp))]
theorem Fits.gro {L : List Tb} {Q : Tb → Prop} (h : Fits s L) (g : Gro Q s s') (hQ : ∀ y, Q y → y ∈ L) : Fits s' L := ⟨by rw [g.room]; exact h.room, fun j n hn => by
  cases h0 : s.nd j with
  | none => exact hQ _ (g.new j n hn h0).2
  | some m => rw [g.tb (val2 h0)]; exact h.all j m h0⟩
abbrev o5 : List Nat := [0, 1, 2, 3, 4]
theorem ordr5 : Ordr 5 o5 := ⟨by decide, by decide⟩
theorem isT5 (x : Nat) : IsT 5 (bitsT x) := bitsT_len x
structure Two (room x y : Nat) (s1 : St) (f : Nat) (s2 : St) (g : Nat) : Prop where
  r1 : St.build 6 (St.new 5 room) o5 (bitsT x) = some (s1, f, true)
  r2 : St.build 6 s1 o5 (bitsT y) = some (s2, g, true)
  b1 : Built 0 (St.new 5 room) (bitsT x) s1 f
  b2 : Built 0 s1 (bitsT y) s2 g
  v1 : s1.vars = o5
  v2 : s2.vars = o5
  vf : val s2.nd f
  tf : s2.tb f = bitsT x
  fits : Fits s2 (belowT 6 o5 (bitsT y) (belowT 6 o5 (bitsT x) []))
theorem two_ok (room x y : Nat) (h1 : 1 ≤ room) (h2 : room ≤ 1048576) (hroom : (belowT 6 o5 (bitsT y) (belowT 6 o5 (bitsT x) [])).length ≤ room) : ∃ s1 f s2 g, Two room x y s1 f s2 g := by
  obtain ⟨hd, hm⟩ := belowT_two ordr5 (isT5 x) (isT5 y) (k := 6) (by decide)
  have k0 : StOk 0 (St.new 5 room) := StOk.new (by decide) h1 h2
  have hv0 : (St.new 5 room).vars = o5 := rfl
  have F0 := new_fits 5 room _ hroom
  obtain ⟨s1, f, r1, b1⟩ := St.build_ok hd 6 (St.new 5 room) (bitsT x) k0 (isT5 x) (Nat.lt_of_lt_of_le (by decide : 5 < 6) (Nat.le_add_right _ _)) F0 fun z hz => (hm z).2 (.inl hz)
  have g1 := b1.gro
  have v1 : s1.vars = o5 := g1.vars
  have F1 := F0.gro g1 fun z hz => (hm z).2 (.inl hz)
  obtain ⟨s2, g, r2, b2⟩ := St.build_ok hd 6 s1 (bitsT y) b1.ok (by rw [v1]; exact isT5 y) (by rw [v1]; exact Nat.lt_of_lt_of_le (by decide : 5 < 6) (Nat.le_add_right _ _)) F1 fun z hz => (hm z).2 (.inr (by rwa [v1] at hz))
  have g2 := b2.gro
  rw [v1] at r2
  refine ⟨s1, f, s2, g, r1, r2, b1, b2, v1, g2.vars.trans v1, g2.val b1.val, (g2.tb b1.val).trans b1.tb, ?_⟩
  exact F1.gro g2 fun z hz => (hm z).2 (.inr (by rwa [v1] at hz))
theorem below2_len (x y : Nat) : (belowT 6 o5 (bitsT y) (belowT 6 o5 (bitsT x) [])).length ≤ 126 := by
  have h1 := belowT_len 6 o5 (bitsT y) (belowT 6 o5 (bitsT x) [])
  have h2 := belowT_len 6 o5 (bitsT x) []
  simp only [List.length_nil] at h2
  omega
end Go.Proofs.Ytdhkkkhnjooioaa.G
namespace Go.Proofs.Ytdhkkkhnjooioaa
set_option linter.unusedSimpArgs false
set_option linter.unusedVariables false
open Go.RowKit
set_option linter.unusedVariables false
theorem new200 {E w : World} {I : PH} {ms : List PH} (hS : Sat E I ms w) : Calls Try.prog 8 #[.int .i64 5, .int .i64 200] w fun e w' => ∃ S m, e = .returned (.tuple #[vPt S, .int .i64 0]) ∧ StAt S (G.St.new 5 200) m ∧ Sat E I (m :: ms) w' := snew_ok 5 200 (by decide) (by decide) (by decide) hS
theorem order5 {E w : World} {I m : PH} {ms : List PH} {S : Nat} {room : Nat} (hA : StAt S (G.St.new 5 room) m) (hS : Sat E I (m :: ms) w) : Calls Try.prog 9 #[vPt S] w fun e w' => ∃ A c m', e = .returned (.slice A 5 c) ∧ OwnP m' 3 1 (.slice A 5 c) 5 (G.o5.flatMap ivC) ∧ Sat E I (m' :: m :: ms) w' := by
  refine (sorder_any (hA.read.le (hS.own _ (.head _))) hS).mono ?_
  rintro e w' ⟨v, m', rfl, hO, h⟩
  have hO2 : OwnP m' 3 1 v 5 (G.o5.flatMap ivC) := hO
  obtain ⟨A, c, rfl, _⟩ := hO2.shape
  exact ⟨A, c, m', rfl, hO2, h⟩
theorem same_two {E w : World} {I mt : PH} {ms : List PH} {vt u : Value} {l : List Bool} (hO : OwnP mt 4 1 vt l.length (l.flatMap bvC)) (hu : BoolR I u l) (hl : l.length ≤ 4611686018427387904) (hS : Sat E I ms w) (hm : ms[0]? = some mt) :
    Calls Try.prog 15 #[vt, u] w fun e w' => e = .returned (.bool true) ∧ Sat E I ms w' := by
  have := bsame_any (ms := []) (hO.boolR.le (hS.own _ (List.mem_of_getElem? hm))) (hu.le hS.ile) hl (Sat.start w)
  refine this.mono ?_
  rintro e w' ⟨rfl, h9⟩
  exact ⟨by simp, hS.below_ (h9.end_ (PH.le.refl _))⟩
theorem lit5 (X : Nat) : NumR (PH.one X (.cells #[.int .i64 0, .int .i64 1, .int .i64 2, .int .i64 3, .int .i64 4] 3)) (.slice (some ⟨X, 0, none⟩) 5 5) G.o5 := OwnP.num (l := G.o5) (OwnP.lit X 3 1 5 #[.int .i64 0, .int .i64 1, .int .i64 2, .int .i64 3, .int .i64 4] (by decide) rfl)
end Go.Proofs.Ytdhkkkhnjooioaa
