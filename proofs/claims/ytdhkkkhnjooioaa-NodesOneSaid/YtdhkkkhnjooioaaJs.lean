/- NodesOne. -/
import Derived.Test.YtdhkkkhnjooioaaJr
namespace Go.Proofs.Ytdhkkkhnjooioaa.G
set_option linter.unusedSimpArgs false
set_option linter.unusedVariables false
variable {B : Nat} {s s' : St}
theorem bitsT_inj {x y : Nat} (hx : x < 4294967296) (hy : y < 4294967296) (h : bitsT x = bitsT y) : x = y :=
  Nat.eq_of_testBit_eq fun i => by
    by_cases hi : i < 32
    · have h1 := bitsT_get (n := x) hi
      rw [h, bitsT_get hi] at h1
      injection h1 with h1
      exact h1.symm
    · have hp : (2 : Nat) ^ 32 ≤ 2 ^ i := Nat.pow_le_pow_right (by decide) (by omega)
      have h32 : (2 : Nat) ^ 32 = 4294967296 := by decide
      rw [Nat.testBit_lt_two_pow (Nat.lt_of_lt_of_le hx (by rw [h32] at hp; exact hp)), Nat.testBit_lt_two_pow (Nat.lt_of_lt_of_le hy (by rw [h32] at hp; exact hp))]
theorem Fits.gro {L : List Tb} {Q : Tb → Prop} (h : Fits s L) (g : Gro Q s s') (hQ : ∀ y, Q y → y ∈ L) : Fits s' L := ⟨by rw [g.room]; exact h.room, fun j n hn => by
  cases h0 : s.nd j with
  | none => exact hQ _ (g.new j n hn h0).2
  | some m => rw [g.tb (val2 h0)]; exact h.all j m h0⟩
abbrev o5 : List Nat := [0, 1, 2, 3, 4]
theorem ordr5 : Ordr 5 o5 := ⟨by decide, by decide⟩
theorem isT5 (x : Nat) : IsT 5 (bitsT x) := bitsT_len x
/-- Two functions are built. -/
structure Two (room x y : Nat) (s1 : St) (f : Nat) (s2 : St) (g : Nat) : Prop where
  r1 : St.build 6 (St.new 5 room) o5 (bitsT x) = some (s1, f, true)
  r2 : St.build 6 s1 o5 (bitsT y) = some (s2, g, true)
  b1 : Built 0 (St.new 5 room) (bitsT x) s1 f
  b2 : Built 0 s1 (bitsT y) s2 g
  v1 : s1.vars = o5
  v2 : s2.vars = o5
  vf : val s2.nd f
  tf : s2.tb f = bitsT x
  fits : Fits s2 (belowT 6 o5 (bitsT y) (belowT 6 o5 (bitsT x) []))
theorem two_ok (room x y : Nat) (h1 : 1 ≤ room) (h2 : room ≤ 1048576) (hroom : (belowT 6 o5 (bitsT y) (belowT 6 o5 (bitsT x) [])).length ≤ room) : ∃ s1 f s2 g, Two room x y s1 f s2 g := by
  obtain ⟨hd, hm⟩ := belowT_two ordr5 (isT5 x) (isT5 y) (k := 6) (by decide)
  have k0 : StOk 0 (St.new 5 room) := StOk.new (by decide) h1 h2
  have hv0 : (St.new 5 room).vars = o5 := rfl
  have F0 := new_fits 5 room _ hroom
  obtain ⟨s1, f, r1, b1⟩ := St.build_ok hd 6 (St.new 5 room) (bitsT x) k0 (isT5 x) (Nat.lt_of_lt_of_le (by decide : 5 < 6) (Nat.le_add_right _ _)) F0 fun z hz => (hm z).2 (.inl hz)
  have g1 := b1.gro
  have v1 : s1.vars = o5 := g1.vars
  have F1 := F0.gro g1 fun z hz => (hm z).2 (.inl hz)
  obtain ⟨s2, g, r2, b2⟩ := St.build_ok hd 6 s1 (bitsT y) b1.ok (by rw [v1]; exact isT5 y) (by rw [v1]; exact Nat.lt_of_lt_of_le (by decide : 5 < 6) (Nat.le_add_right _ _)) F1 fun z hz => (hm z).2 (.inr (by rwa [v1] at hz))
  have g2 := b2.gro
  rw [v1] at r2
  refine ⟨s1, f, s2, g, r1, r2, b1, b2, v1, g2.vars.trans v1, g2.val b1.val, (g2.tb b1.val).trans b1.tb, ?_⟩
  exact F1.gro g2 fun z hz => (hm z).2 (.inr (by rwa [v1] at hz))
theorem below2_len (x y : Nat) : (belowT 6 o5 (bitsT y) (belowT 6 o5 (bitsT x) [])).length ≤ 126 := by
  have h1 := belowT_len 6 o5 (bitsT y) (belowT 6 o5 (bitsT x) [])
  have h2 := belowT_len 6 o5 (bitsT x) []
  simp only [List.length_nil] at h2
  omega
/-- What NodesOne asks. -/
theorem one_law (x y : Nat) (hx : x < 4294967296) (hy : y < 4294967296) : ∃ s1 f s2 g h, St.build 6 (St.new 5 200) o5 (bitsT x) = some (s1, f, true) ∧ St.build 6 s1 o5 (bitsT y) = some (s2, g, true) ∧ St.build 6 s2 o5 (notT (bitsT x)) = some (s2, h, true) ∧
    (f = g ↔ x = y) ∧ h = flip f ∧ StOk 0 s1 ∧ StOk 0 s2 ∧ (∀ i b, (bitsT x)[i]? = some b → s2.valM i 5 6 f = (b, true)) ∧ f < 4194304 := by
  obtain ⟨s1, f, s2, g, t⟩ := two_ok 200 x y (by decide) (by decide) (Nat.le_trans (below2_len x y) (by decide))
  obtain ⟨hd, hm⟩ := belowT_two ordr5 (isT5 x) (isT5 y) (k := 6) (by decide)
  have hsr : ∀ z, Sr o5 (notT (bitsT x)) z → Sr o5 (bitsT x) z := fun z hz => by have := hz.not ordr5 (isT5 x).not; rwa [notT_notT] at this
  obtain ⟨s3, h, r3, b3⟩ := St.build_ok hd 6 s2 (notT (bitsT x)) t.b2.ok (by rw [t.v2]; exact (isT5 x).not) (by rw [t.v2]; exact Nat.lt_of_lt_of_le (by decide : 5 < 6) (Nat.le_add_right _ _)) t.fits fun z hz => (hm z).2 (.inl (hsr z (by rwa [t.v2] at hz)))
  have hs3 : s3 = s2 := b3.same fun z hz => by
    rw [t.v2] at hz
    have h1 := (t.b1.ok.sr_iff t.b1.val z).1 (by rw [t.v1, t.b1.tb]; exact hsr z hz)
    obtain ⟨j, hj, hz'⟩ := h1
    obtain ⟨_, n, hn⟩ := hj.some
    exact ⟨j, n, t.b2.gro.old j n hn, by rw [hz', t.b2.gro.tb (val2 hn)]⟩
  subst hs3
  rw [t.v2] at r3
  refine ⟨s1, f, s3, g, h, t.r1, t.r2, r3, ?_, ?_, t.b1.ok, t.b2.ok, ?_, t.b2.ok.val_lt t.vf⟩
  · constructor
    · intro e
      refine bitsT_inj hx hy ?_
      rw [← t.tf, ← t.b2.tb, e]
    · intro e
      refine (t.b2.ok.tb_inj t.vf t.b2.val).1 ?_
      rw [t.tf, t.b2.tb, e]
  · refine (t.b2.ok.tb_inj b3.val (val_flip.2 t.vf)).1 ?_
    rw [b3.tb, tb_flip, t.tf]
  · have := t.b2.ok.tb_at t.vf t.tf
    rw [t.v2] at this
    exact this
end Go.Proofs.Ytdhkkkhnjooioaa.G
namespace Go.Proofs.Ytdhkkkhnjooioaa
set_option linter.unusedSimpArgs false
set_option linter.unusedVariables false
open Go.RowKit
set_option linter.unusedVariables false
theorem new200 {E w : World} {I : PH} {ms : List PH} (hS : Sat E I ms w) : Calls Try.prog 8 #[.int .i64 5, .int .i64 200] w fun e w' => ∃ S m, e = .returned (.tuple #[vPt S, .int .i64 0]) ∧ StAt S (G.St.new 5 200) m ∧ Sat E I (m :: ms) w' := snew_ok 5 200 (by decide) (by decide) (by decide) hS
theorem order5 {E w : World} {I m : PH} {ms : List PH} {S : Nat} {room : Nat} (hA : StAt S (G.St.new 5 room) m) (hS : Sat E I (m :: ms) w) : Calls Try.prog 9 #[vPt S] w fun e w' => ∃ A c m', e = .returned (.slice A 5 c) ∧ OwnP m' 3 1 (.slice A 5 c) 5 (G.o5.flatMap ivC) ∧ Sat E I (m' :: m :: ms) w' := by
  refine (sorder_any (hA.read.le (hS.own _ (.head _))) hS).mono ?_
  rintro e w' ⟨v, m', rfl, hO, h⟩
  have hO2 : OwnP m' 3 1 v 5 (G.o5.flatMap ivC) := hO
  obtain ⟨A, c, rfl, _⟩ := hO2.shape
  exact ⟨A, c, m', rfl, hO2, h⟩
theorem same_two {E w : World} {I mt : PH} {ms : List PH} {vt u : Value} {l : List Bool} (hO : OwnP mt 4 1 vt l.length (l.flatMap bvC)) (hu : BoolR I u l) (hl : l.length ≤ 4611686018427387904) (hS : Sat E I ms w) (hm : ms[0]? = some mt) :
    Calls Try.prog 15 #[vt, u] w fun e w' => e = .returned (.bool true) ∧ Sat E I ms w' := by
  have := bsame_any (ms := []) (hO.boolR.le (hS.own _ (List.mem_of_getElem? hm))) (hu.le hS.ile) hl (Sat.start w)
  refine this.mono ?_
  rintro e w' ⟨rfl, h9⟩
  exact ⟨by simp, hS.below_ (h9.end_ (PH.le.refl _))⟩
theorem lit5 (X : Nat) : NumR (PH.one X (.cells #[.int .i64 0, .int .i64 1, .int .i64 2, .int .i64 3, .int .i64 4] 3)) (.slice (some ⟨X, 0, none⟩) 5 5) G.o5 := OwnP.num (l := G.o5) (OwnP.lit X 3 1 5 #[.int .i64 0, .int .i64 1, .int .i64 2, .int .i64 3, .int .i64 4] (by decide) rfl)
set_option maxRecDepth 1000000 in
set_option maxHeartbeats 8000000 in
theorem one_any (W : World) (x y : Nat) (hx : x < 4294967296) (hy : y < 4294967296) : Calls Try.prog 3 #[.int .u32 (x : Int), .int .u32 (y : Int)] W fun e w' => e = .returned (.bool true) ∧ Below W.heap.size W w' := by
  have hS := Sat.start W
  obtain ⟨s1, f, s2, g, h, r1, r2, r3, hfg, hh, k1, k2, hval, hf⟩ := G.one_law x y hx hy
  have R1 := Lib.hid r1
  have R2 := Lib.hid r2
  have R3 := Lib.hid r3
  have K0 : G.StOk 0 (G.St.new 5 200) := G.StOk.new (by decide) (by decide) (by decide)
  have K1 := Lib.hid k1
  have K2 := Lib.hid k2
  have HK0 := Lib.hid K0
  have Hval := Lib.hid hval
  have HBx := Lib.hid hx
  have HBy := Lib.hid hy
  have hfl : ((f : Int) == (g : Int)) = ((x : Int) == (y : Int)) := by
    by_cases e : x = y
    · rw [hfg.2 e, e]; simp
    · have : ¬ f = g := fun e' => e (hfg.1 e')
      rw [beq_eq_false_iff_ne.2 (show ¬ (x : Int) = (y : Int) by omega), beq_eq_false_iff_ne.2 (show ¬ (f : Int) = (g : Int) by omega)]
  have hl5 : ∀ v ∈ G.o5, v < 5 := by decide
  subst hh
  clear r1 r2 r3 hfg k1 k2 K0 hval hx hy
  go_enter Try.func3, Try.ntmps3
  go_wp2_with (first
    | (go_at_call 8; (with_reducible refine Calls.mono (new200 hS) ?_); clear hS; rintro e w ⟨S, m, rfl, hA, hS⟩; have HA0 := Lib.hid hA; clear hA)
    | (go_at_call 9; (with_reducible refine Calls.mono (order5 HA0.out hS) ?_); clear hS; rintro e w ⟨A, c, mo, rfl, hO, hS⟩; replace hS := hS.drop; clear hO)
    | ((with_reducible refine isBuildSlice ?_); (refine' bsl hS ?hr ?_); (case hr => (intro w0; go_simp; rfl)); clear hS; intro XS w hS; (try simp only [zF, zG, zE, Act.eval, zD, zC, zA, zB, zJ, Value.cells] at hS); (try simp only [Act.put, zE, zF, zG]))
    | ((with_reducible refine atList ?_); first | ((with_reducible refine isLoad ?_); (first | (refine ld1 0 hS rfl rfl ?ha rfl rfl rfl ?_; (case ha => first | exact ty_agg3)) | ((refine' ldI1 (v := _) hS rfl rfl ?ha rfl ?hb ?_); (case ha => first | exact ty_agg3); (case hb => assumption))); (try simp only [Act.put, zE, zF, zG])) | ((with_reducible refine isStore ?_); (first | (refine st1 0 hS rfl rfl rfl rfl rfl ?ha rfl rfl ?hb ?_; (case ha => first | exact ty_sz3); (case hb => (simp; done)))); clear hS; intro w hS; (try simp only [zF, zG, zE, Act.eval, zD, zC, zA, zB, zJ, Value.cells] at hS); (try simp only [Act.put, zE, zF, zG])) | ((with_reducible refine isBox ?_); refine bx hS rfl rfl rfl ?_; clear hS; intro X w hS; (try simp only [Act.eval, zD, zC, zA, zB, zJ, Value.cells] at hS); (try simp only [Act.put, zE, zF, zG])) | ((with_reducible refine isAlloc ?_); (refine' al (z := _) hS rfl rfl ?ha ?_); (case ha => first | exact ty_z3); clear hS; intro X w hS; (try simp only [Act.eval, zD, zC, zA, zB, zJ, Value.cells] at hS); (try simp only [Act.put, zE, zF, zG]))))
  refine Veil.out ?_
  obtain ⟨J1, a1, e1, hS1, _⟩ := hS.ice
  have hN1 := Lib.hid ((lit5 XS).le e1)
  refine ⟨?_⟩
  have Ha1 := Lib.hid a1
  clear hS e1 a1
  have hS := hS1
  clear hS1
  refine (bits_any x HBx.out hS).mono ?_
  clear hS
  rintro e w ⟨u1, L1, rfl, j1, bx1, hS⟩
  have Hj1 := Lib.hid j1
  have Hx1 := Lib.hid bx1
  clear j1 bx1
  go_wp2_with fail
  refine (build_any hl5 (by decide) (by decide) 6 _ _ _ _ _ _ _ _ _ _ R1.out HK0.out (hN1.out.le Hj1.out) Hx1.out (G.bitsT_len x) HA0.out hS).mono ?_
  clear hS
  rintro e w ⟨rfl, m1, hA1, hS⟩
  replace hS := (hS.less Hj1.out).less Ha1.out
  have HA1 := Lib.hid hA1
  clear hA1
  go_wp2_with (first | ((with_reducible refine isBuildSlice ?_); (refine' bsl hS ?hr ?_); (case hr => (intro w0; go_simp; rfl)); clear hS; intro XS w hS; (try simp only [zF, zG, zE, Act.eval, zD, zC, zA, zB, zJ, Value.cells] at hS); (try simp only [Act.put, zE, zF, zG])))
  refine Veil.out ?_
  obtain ⟨J2, a2, e2, hS2, _⟩ := hS.ice
  have hN2 := Lib.hid ((lit5 XS).le e2)
  refine ⟨?_⟩
  have Ha2 := Lib.hid a2
  clear hS e2 a2
  have hS := hS2
  clear hS2
  refine (bits_any y HBy.out hS).mono ?_
  clear hS
  rintro e w ⟨u2, L2, rfl, j2, bx2, hS⟩
  have Hj2 := Lib.hid j2
  have Hx2 := Lib.hid bx2
  clear j2 bx2
  go_wp2_with fail
  refine (build_any hl5 (by decide) (by decide) 6 _ _ _ _ _ _ _ _ _ _ R2.out K1.out (hN2.out.le Hj2.out) Hx2.out (G.bitsT_len y) HA1.out hS).mono ?_
  clear hS
  rintro e w ⟨rfl, m2, hA2, hS⟩
  replace hS := (hS.less Hj2.out).less Ha2.out
  have HA2 := Lib.hid hA2
  clear hA2
  go_wp2_with (first | ((with_reducible refine isBuildSlice ?_); (refine' bsl hS ?hr ?_); (case hr => (intro w0; go_simp; rfl)); clear hS; intro XS w hS; (try simp only [zF, zG, zE, Act.eval, zD, zC, zA, zB, zJ, Value.cells] at hS); (try simp only [Act.put, zE, zF, zG])) | (go_at_call 12; (with_reducible refine Calls.mono (slen_any (HA2.out.read.le (hS.mle (k := 0) rfl))) ?_); rintro e w9 ⟨rfl, rfl⟩))
  refine Veil.out ?_
  obtain ⟨J3, a3, e3, hS3, _⟩ := hS.ice
  have hN3 := Lib.hid ((lit5 XS).le e3)
  refine ⟨?_⟩
  have Ha3 := Lib.hid a3
  clear hS e3 a3
  have hS := hS3
  clear hS3
  refine (bits_any x HBx.out hS).mono ?_
  clear hS
  rintro e w ⟨u3, L3, rfl, j3, bx3, hS⟩
  have Hj3 := Lib.hid j3
  have Hx3 := Lib.hid bx3
  clear j3 bx3
  go_wp2_with fail
  refine (rnot_any Hx3.out (by rw [G.bitsT_len]; decide) hS).mono ?_
  clear hS
  rintro e w ⟨u4, J9, rfl, j4, bx4, hS⟩
  have Hj4 := Lib.hid j4
  have Hx4 := Lib.hid bx4
  clear j4 bx4
  go_wp2_with fail
  refine (build_any hl5 (by decide) (by decide) 6 _ _ _ _ _ _ _ _ _ _ R3.out K2.out ((hN3.out.le Hj3.out).le Hj4.out) Hx4.out (by rw [G.notT_length]; exact G.bitsT_len x) HA2.out hS).mono ?_
  clear hS
  rintro e w ⟨rfl, m3, hA3, hS⟩
  replace hS := ((hS.less Hj4.out).less Hj3.out).less Ha3.out
  have HA3 := Lib.hid hA3
  clear hA3
  have HT := Lib.hid (fun (w' : World) (h : Sat W (heapOf W) [m3] w') => table_any (f := f) (n := 5) (t := G.bitsT x) (HA3.out.read.le (h.own _ (.head _))) (by omega) (by decide) (G.bitsT_len x) Hval.out h)
  have HL := Lib.hid (fun (w' : World) (h : Sat W (heapOf W) [m3] w') => slen_any (HA3.out.read.le (h.own _ (.head _))))
  have hfb : f < 4611686018427387904 := by omega
  generalize hmany : G.many s2.pl.slots = many at *
  clear HA0 HA1 HA2 R1 R2 R3
  by_cases hxy : (x : Int) = (y : Int)
  case pos =>
    have hfg : (f : Int) = (g : Int) := by
      have h1 : ((x : Int) == (y : Int)) = true := by simpa using hxy
      rw [h1] at hfl
      simpa using hfl
    obtain rfl : x = y := by omega
    obtain rfl : f = g := by omega
    clear hxy hfg
    clear hfl
    go_wp2_with (first
      | (go_at_call 14; (with_reducible refine Calls.mono (enot_any _ f hfb) ?_); rintro e w9 ⟨rfl, rfl⟩)
      | (go_at_call 12; (with_reducible refine Calls.mono (HL.out _ hS) ?_); rintro e w9 ⟨rfl, rfl⟩)
      | (go_at_call 16; (with_reducible refine Calls.mono (HT.out _ hS) ?_); clear hS; rintro e w ⟨vt, mt, rfl, hO, hS⟩; have HO := Lib.hid hO; clear hO)
      | (go_at_call 11; (with_reducible refine Calls.mono (bits_any x HBx.out hS) ?_); clear hS; rintro e w ⟨ub, JB, rfl, jb, bxb, hS⟩; have Hjb := Lib.hid jb; have Hxb := Lib.hid bxb; clear jb bxb)
      | (go_at_call 15; (with_reducible refine Calls.mono (same_two HO.out Hxb.out (by rw [G.bitsT_len]; decide) hS rfl) ?_); clear hS; rintro e w ⟨rfl, hS⟩)
      | (go_at_call 17; (with_reducible refine Calls.mono (lives_any hS) ?_); clear hS; rintro e w ⟨rfl, hS⟩)
      | ((with_reducible refine atList ?_); first | ((with_reducible refine isLoad ?_); (first | (refine ld1 0 hS rfl rfl ?ha rfl rfl rfl ?_; (case ha => first | exact ty_agg3)) | ((refine' ldI1 (v := _) hS rfl rfl ?ha rfl ?hb ?_); (case ha => first | exact ty_agg3); (case hb => assumption))); (try simp only [Act.put, zE, zF, zG])) | ((with_reducible refine isStore ?_); (first | (refine st1 0 hS rfl rfl rfl rfl rfl ?ha rfl rfl ?hb ?_; (case ha => first | exact ty_sz3); (case hb => (simp; done)))); clear hS; intro w hS; (try simp only [zF, zG, zE, Act.eval, zD, zC, zA, zB, zJ, Value.cells] at hS); (try simp only [Act.put, zE, zF, zG])) | ((with_reducible refine isBox ?_); refine bx hS rfl rfl rfl ?_; clear hS; intro X w hS; (try simp only [Act.eval, zD, zC, zA, zB, zJ, Value.cells] at hS); (try simp only [Act.put, zE, zF, zG])) | ((with_reducible refine isAlloc ?_); (refine' al (z := _) hS rfl rfl ?ha ?_); (case ha => first | exact ty_z3); clear hS; intro X w hS; (try simp only [Act.eval, zD, zC, zA, zB, zJ, Value.cells] at hS); (try simp only [Act.put, zE, zF, zG]))))
    go_ret
    exact ⟨rfl, hS.end_ Hjb.out⟩
  case neg =>
    have hfg : ¬ (f : Int) = (g : Int) := by
      have h1 : ((x : Int) == (y : Int)) = false := by simpa using hxy
      rw [h1] at hfl
      simpa using hfl
    have hxyb : ((x : Int) == (y : Int)) = false := by simpa using hxy
    have hfgb : ((f : Int) == (g : Int)) = false := by simpa using hfg
    clear hfl
    go_wp2_with (first
      | (go_at_call 14; (with_reducible refine Calls.mono (enot_any _ f hfb) ?_); rintro e w9 ⟨rfl, rfl⟩)
      | (go_at_call 12; (with_reducible refine Calls.mono (HL.out _ hS) ?_); rintro e w9 ⟨rfl, rfl⟩)
      | (go_at_call 16; (with_reducible refine Calls.mono (HT.out _ hS) ?_); clear hS; rintro e w ⟨vt, mt, rfl, hO, hS⟩; have HO := Lib.hid hO; clear hO)
      | (go_at_call 11; (with_reducible refine Calls.mono (bits_any x HBx.out hS) ?_); clear hS; rintro e w ⟨ub, JB, rfl, jb, bxb, hS⟩; have Hjb := Lib.hid jb; have Hxb := Lib.hid bxb; clear jb bxb)
      | (go_at_call 15; (with_reducible refine Calls.mono (same_two HO.out Hxb.out (by rw [G.bitsT_len]; decide) hS rfl) ?_); clear hS; rintro e w ⟨rfl, hS⟩)
      | (go_at_call 17; (with_reducible refine Calls.mono (lives_any hS) ?_); clear hS; rintro e w ⟨rfl, hS⟩)
      | ((with_reducible refine atList ?_); first | ((with_reducible refine isLoad ?_); (first | (refine ld1 0 hS rfl rfl ?ha rfl rfl rfl ?_; (case ha => first | exact ty_agg3)) | ((refine' ldI1 (v := _) hS rfl rfl ?ha rfl ?hb ?_); (case ha => first | exact ty_agg3); (case hb => assumption))); (try simp only [Act.put, zE, zF, zG])) | ((with_reducible refine isStore ?_); (first | (refine st1 0 hS rfl rfl rfl rfl rfl ?ha rfl rfl ?hb ?_; (case ha => first | exact ty_sz3); (case hb => (simp; done)))); clear hS; intro w hS; (try simp only [zF, zG, zE, Act.eval, zD, zC, zA, zB, zJ, Value.cells] at hS); (try simp only [Act.put, zE, zF, zG])) | ((with_reducible refine isBox ?_); refine bx hS rfl rfl rfl ?_; clear hS; intro X w hS; (try simp only [Act.eval, zD, zC, zA, zB, zJ, Value.cells] at hS); (try simp only [Act.put, zE, zF, zG])) | ((with_reducible refine isAlloc ?_); (refine' al (z := _) hS rfl rfl ?ha ?_); (case ha => first | exact ty_z3); clear hS; intro X w hS; (try simp only [Act.eval, zD, zC, zA, zB, zJ, Value.cells] at hS); (try simp only [Act.put, zE, zF, zG]))))
    go_ret
    exact ⟨rfl, hS.end_ Hjb.out⟩
end Go.Proofs.Ytdhkkkhnjooioaa
