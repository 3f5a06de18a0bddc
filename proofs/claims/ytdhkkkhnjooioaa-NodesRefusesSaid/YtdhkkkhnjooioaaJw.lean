/- Two functions built in one store. -/
import Derived.Test.YtdhkkkhnjooioaaJr
namespace Go.Proofs.Ytdhkkkhnjooioaa.G
set_option linter.unusedSimpArgs false
set_option linter.unusedVariables false
variable {B : Nat} {s s' : St}
theorem bitsT_inj {x y : Nat} (hx : x < 4294967296) (hy : y < 4294967296) (h : bitsT x = bitsT y) : x = y :=
  Nat.eq_of_testBit_eq fun i => by
    by_cases hi : i < 32
    · have h1 := bitsT_get (n := x) hi
      rw [h, bitsT_get hi] at h1
      injection h1 with h1
      exact h1.symm
    · have hp : (2 : Nat) ^ 32 ≤ 2 ^ i := Nat.pow_le_pow_right (by decide) (by omega)
      have h32 : (2 : Nat) ^ 32 = 4294967296 := by decide
      rw [Nat.testBit_lt_two_pow (Nat.lt_of_lt_of_le hx (by rw [h32] at hp; exact hp)), Nat.testBit_lt_two_pow (Nat.lt_of_lt_of_le hy (by rw [h32] at hp; exact hp))]
theorem Fits.gro {L : List Tb} {Q : Tb → Prop} (h : Fits s L) (g : Gro Q s s') (hQ : ∀ y, Q y → y ∈ L) : Fits s' L := ⟨by rw [g.room]; exact h.room, fun j n hn => by
  cases h0 : s.nd j with
  | none => exact hQ _ (g.new j n hn h0).2
  | some m => rw [g.tb (val2 h0)]; exact h.all j m h0⟩
abbrev o5 : List Nat := [0, 1, 2, 3, 4]
theorem ordr5 : Ordr 5 o5 := ⟨by decide, by decide⟩
theorem isT5 (x : Nat) : IsT 5 (bitsT x) := bitsT_len x
/-- Two functions are built. -/
structure Two (room x y : Nat) (s1 : St) (f : Nat) (s2 : St) (g : Nat) : Prop where
  r1 : St.build 6 (St.new 5 room) o5 (bitsT x) = some (s1, f, true)
  r2 : St.build 6 s1 o5 (bitsT y) = some (s2, g, true)
  b1 : Built 0 (St.new 5 room) (bitsT x) s1 f
  b2 : Built 0 s1 (bitsT y) s2 g
  v1 : s1.vars = o5
  v2 : s2.vars = o5
  vf : val s2.nd f
  tf : s2.tb f = bitsT x
  fits : Fits s2 (belowT 6 o5 (bitsT y) (belowT 6 o5 (bitsT x) []))
theorem two_ok (room x y : Nat) (h1 : 1 ≤ room) (h2 : room ≤ 1048576) (hroom : (belowT 6 o5 (bitsT y) (belowT 6 o5 (bitsT x) [])).length ≤ room) : ∃ s1 f s2 g, Two room x y s1 f s2 g := by
  obtain ⟨hd, hm⟩ := belowT_two ordr5 (isT5 x) (isT5 y) (k := 6) (by decide)
  have k0 : StOk 0 (St.new 5 room) := StOk.new (by decide) h1 h2
  have hv0 : (St.new 5 room).vars = o5 := rfl
  have F0 := new_fits 5 room _ hroom
  obtain ⟨s1, f, r1, b1⟩ := St.build_ok hd 6 (St.new 5 room) (bitsT x) k0 (isT5 x) (Nat.lt_of_lt_of_le (by decide : 5 < 6) (Nat.le_add_right _ _)) F0 fun z hz => (hm z).2 (.inl hz)
  have g1 := b1.gro
  have v1 : s1.vars = o5 := g1.vars
  have F1 := F0.gro g1 fun z hz => (hm z).2 (.inl hz)
  obtain ⟨s2, g, r2, b2⟩ := St.build_ok hd 6 s1 (bitsT y) b1.ok (by rw [v1]; exact isT5 y) (by rw [v1]; exact Nat.lt_of_lt_of_le (by decide : 5 < 6) (Nat.le_add_right _ _)) F1 fun z hz => (hm z).2 (.inr (by rwa [v1] at hz))
  have g2 := b2.gro
  rw [v1] at r2
  refine ⟨s1, f, s2, g, r1, r2, b1, b2, v1, g2.vars.trans v1, g2.val b1.val, (g2.tb b1.val).trans b1.tb, ?_⟩
  exact F1.gro g2 fun z hz => (hm z).2 (.inr (by rwa [v1] at hz))
theorem below2_len (x y : Nat) : (belowT 6 o5 (bitsT y) (belowT 6 o5 (bitsT x) [])).length ≤ 126 := by
  have h1 := belowT_len 6 o5 (bitsT y) (belowT 6 o5 (bitsT x) [])
  have h2 := belowT_len 6 o5 (bitsT x) []
  simp only [List.length_nil] at h2
  omega
end Go.Proofs.Ytdhkkkhnjooioaa.G
namespace Go.Proofs.Ytdhkkkhnjooioaa
set_option linter.unusedSimpArgs false
set_option linter.unusedVariables false
open Go.RowKit
set_option linter.unusedVariables false
theorem new200 {E w : World} {I : PH} {ms : List PH} (hS : Sat E I ms w) : Calls Try.prog 8 #[.int .i64 5, .int .i64 200] w fun e w' => ∃ S m, e = .returned (.tuple #[vPt S, .int .i64 0]) ∧ StAt S (G.St.new 5 200) m ∧ Sat E I (m :: ms) w' := snew_ok 5 200 (by decide) (by decide) (by decide) hS
theorem order5 {E w : World} {I m : PH} {ms : List PH} {S : Nat} {room : Nat} (hA : StAt S (G.St.new 5 room) m) (hS : Sat E I (m :: ms) w) : Calls Try.prog 9 #[vPt S] w fun e w' => ∃ A c m', e = .returned (.slice A 5 c) ∧ OwnP m' 3 1 (.slice A 5 c) 5 (G.o5.flatMap ivC) ∧ Sat E I (m' :: m :: ms) w' := by
  refine (sorder_any (hA.read.le (hS.own _ (.head _))) hS).mono ?_
  rintro e w' ⟨v, m', rfl, hO, h⟩
  have hO2 : OwnP m' 3 1 v 5 (G.o5.flatMap ivC) := hO
  obtain ⟨A, c, rfl, _⟩ := hO2.shape
  exact ⟨A, c, m', rfl, hO2, h⟩
theorem same_two {E w : World} {I mt : PH} {ms : List PH} {vt u : Value} {l : List Bool} (hO : OwnP mt 4 1 vt l.length (l.flatMap bvC)) (hu : BoolR I u l) (hl : l.length ≤ 4611686018427387904) (hS : Sat E I ms w) (hm : ms[0]? = some mt) :
    Calls Try.prog 15 #[vt, u] w fun e w' => e = .returned (.bool true) ∧ Sat E I ms w' := by
  have := bsame_any (ms := []) (hO.boolR.le (hS.own _ (List.mem_of_getElem? hm))) (hu.le hS.ile) hl (Sat.start w)
  refine this.mono ?_
  rintro e w' ⟨rfl, h9⟩
  exact ⟨by simp, hS.below_ (h9.end_ (PH.le.refl _))⟩
theorem lit5 (X : Nat) : NumR (PH.one X (.cells #[.int .i64 0, .int .i64 1, .int .i64 2, .int .i64 3, .int .i64 4] 3)) (.slice (some ⟨X, 0, none⟩) 5 5) G.o5 := OwnP.num (l := G.o5) (OwnP.lit X 3 1 5 #[.int .i64 0, .int .i64 1, .int .i64 2, .int .i64 3, .int .i64 4] (by decide) rfl)
end Go.Proofs.Ytdhkkkhnjooioaa
