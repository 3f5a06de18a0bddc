/- The plain law of NodesRefuses. -/
import Derived.Test.YtdhkkkhnjooioaaFb
namespace Go.Proofs.Ytdhkkkhnjooioaa.G
set_option linter.unusedSimpArgs false
set_option linter.unusedVariables false
variable {B : Nat} {s s' : St}
/-- Which integers are edges, by a list of the nodes. -/
def isIn (f : Int) (l : List (Nat × Nd)) : Bool := l.any fun p => decide (2 ≤ f) && decide (Int.tdiv f 2 = (p.1 : Int))
def isAs (f : Int) (s : St) : Bool := (decide (f = 0) || decide (f = 1)) || isIn f s.nodes
theorem tdiv_two {f : Int} (h : 2 ≤ f) : Int.tdiv f 2 = ((f.toNat / 2 : Nat) : Int) := by
  rw [Int.tdiv_eq_ediv_of_nonneg (by omega)]; omega
theorem isAs_is (f : Int) : isAs f s = s.is f := by
  rw [Bool.eq_iff_iff, is_iff]
  unfold isAs isIn val
  simp only [Bool.or_eq_true, decide_eq_true_eq, List.any_eq_true, Bool.and_eq_true]
  constructor
  · rintro ((rfl | rfl) | ⟨p, hp, h2, he⟩)
    · exact ⟨by decide, .inl (by decide)⟩
    · exact ⟨by decide, .inl (by decide)⟩
    · rw [tdiv_two h2] at he
      refine ⟨by omega, .inr ?_⟩
      have : f.toNat / 2 = p.1 := by omega
      rw [this, mem_nodes.1 hp]; rfl
  · rintro ⟨h0, hc⟩
    by_cases h2 : 2 ≤ f
    · rcases hc with hc | hc
      · omega
      · obtain ⟨n, hn⟩ := Option.isSome_iff_exists.1 hc
        exact .inr ⟨(f.toNat / 2, n), mem_nodes.2 hn, h2, tdiv_two h2⟩
    · left; omega
theorem level_neg (h : StOk B s) (v : Int) : s.level v < 0 ↔ v < 0 ∨ (s.vars.length : Int) ≤ v := by
  rw [h.pm.level]
  by_cases hc : 0 ≤ v ∧ v < s.vars.length
  · rw [if_pos hc]; omega
  · rw [if_neg hc]; omega
/-- Mk with arbitrary integers. -/
structure Mks (B : Nat) (s : St) (v f g : Int) (s' : St) (r e : Nat) : Prop where
  run : s.mkE v f g = some (s', r, e)
  ok : StOk B s'
  isf : s'.is f = s.is f
  isg : s'.is g = s.is g
  e9 : e = 9 ↔ v < 0 ∨ (s.vars.length : Int) ≤ v
  e8 : 0 ≤ v → v < s.vars.length → (e = 8 ↔ ¬ (s.is f = true ∧ s.is g = true))
  bad : e ≠ 0 → many s'.pl.slots = many s.pl.slots
  refs : (∀ i, refsf s.nd i = 0) → ∀ i, refsf s'.nd i = 0
theorem StOk.mks (h : StOk B s) (v f g : Int) : ∃ s' r e, Mks B s v f g s' r e := by
  have hl := level_neg h v
  rcases h.mk_cases v f g with ⟨e, h1, h2, h3⟩ | ⟨n, l, k, m⟩
  · refine ⟨s, 0, e, h1, h, rfl, rfl, ?_, ?_, fun _ => rfl, id⟩
    · rw [← hl]
      unfold St.mkE at h1
      by_cases c1 : s.level v < 0
      · rw [if_pos c1] at h1
        have : 9 = e := by injection h1 with h1; injection h1 with _ h1; injection h1
        simp [c1, ← this]
      · rw [if_neg c1] at h1
        cases c2 : (s.is f && s.is g) with
        | false =>
          rw [c2] at h1
          have : 8 = e := by simpa using h1
          simp [c1, ← this]
        | true =>
          cases c3 : (s.under f.toNat (s.level v) && s.under g.toNat (s.level v)) with
          | false =>
            rw [c2, c3] at h1
            have : 10 = e := by simpa using h1
            simp [c1, ← this]
          | true => rcases h3 with h3 | h3 | h3; exact absurd h3 c1; rw [c2] at h3; cases h3; rw [c3] at h3; cases h3
    · intro a b
      have c1 : ¬ s.level v < 0 := by rw [hl]; omega
      unfold St.mkE at h1
      rw [if_neg c1] at h1
      rw [← Bool.and_eq_true]
      cases c2 : (s.is f && s.is g) with
      | false =>
        rw [c2] at h1
        have : 8 = e := by simpa using h1
        simp [← this]
      | true =>
        cases c3 : (s.under f.toNat (s.level v) && s.under g.toNat (s.level v)) with
        | false =>
          rw [c2, c3] at h1
          have : 10 = e := by simpa using h1
          simp [← this]
        | true => rcases h3 with h3 | h3 | h3; exact absurd h3 c1; rw [c2] at h3; cases h3; rw [c3] at h3; cases h3
  · obtain ⟨rfl, rfl, rfl, g1, g2, g3, g4, g5⟩ := m
    have i1 := is_nat g2
    have i2 := is_nat g3
    have q9 : ¬ ((n : Int) < 0 ∨ (s.vars.length : Int) ≤ (n : Int)) := by omega
    rcases h.make g1 g2 g3 g4 g5 with ⟨r', m1, _⟩ | ⟨m1, _⟩ | ⟨s3, id, t, m1, m2, m3, _⟩
    · exact ⟨_, _, _, m1, h, rfl, rfl, ⟨fun h => absurd h (by decide), fun h => absurd h q9⟩, fun _ _ => by simp [i1, i2], fun _ => rfl, fun h => h⟩
    · exact ⟨_, _, _, m1, h, rfl, rfl, ⟨fun h => absurd h (by decide), fun h => absurd h q9⟩, fun _ _ => by simp [i1, i2], fun _ => rfl, fun h => h⟩
    · have vv : ∀ e, val s.nd e → val s3.nd e := fun e he => by
        rcases he with he | he
        · exact .inl he
        · refine .inr ?_
          rw [m2.nd]
          unfold addN
          by_cases hc : e / 2 = id
          · simp [hc]
          · simp [hc]; simpa using he
      refine ⟨_, _, _, m1, m3, ?_, ?_, ⟨fun h => absurd h (by decide), fun h => absurd h q9⟩, fun _ _ => by simp [i1, i2], fun h => absurd rfl h, fun h i => ?_⟩
      · rw [i1]; exact is_nat (vv _ g2)
      · rw [i2]; exact is_nat (vv _ g3)
      · have := h i
        unfold refsf at this ⊢
        rw [m2.nd]
        unfold addN
        by_cases hc : i = id
        · simp [hc]
        · simpa [hc] using this
/-- Hold, Held and Drop of what nobody holds. -/
structure Hds (s : St) (f : Int) (s1 : St) (e1 : Nat) (s2 : St) (s3 : St) (e3 : Nat) : Prop where
  r1 : s.hold f = some (s1, e1)
  k1 : StOk 1 s1
  r2 : s1.drop f = some (s2, e1)
  k2 : StOk 1 s2
  r3 : s2.drop f = some (s3, e3)
  k3 : StOk 1 s3
  e1 : e1 = if s.is f then 0 else 8
  held : s1.held f = if s.is f && decide (2 ≤ f) then 1 else 0
  e3 : e3 = if s.is f then (if 2 ≤ f then 5 else 0) else 8
theorem StOk.hds (h : StOk 0 s) (h0 : ∀ i, refsf s.nd i = 0) (f : Int) : ∃ s1 e1 s2 s3 e3, Hds s f s1 e1 s2 s3 e3 := by
  rcases h.hold_cases (by decide) f with ⟨hi, hr⟩ | ⟨n, rfl, hv, s1, hr, k1, rr⟩
  · rcases h.drop_cases f with ⟨_, hd⟩ | ⟨n, rfl, hv, _⟩
    · refine ⟨s, 8, s, s, 8, hr, h.mono (by decide), hd, h.mono (by decide), hd, h.mono (by decide), by rw [hi]; rfl, ?_, by rw [hi]; rfl⟩
      rw [hi]; unfold St.held; rw [hi]; rfl
    · rw [is_nat hv] at hi; cases hi
  · have hi := is_nat hv
    by_cases hc : n / 2 = 0
    · -- a constant: nothing is counted
      have hno : ∀ {s : St} {B : Nat}, StOk B s → s.nd (n / 2) = none := fun k => by rw [hc]; exact k.can.toAcyc.g0
      have hdr : ∀ {s : St} {B : Nat}, StOk B s → s.drop (n : Int) = some (s, 0) := fun {s} {B} k => by
        unfold St.drop
        rw [is_nat (show val s.nd n from .inl hc), Int.toNat_natCast, hno k]
        rfl
      refine ⟨s1, 0, s1, s1, 0, hr, k1, hdr k1, k1, hdr k1, k1, by rw [hi]; rfl, ?_, ?_⟩
      · unfold St.held
        rw [is_nat (show val s1.nd n from .inl hc), Int.toNat_natCast, hno k1, hi]
        have : ¬ (2 : Int) ≤ (n : Int) := by omega
        simp [this]
      · have : ¬ (2 : Int) ≤ (n : Int) := by omega
        simp [hi, this]
    · have h2 : (2 : Int) ≤ (n : Int) := by omega
      have hs := hv.resolve_left hc
      have hv1 : val s1.nd n := by
        refine .inr ?_
        have h9 := rr.same.isSome (n / 2)
        rw [h9]; exact hs
      have hs1 := hv1.resolve_left hc
      have q1 : refsf s1.nd (n / 2) = 1 := by
        rw [rr.refs _ hs]; unfold bump; rw [if_pos rfl, h0]; rfl
      rcases k1.drop_cases (n : Int) with ⟨hx, _⟩ | ⟨n', hn', hv', hx⟩
      · rw [is_nat hv1] at hx; cases hx
      · obtain rfl : n = n' := by omega
        rcases hx with ⟨hx, _⟩ | ⟨_, s2, hd, k2, rr2⟩
        · rw [q1] at hx; cases hx
        · have hv2 : val s2.nd n := by
            refine .inr ?_
            have h9 := rr2.same.isSome (n / 2)
            rw [h9]; exact hs1
          have q2 : refsf s2.nd (n / 2) = 0 := by
            rw [rr2.refs _ hs1]; unfold bump; rw [if_pos rfl, q1]; rfl
          rcases k2.drop_cases (n : Int) with ⟨hx, _⟩ | ⟨n', hn', hv', hx⟩
          · rw [is_nat hv2] at hx; cases hx
          · obtain rfl : n = n' := by omega
            rcases hx with ⟨_, hd2⟩ | ⟨hx, _⟩
            · rw [if_neg hc] at hd2
              refine ⟨s1, 0, s2, s2, 5, hr, k1, hd, k2, hd2, k2, by rw [hi]; rfl, ?_, by simp [hi, h2]⟩
              unfold St.held
              rw [is_nat hv1, Int.toNat_natCast, hi]
              obtain ⟨m, hm⟩ := Option.isSome_iff_exists.1 hs1
              have : refsf s1.nd (n / 2) = (m.refs : Int) := by unfold refsf; rw [hm]
              rw [this] at q1
              rw [hm]
              simp [h2]
              omega
            · rw [q2] at hx; omega
/-- At with an arbitrary integer. -/
theorem at_is (h : StOk B s) (f : Int) : (s.at' f).isSome = (s.is f && decide (2 ≤ f)) := by
  unfold St.at'
  by_cases h0 : f < 0
  · rw [if_pos h0]
    have : s.is f = false := by unfold St.is; simp [show ¬ (0 ≤ f) by omega]
    rw [this]; rfl
  · rw [if_neg h0]
    unfold St.at_ St.is
    by_cases h2 : 2 ≤ f
    · have : ¬ f.toNat / 2 = 0 := by omega
      simp [show (0 : Int) ≤ f by omega, h2, this]
    · have : f.toNat / 2 = 0 := by omega
      rw [this, show s.nd 0 = none from h.can.toAcyc.g0]
      simp [h2]
theorem refs_new (n room i : Nat) : refsf (St.new n room).nd i = 0 := by unfold refsf; rw [nd_new]
end Go.Proofs.Ytdhkkkhnjooioaa.G
