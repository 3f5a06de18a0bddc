/- Joined: Gu, Gv. -/
import Derived.Test.YtdhkkkhnjooioaaFb
/- The plain law of NodesRefuses. -/
namespace Go.Proofs.Ytdhkkkhnjooioaa.G
set_option linter.unusedSimpArgs false
set_option linter.unusedVariables false
variable {B : Nat} {s s' : St}
/-- Which integers are edges, by a list of the nodes. -/
def isIn (f : Int) (l : List (Nat × Nd)) : Bool := l.any fun p => decide (2 ≤ f) && decide (Int.tdiv f 2 = (p.1 : Int))
def isAs (f : Int) (s : St) : Bool := (decide (f = 0) || decide (f = 1)) || isIn f s.nodes
theorem tdiv_two {f : Int} (h : 2 ≤ f) : Int.tdiv f 2 = ((f.toNat / 2 : Nat) : Int) := by
  rw [Int.tdiv_eq_ediv_of_nonneg (by omega)]; omega
theorem isAs_is (f : Int) : isAs f s = s.is f := by
  rw [Bool.eq_iff_iff, is_iff]
  unfold isAs isIn val
  simp only [Bool.or_eq_true, decide_eq_true_eq, List.any_eq_true, Bool.and_eq_true]
  constructor
  · rintro ((rfl | rfl) | ⟨p, hp, h2, he⟩)
    · exact ⟨by decide, .inl (by decide)⟩
    · exact ⟨by decide, .inl (by decide)⟩
    · rw [tdiv_two h2] at he
      refine ⟨by omega, .inr ?_⟩
      have : f.toNat / 2 = p.1 := by omega
      rw [this, mem_nodes.1 hp]; rfl
  · rintro ⟨h0, hc⟩
    by_cases h2 : 2 ≤ f
    · rcases hc with hc | hc
      · omega
      · obtain ⟨n, hn⟩ := Option.isSome_iff_exists.1 hc
        exact .inr ⟨(f.toNat / 2, n), mem_nodes.2 hn, h2, tdiv_two h2⟩
    · left; omega
theorem level_neg (h : StOk B s) (v : Int) : s.level v < 0 ↔ v < 0 ∨ (s.vars.length : Int) ≤ v := by
  rw [h.pm.level]
  by_cases hc : 0 ≤ v ∧ v < s.vars.length
  · rw [if_pos hc]; omega
  · rw [if_neg hc]; omega
/-- Mk with arbitrary integers. -/
structure Mks (B : Nat) (s : St) (v f g : Int) (s' : St) (r e : Nat) : Prop where
  run : s.mkE v f g = some (s', r, e)
  ok : StOk B s'
  isf : s'.is f = s.is f
  isg : s'.is g = s.is g
  e9 : e = 9 ↔ v < 0 ∨ (s.vars.length : Int) ≤ v
  e8 : 0 ≤ v → v < s.vars.length → (e = 8 ↔ ¬ (s.is f = true ∧ s.is g = true))
  bad : e ≠ 0 → many s'.pl.slots = many s.pl.slots
  refs : (∀ i, refsf s.nd i = 0) → ∀ i, refsf s'.nd i = 0
theorem StOk.mks (h : StOk B s) (v f g : Int) : ∃ s' r e, Mks B s v f g s' r e := by
  have hl := level_neg h v
  rcases h.mk_cases v f g with ⟨e, h1, h2, h3⟩ | ⟨n, l, k, m⟩
  · refine ⟨s, 0, e, h1, h, rfl, rfl, ?_, ?_, fun _ => rfl, id⟩
    · rw [← hl]
      unfold St.mkE at h1
      by_cases c1 : s.level v < 0
      · rw [if_pos c1] at h1
        have : 9 = e := by injection h1 with h1; injection h1 with _ h1; injection h1
        simp [c1, ← this]
      · rw [if_neg c1] at h1
        cases c2 : (s.is f && s.is g) with
        | false =>
          rw [c2] at h1
          have : 8 = e := by simpa using h1
          simp [c1, ← this]
        | true =>
          cases c3 : (s.under f.toNat (s.level v) && s.under g.toNat (s.level v)) with
          | false =>
            rw [c2, c3] at h1
            have : 10 = e := by simpa using h1
            simp [c1, ← this]
          | true => rcases h3 with h3 | h3 | h3; exact absurd h3 c1; rw [c2] at h3; cases h3; rw [c3] at h3; cases h3
    · intro a b
      have c1 : ¬ s.level v < 0 := by rw [hl]; omega
      unfold St.mkE at h1
      rw [if_neg c1] at h1
      rw [← Bool.and_eq_true]
      cases c2 : (s.is f && s.is g) with
      | false =>
        rw [c2] at h1
        have : 8 = e := by simpa using h1
        simp [← this]
      | true =>
        cases c3 : (s.under f.toNat (s.level v) && s.under g.toNat (s.level v)) with
        | false =>
          rw [c2, c3] at h1
          have : 10 = e := by simpa using h1
          simp [← this]
        | true => rcases h3 with h3 | h3 | h3; exact absurd h3 c1; rw [c2] at h3; cases h3; rw [c3] at h3; cases h3
  · obtain ⟨rfl, rfl, rfl, g1, g2, g3, g4, g5⟩ := m
    have i1 := is_nat g2
    have i2 := is_nat g3
    have q9 : ¬ ((n : Int) < 0 ∨ (s.vars.length : Int) ≤ (n : Int)) := by omega
    rcases h.make g1 g2 g3 g4 g5 with ⟨r', m1, _⟩ | ⟨m1, _⟩ | ⟨s3, id, t, m1, m2, m3, _⟩
    · exact ⟨_, _, _, m1, h, rfl, rfl, ⟨fun h => absurd h (by decide), fun h => absurd h q9⟩, fun _ _ => by simp [i1, i2], fun _ => rfl, fun h => h⟩
    · exact ⟨_, _, _, m1, h, rfl, rfl, ⟨fun h => absurd h (by decide), fun h => absurd h q9⟩, fun _ _ => by simp [i1, i2], fun _ => rfl, fun h => h⟩
    · have vv : ∀ e, val s.nd e → val s3.nd e := fun e he => by
        rcases he with he | he
        · exact .inl he
        · refine .inr ?_
          rw [m2.nd]
          unfold addN
          by_cases hc : e / 2 = id
          · simp [hc]
          · simp [hc]; simpa using he
      refine ⟨_, _, _, m1, m3, ?_, ?_, ⟨fun h => absurd h (by decide), fun h => absurd h q9⟩, fun _ _ => by simp [i1, i2], fun h => absurd rfl h, fun h i => ?_⟩
      · rw [i1]; exact is_nat (vv _ g2)
      · rw [i2]; exact is_nat (vv _ g3)
      · have := h i
        unfold refsf at this ⊢
        rw [m2.nd]
        unfold addN
        by_cases hc : i = id
        · simp [hc]
        · simpa [hc] using this
/-- Hold, Held and Drop of what nobody holds. -/
structure Hds (s : St) (f : Int) (s1 : St) (e1 : Nat) (s2 : St) (s3 : St) (e3 : Nat) : Prop where
  r1 : s.hold f = some (s1, e1)
  k1 : StOk 1 s1
  r2 : s1.drop f = some (s2, e1)
  k2 : StOk 1 s2
  r3 : s2.drop f = some (s3, e3)
  k3 : StOk 1 s3
  e1 : e1 = if s.is f then 0 else 8
  held : s1.held f = if s.is f && decide (2 ≤ f) then 1 else 0
  e3 : e3 = if s.is f then (if 2 ≤ f then 5 else 0) else 8
theorem StOk.hds (h : StOk 0 s) (h0 : ∀ i, refsf s.nd i = 0) (f : Int) : ∃ s1 e1 s2 s3 e3, Hds s f s1 e1 s2 s3 e3 := by
  rcases h.hold_cases (by decide) f with ⟨hi, hr⟩ | ⟨n, rfl, hv, s1, hr, k1, rr⟩
  · rcases h.drop_cases f with ⟨_, hd⟩ | ⟨n, rfl, hv, _⟩
    · refine ⟨s, 8, s, s, 8, hr, h.mono (by decide), hd, h.mono (by decide), hd, h.mono (by decide), by rw [hi]; rfl, ?_, by rw [hi]; rfl⟩
      rw [hi]; unfold St.held; rw [hi]; rfl
    · rw [is_nat hv] at hi; cases hi
  · have hi := is_nat hv
    by_cases hc : n / 2 = 0
    · -- a constant: nothing is counted
      have hno : ∀ {s : St} {B : Nat}, StOk B s → s.nd (n / 2) = none := fun k => by rw [hc]; exact k.can.toAcyc.g0
      have hdr : ∀ {s : St} {B : Nat}, StOk B s → s.drop (n : Int) = some (s, 0) := fun {s} {B} k => by
        unfold St.drop
        rw [is_nat (show val s.nd n from .inl hc), Int.toNat_natCast, hno k]
        rfl
      refine ⟨s1, 0, s1, s1, 0, hr, k1, hdr k1, k1, hdr k1, k1, by rw [hi]; rfl, ?_, ?_⟩
      · unfold St.held
        rw [is_nat (show val s1.nd n from .inl hc), Int.toNat_natCast, hno k1, hi]
        have : ¬ (2 : Int) ≤ (n : Int) := by omega
        simp [this]
      · have : ¬ (2 : Int) ≤ (n : Int) := by omega
        simp [hi, this]
    · have h2 : (2 : Int) ≤ (n : Int) := by omega
      have hs := hv.resolve_left hc
      have hv1 : val s1.nd n := by
        refine .inr ?_
        have h9 := rr.same.isSome (n / 2)
        rw [h9]; exact hs
      have hs1 := hv1.resolve_left hc
      have q1 : refsf s1.nd (n / 2) = 1 := by
        rw [rr.refs _ hs]; unfold bump; rw [if_pos rfl, h0]; rfl
      rcases k1.drop_cases (n : Int) with ⟨hx, _⟩ | ⟨n', hn', hv', hx⟩
      · rw [is_nat hv1] at hx; cases hx
      · obtain rfl : n = n' := by omega
        rcases hx with ⟨hx, _⟩ | ⟨_, s2, hd, k2, rr2⟩
        · rw [q1] at hx; cases hx
        · have hv2 : val s2.nd n := by
            refine .inr ?_
            have h9 := rr2.same.isSome (n / 2)
            rw [h9]; exact hs1
          have q2 : refsf s2.nd (n / 2) = 0 := by
            rw [rr2.refs _ hs1]; unfold bump; rw [if_pos rfl, q1]; rfl
          rcases k2.drop_cases (n : Int) with ⟨hx, _⟩ | ⟨n', hn', hv', hx⟩
          · rw [is_nat hv2] at hx; cases hx
          · obtain rfl : n = n' := by omega
            rcases hx with ⟨_, hd2⟩ | ⟨hx, _⟩
            · rw [if_neg hc] at hd2
              refine ⟨s1, 0, s2, s2, 5, hr, k1, hd, k2, hd2, k2, by rw [hi]; rfl, ?_, by simp [hi, h2]⟩
              unfold St.held
              rw [is_nat hv1, Int.toNat_natCast, hi]
              obtain ⟨m, hm⟩ := Option.isSome_iff_exists.1 hs1
              have : refsf s1.nd (n / 2) = (m.refs : Int) := by unfold refsf; rw [hm]
              rw [this] at q1
              rw [hm]
              simp [h2]
              omega
            · rw [q2] at hx; omega
/-- At with an arbitrary integer. -/
theorem at_is (h : StOk B s) (f : Int) : (s.at' f).isSome = (s.is f && decide (2 ≤ f)) := by
  unfold St.at'
  by_cases h0 : f < 0
  · rw [if_pos h0]
    have : s.is f = false := by unfold St.is; simp [show ¬ (0 ≤ f) by omega]
    rw [this]; rfl
  · rw [if_neg h0]
    unfold St.at_ St.is
    by_cases h2 : 2 ≤ f
    · have : ¬ f.toNat / 2 = 0 := by omega
      simp [show (0 : Int) ≤ f by omega, h2, this]
    · have : f.toNat / 2 = 0 := by omega
      rw [this, show s.nd 0 = none from h.can.toAcyc.g0]
      simp [h2]
theorem refs_new (n room i : Nat) : refsf (St.new n room).nd i = 0 := by unfold refsf; rw [nd_new]
end Go.Proofs.Ytdhkkkhnjooioaa.G

/- The plain law of NodesSwaps: two held edges. -/
namespace Go.Proofs.Ytdhkkkhnjooioaa.G
set_option linter.unusedSimpArgs false
set_option linter.unusedVariables false
variable {B : Nat} {s s' : St}
/-- Who holds: f once, g once. -/
def heldBy (f g i : Nat) : Int := (if i = f / 2 then 1 else 0) + (if i = g / 2 then 1 else 0)
structure Hel (s : St) (x y : Tb) (f g : Nat) : Prop where
  ok : StOk 2 s
  five : s.vars.length = 5
  vf : val s.nd f
  vg : val s.nd g
  tf : s.tb f = x
  tg : s.tb g = y
  refs : ∀ i, (s.nd i).isSome = true → refsf s.nd i = heldBy f g i
abbrev blw (o : List Nat) (x y : Tb) : List Tb := belowT 6 o y (belowT 6 o x [])
theorem Hel.isT {x y : Tb} {f g : Nat} (h : Hel s x y f g) : IsT s.vars.length x ∧ IsT s.vars.length y := ⟨by rw [← h.tf]; exact isT_tb _ _, by rw [← h.tg]; exact isT_tb _ _⟩
theorem refs_some {G : Gr} {i : Nat} (h : 0 < refsf G i) : (G i).isSome = true := by
  cases hn : G i with
  | none => unfold refsf at h; rw [hn] at h; exact absurd h (by decide)
  | some n => rfl
theorem Hel.live {x y : Tb} {f g : Nat} (h : Hel s x y f g) : (blw s.vars x y).length + s.dead = many s.pl.slots := by
  obtain ⟨hx, hy⟩ := h.isT
  obtain ⟨hd, hm⟩ := belowT_two h.ok.pm.ordr hx hy (k := 6) (by rw [h.five]; decide)
  refine h.ok.live_eq hd fun z => ?_
  rw [hm z]
  constructor
  · rintro (hz | hz)
    · rw [← h.tf] at hz
      obtain ⟨j, hj, hz⟩ := (h.ok.sr_iff h.vf z).1 hz
      obtain ⟨⟨n, hn⟩, _⟩ := hj.some
      refine ⟨f / 2, j, ?_, hj, hz⟩
      rw [h.refs _ (by rw [hn]; rfl)]
      unfold heldBy
      rw [if_pos rfl]
      split <;> omega
    · rw [← h.tg] at hz
      obtain ⟨j, hj, hz⟩ := (h.ok.sr_iff h.vg z).1 hz
      obtain ⟨⟨n, hn⟩, _⟩ := hj.some
      refine ⟨g / 2, j, ?_, hj, hz⟩
      rw [h.refs _ (by rw [hn]; rfl)]
      unfold heldBy
      rw [if_pos (rfl : g / 2 = g / 2)]
      split <;> omega
  · rintro ⟨i, j, hi, hj, hz⟩
    rw [h.refs _ (refs_some hi)] at hi
    unfold heldBy at hi
    by_cases e1 : i = f / 2
    · subst e1
      exact .inl (by rw [← h.tf]; exact (h.ok.sr_iff h.vf z).2 ⟨j, hj, hz⟩)
    · by_cases e2 : i = g / 2
      · subst e2
        exact .inr (by rw [← h.tg]; exact (h.ok.sr_iff h.vg z).2 ⟨j, hj, hz⟩)
      · rw [if_neg e1, if_neg e2] at hi; exact absurd hi (by decide)
theorem heldBy_f (f g : Nat) : 0 < heldBy f g (f / 2) := by unfold heldBy; rw [if_pos rfl]; split <;> omega
theorem heldBy_g (f g : Nat) : 0 < heldBy f g (g / 2) := by unfold heldBy; rw [if_pos (rfl : g / 2 = g / 2)]; split <;> omega
theorem val_none {G : Gr} {e : Nat} (h : val G e) (hn : G (e / 2) = none) : e / 2 = 0 := h.elim id fun h => by rw [hn] at h; cases h
/-- What keeps the held edges keeps all. -/
theorem Hel.keep {x y : Tb} {f g : Nat} (h : Hel s x y f g) (hk : StOk 2 s') (hv : s'.vars.length = s.vars.length) (hr : ∀ i, refsf s'.nd i = refsf s.nd i) (hd : ∀ e, val s.nd e → val s'.nd e → ∀ ρ, den s'.nd e ρ = den s.nd e ρ) : Hel s' x y f g := by
  have hval : ∀ e, val s.nd e → ((s.nd (e / 2)).isSome = true → 0 < refsf s.nd (e / 2)) → val s'.nd e := fun e he hp => by
    rcases he with he | he
    · exact .inl he
    · exact .inr (refs_some (by rw [hr]; exact hp he))
  have vf := hval f h.vf fun hs => by rw [h.refs _ hs]; exact heldBy_f f g
  have vg := hval g h.vg fun hs => by rw [h.refs _ hs]; exact heldBy_g f g
  refine ⟨hk, hv.trans h.five, vf, vg, ?_, ?_, fun i hi => ?_⟩
  · rw [← h.tf]; unfold St.tb; rw [hv, funext (hd f h.vf vf)]
  · rw [← h.tg]; unfold St.tb; rw [hv, funext (hd g h.vg vg)]
  · rw [hr]
    by_cases hs : (s.nd i).isSome = true
    · exact h.refs i hs
    · have hn : s.nd i = none := by cases hc : s.nd i with | none => rfl | some n => rw [hc] at hs; exact absurd rfl hs
      have hi0 : i ≠ 0 := fun e => by rw [e, show s'.nd 0 = none from hk.can.toAcyc.g0] at hi; cases hi
      have r0 : refsf s.nd i = 0 := by unfold refsf; rw [hn]
      rw [r0]
      unfold heldBy
      rw [if_neg, if_neg]
      · rfl
      · rintro rfl; exact hi0 (val_none h.vg hn)
      · rintro rfl; exact hi0 (val_none h.vf hn)
theorem Hel.coll {x y : Tb} {f g : Nat} (h : Hel s x y f g) (c : Coll 2 s s') : Hel s' x y f g := by
  refine h.keep c.ok (by rw [c.vars]) (fun i => ?_) fun e _ he => c.den e he
  rw [c.nd]
  unfold refsf
  by_cases hc : cntf s i = 0
  · simp only [hc, if_true]
    cases hn : s.nd i with
    | none => rfl
    | some n =>
      have h0 : ¬ 0 < refsf s.nd i := fun hp => by
        have := (h.ok.live_iff hn).2 ⟨i, hp, .here hn⟩
        omega
      have h1 := refsf_nonneg s.nd i
      unfold refsf at h0 h1
      rw [hn] at h0 h1
      simp only at h0 h1 ⊢
      omega
  · simp only [hc, if_false]
theorem Hel.swap {x y : Tb} {f g : Nat} (h : Hel s x y f g) {k : Nat} (hk : k < 4) : ∃ s', Hel s' x y f g ∧ s'.pl.room = s.pl.room ∧
    ((s.swap k = some (s', 7) ∧ s'.vars = s.vars ∧ s.pl.room < 3 * (blw s.vars x y).length) ∨ (s.swap k = some (s', 0) ∧ s'.vars = (s.vars.set k (s.vars.getD (k + 1) 0)).set (k + 1) (s.vars.getD k 0))) := by
  obtain ⟨s0, c, hc⟩ := h.ok.swap (by decide) (k := k) (by rw [h.five]; omega)
  have h0 := h.coll c
  rcases hc with ⟨r, hr⟩ | ⟨s2, r, w⟩
  · refine ⟨s0, h0, c.room, .inl ⟨r, c.vars, ?_⟩⟩
    have := h0.live
    rw [c.dead, c.vars, Nat.add_zero] at this
    rw [this, ← c.room]
    exact hr
  · have hv : s2.vars = (s.vars.set k (s.vars.getD (k + 1) 0)).set (k + 1) (s.vars.getD k 0) := by
      rw [w.vars]; unfold St.flipLev; simp only; rw [c.vars]
    refine ⟨s2, h0.keep w.ok (by rw [hv, c.vars]; simp) w.refs w.dens, w.room.trans c.room, .inr ⟨r, hv⟩⟩
theorem Reref.tb {id : Nat} {d : Int} (r : Reref s s' id d) (e : Nat) : s'.tb e = s.tb e := by unfold St.tb; rw [r.vars, r.same.den]
theorem hel_start {x y : Tb} {f g : Nat} (h : StOk 0 s) (h5 : s.vars.length = 5) (vf : val s.nd f) (vg : val s.nd g) (tf : s.tb f = x) (tg : s.tb g = y) (h0 : ∀ i, refsf s.nd i = 0) :
    ∃ s1 s2, s.hold (f : Int) = some (s1, 0) ∧ StOk 1 s1 ∧ s1.hold (g : Int) = some (s2, 0) ∧ Hel s2 x y f g ∧ s2.vars = s.vars ∧ s2.pl.room = s.pl.room := by
  obtain ⟨s1, r1, k1, e1⟩ := h.hold vf (by decide)
  have vg1 : val s1.nd g := e1.same.val.2 vg
  obtain ⟨s2, r2, k2, e2⟩ := k1.hold vg1 (by decide)
  have v2 : s2.vars = s.vars := e2.vars.trans e1.vars
  refine ⟨s1, s2, r1, k1, r2, ⟨k2, by rw [v2, h5], e2.same.val.2 (e1.same.val.2 vf), e2.same.val.2 vg1, by rw [e2.tb, e1.tb, tf], by rw [e2.tb, e1.tb, tg], fun i hi => ?_⟩, v2, e2.room.trans e1.room⟩
  have h1 : (s1.nd i).isSome = true := by rw [← e2.same.isSome]; exact hi
  have hs : (s.nd i).isSome = true := by rw [← e1.same.isSome]; exact h1
  rw [e2.refs i h1]
  unfold bump heldBy
  have := e1.refs i hs
  unfold bump at this
  rw [h0] at this
  by_cases c1 : i = f / 2
  · by_cases c2 : i = g / 2
    · rw [if_pos c1] at this; rw [if_pos c2, if_pos c1, if_pos c2, this]; rfl
    · rw [if_pos c1] at this; rw [if_neg c2, if_pos c1, if_neg c2, this]; rfl
  · by_cases c2 : i = g / 2
    · rw [if_neg c1] at this; rw [if_pos c2, if_neg c1, if_pos c2, this]
    · rw [if_neg c1] at this; rw [if_neg c2, if_neg c1, if_neg c2, this]; rfl
theorem drop_one {f : Nat} (h : StOk 2 s) (hv : val s.nd f) (hr : f / 2 ≠ 0 → 0 < refsf s.nd (f / 2)) : ∃ s1, s.drop (f : Int) = some (s1, 0) ∧ StOk 2 s1 ∧ (∀ e, val s.nd e → val s1.nd e) ∧ (∀ i, (s1.nd i).isSome = true → (s.nd i).isSome = true) ∧ ∀ i, (s.nd i).isSome = true → refsf s1.nd i = refsf s.nd i - (if i = f / 2 then 1 else 0) := by
  obtain ⟨d0, d1⟩ := h.drop hv
  by_cases hz : f / 2 = 0
  · have g0 : s.nd 0 = none := h.can.toAcyc.g0
    have r0 : refsf s.nd (f / 2) = 0 := by rw [hz]; unfold refsf; rw [g0]
    have := d0 r0
    rw [if_pos hz] at this
    refine ⟨s, this, h, fun _ => id, fun _ => id, fun i hi => ?_⟩
    have : ¬ i = f / 2 := fun e => by rw [e, hz, g0] at hi; cases hi
    rw [if_neg this]; omega
  · obtain ⟨s1, r, k, e⟩ := d1 (hr hz)
    refine ⟨s1, r, k, fun e' => e.same.val.2, fun i hi => by rw [← e.same.isSome]; exact hi, fun i hi => ?_⟩
    rw [e.refs i hi]
    unfold bump
    split <;> omega
theorem Hel.drops {x y : Tb} {f g : Nat} (h : Hel s x y f g) : ∃ s1 s2, s.drop (f : Int) = some (s1, 0) ∧ StOk 2 s1 ∧ s1.drop (g : Int) = some (s2, 0) ∧ StOk 2 s2 ∧ s2.dead = many s2.pl.slots := by
  have pf : f / 2 ≠ 0 → 0 < refsf s.nd (f / 2) := fun hz => by rw [h.refs _ (h.vf.resolve_left hz)]; exact heldBy_f f g
  obtain ⟨s1, r1, k1, v1, b1, q1⟩ := drop_one h.ok h.vf pf
  have vg1 := v1 g h.vg
  have pg : g / 2 ≠ 0 → 0 < refsf s1.nd (g / 2) := fun hz => by
    have hs := h.vg.resolve_left hz
    rw [q1 _ hs, h.refs _ hs]
    unfold heldBy
    rw [if_pos (rfl : g / 2 = g / 2)]
    split <;> omega
  obtain ⟨s2, r2, k2, v2, b2, q2⟩ := drop_one k1 vg1 pg
  refine ⟨s1, s2, r1, k1, r2, k2, ?_⟩
  have hno : ∀ i, ¬ 0 < refsf s2.nd i := fun i hi => by
    have i2 := refs_some hi
    have i1 := b2 i i2
    have i0 := b1 i i1
    rw [q2 i i1, q1 i i0, h.refs i i0] at hi
    unfold heldBy at hi
    revert hi
    split <;> split <;> omega
  have := k2.live_eq (L := []) List.nodup_nil fun z => by
    constructor
    · intro hz; cases hz
    · rintro ⟨i, j, hi, _⟩
      exact absurd hi (hno i)
  rw [List.length_nil, Nat.zero_add] at this
  exact this
end Go.Proofs.Ytdhkkkhnjooioaa.G
