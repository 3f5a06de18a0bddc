import Derived.Test.YtdhkkkhnjooioaaHf
import Derived.Test.YtdhkkkhnjooioaaVf
namespace Go.Proofs.Ytdhkkkhnjooioaa
set_option linter.unusedSimpArgs false
set_option linter.unusedVariables false
open Go.RowKit
set_option linter.unusedVariables false
def entI (e : G.Ent) : Int × Int × Int := (e.lo, e.hi, e.id)
def enI (e : En) : Int × Int × Int := (e.lo, e.hi, e.id)
def TRel (es : List En) (t : List G.Ent) : Prop := es.map enI = t.map entI
theorem TRel.cons {e : En} {es : List En} {t : List G.Ent} (h : TRel (e :: es) t) : ∃ f t', t = f :: t' ∧ e.lo = f.lo ∧ e.hi = f.hi ∧ e.id = f.id ∧ TRel es t' := by
  unfold TRel at h
  cases t with
  | nil => cases h
  | cons f t =>
    rw [List.map_cons, List.map_cons] at h
    injection h with h1 h2
    simp only [enI, entI, Prod.mk.injEq] at h1
    exact ⟨f, t, rfl, h1.1, h1.2.1, h1.2.2, h2⟩
theorem TRel.nil {t : List G.Ent} (h : TRel [] t) : t = [] := by
  unfold TRel at h
  cases t with
  | nil => rfl
  | cons f t => cases h
theorem TRel.len {es : List En} {t : List G.Ent} (h : TRel es t) : es.length = t.length := by simpa using congrArg List.length h
theorem TRel.find : ∀ {es : List En} {t : List G.Ent}, TRel es t → ∀ lo hi : Nat, findE es lo hi = (G.findT t lo hi).map (fun n : Nat => (n : Int))
  | [], t, h, lo, hi => by rw [h.nil]; rfl
  | e :: es, t, h, lo, hi => by
    obtain ⟨f, t', rfl, h1, h2, h3, h4⟩ := h.cons
    have ih := h4.find lo hi
    unfold findE G.findT at *
    by_cases hc : f.lo = lo ∧ f.hi = hi
    · have e1 : decide ((e.lo, e.hi) = ((lo : Int), (hi : Int))) = true := by simp [h1, h2, hc.1, hc.2]
      have e2 : (f.lo == lo && f.hi == hi) = true := by simp [hc.1, hc.2]
      simp only [List.find?_cons, e1, e2]
      simp [h3]
    · have e1 : decide ((e.lo, e.hi) = ((lo : Int), (hi : Int))) = false := by
        simp only [decide_eq_false_iff_not, Prod.mk.injEq, h1, h2]
        rintro ⟨g1, g2⟩
        exact hc ⟨by omega, by omega⟩
      have e2 : (f.lo == lo && f.hi == hi) = false := by
        simp only [Bool.and_eq_false_iff, beq_eq_false_iff_ne]
        by_cases g : f.lo = lo
        · exact .inr fun g2 => hc ⟨g, g2⟩
        · exact .inl g
      simp only [List.find?_cons, e1, e2]
      exact ih
theorem TRel.put {es : List En} {t : List G.Ent} (h : TRel es t) {lo hi id c : Nat} (hf : G.findT t lo hi = none) : TRel (putE es lo hi id c) (G.putT t lo hi id) := by
  unfold G.putT
  rw [hf]
  unfold TRel putE at *
  rw [List.map_append, List.map_append, h]
  rfl
theorem TRel.cut : ∀ {es : List En} {t : List G.Ent}, TRel es t → ∀ lo hi : Nat, TRel (cutE es lo hi) (G.cutT t lo hi)
  | [], t, h, lo, hi => by rw [h.nil]; rfl
  | e :: es, t, h, lo, hi => by
    obtain ⟨f, t', rfl, h1, h2, h3, h4⟩ := h.cons
    have ih := h4.cut lo hi
    unfold cutE G.cutT at *
    by_cases hc : f.lo = lo ∧ f.hi = hi
    · have e1 : decide ((e.lo, e.hi) ≠ ((lo : Int), (hi : Int))) = false := by simp [h1, h2, hc.1, hc.2]
      have e2 : (!(f.lo == lo && f.hi == hi)) = false := by simp [hc.1, hc.2]
      simp only [List.filter_cons, e1, e2, Bool.false_eq_true, if_false]
      exact ih
    · have e1 : decide ((e.lo, e.hi) ≠ ((lo : Int), (hi : Int))) = true := by
        simp only [decide_eq_true_eq, ne_eq, Prod.mk.injEq, h1, h2]
        rintro ⟨g1, g2⟩
        exact hc ⟨by omega, by omega⟩
      have e2 : (!(f.lo == lo && f.hi == hi)) = true := by
        simp only [Bool.not_eq_true', Bool.and_eq_false_iff, beq_eq_false_iff_ne]
        by_cases g : f.lo = lo
        · exact .inr fun g2 => hc ⟨g, g2⟩
        · exact .inl g
      simp only [List.filter_cons, e1, e2, if_true]
      unfold TRel at *
      rw [List.map_cons, List.map_cons, ih]
      simp only [enI, entI, h1, h2, h3]
def TabAt (g : Nat) (t : List G.Ent) (m : PH) : Prop := ∃ M es c, Bd m [tbv g M, tbm M es c] ∧ MapOk (rows es) c ∧ TRel es t
def TabR (I : PH) (g : Nat) (t : List G.Ent) : Prop := ∃ M es c, TbIn I g M es c ∧ MapOk (rows es) c ∧ TRel es t
theorem TabR.le {I J : PH} {g : Nat} {t : List G.Ent} (h : TabR I g t) (hJ : I.le J) : TabR J g t := by
  obtain ⟨M, es, c, h1, h2⟩ := h
  exact ⟨M, es, c, h1.le hJ, h2⟩
theorem TabAt.read {g : Nat} {t : List G.Ent} {m : PH} (h : TabAt g t m) : TabR m g t := by
  obtain ⟨M, es, c, ⟨rfl, hd⟩, h2⟩ := h
  exact ⟨M, es, c, ⟨PH.at_le (PH.all_mem hd (.head _)) (at_one rfl), PH.all_mem hd (.tail _ (.head _)) _ _ (PH.one_self _ _)⟩, h2⟩
theorem tfind_any {w : World} {g : Nat} {t : List G.Ent} (h : TabR (heapOf w) g t) (lo hi : Nat) :
    Calls Try.prog 62 #[vPt g, nv lo, nv hi] w fun e w' => e = .returned (.tuple #[nv ((G.findT t lo hi).getD 0), .bool (G.findT t lo hi).isSome]) ∧ w = w' := by
  obtain ⟨M, es, c, h1, _, h3⟩ := h
  refine (find_any w g M es c lo hi h1).mono ?_
  rintro e w' ⟨rfl, rfl⟩
  refine ⟨?_, rfl⟩
  rw [h3.find lo hi]
  cases G.findT t lo hi <;> rfl
theorem tput_yes {E w : World} {I m : PH} {ms : List PH} {g : Nat} {t : List G.Ent} (hT : TabAt g t m) (lo hi id : Nat) (hf : G.findT t lo hi = none) (hS : Sat E I (m :: ms) w) :
    Calls Try.prog 58 #[vPt g, nv lo, nv hi, nv id] w fun e w' => e = .returned (.int .i64 0) ∧ ∃ m', TabAt g (G.putT t lo hi id) m' ∧ Sat E I (m' :: ms) w' := by
  obtain ⟨M, es, c, hb, hok, hr⟩ := hT
  have hS := Sat.unpack hb hS
  have hfe : findE es lo hi = none := by rw [hr.find, hf]; rfl
  refine (put_yes E w I ms g M es c lo hi id hS hok hfe).mono ?_
  rintro e w' ⟨rfl, hS'⟩
  obtain ⟨m', hb', hS''⟩ := Sat.pack [tbv g M, tbm M (putE es lo hi id c) (c + 1)] hS'
  exact ⟨rfl, m', ⟨M, _, _, hb', hok.pute hfe id, hr.put hf⟩, hS''⟩
theorem tput_no {E w : World} {I m : PH} {ms : List PH} {g : Nat} {t : List G.Ent} (hT : TabAt g t m) (lo hi id i : Nat) (hf : G.findT t lo hi = some i) (hS : Sat E I (m :: ms) w) :
    Calls Try.prog 58 #[vPt g, nv lo, nv hi, nv id] w fun e w' => e = .returned (.int .i64 6) ∧ w = w' := by
  obtain ⟨M, es, c, hb, hok, hr⟩ := hT
  exact put_no E w I ms g M es c lo hi id i (Sat.unpack hb hS) (by rw [hr.find, hf]; rfl)
theorem tcut_yes {E w : World} {I m : PH} {ms : List PH} {g : Nat} {t : List G.Ent} (hT : TabAt g t m) (lo hi i : Nat) (hf : G.findT t lo hi = some i) (hS : Sat E I (m :: ms) w) :
    Calls Try.prog 56 #[vPt g, nv lo, nv hi] w fun e w' => e = .returned (.int .i64 0) ∧ ∃ m', TabAt g (G.cutT t lo hi) m' ∧ Sat E I (m' :: ms) w' := by
  obtain ⟨M, es, c, hb, hok, hr⟩ := hT
  have hS := Sat.unpack hb hS
  refine (cut_yes E w I ms g M es c lo hi i hS hok (by rw [hr.find, hf]; rfl)).mono ?_
  rintro e w' ⟨rfl, hS'⟩
  obtain ⟨m', hb', hS''⟩ := Sat.pack [tbv g M, tbm M (cutE es lo hi) c] hS'
  exact ⟨rfl, m', ⟨M, _, _, hb', hok.cute lo hi, hr.cut lo hi⟩, hS''⟩
theorem cutT_none {t : List G.Ent} {lo hi : Nat} (h : G.findT t lo hi = none) : G.cutT t lo hi = t := by
  unfold G.findT at h
  rw [Option.map_eq_none_iff, List.find?_eq_none] at h
  unfold G.cutT
  rw [List.filter_eq_self]
  intro e he
  have := h e he
  simp only [Bool.not_eq_true] at this
  rw [this]; rfl
theorem tcut_any {E w : World} {I m : PH} {ms : List PH} {g : Nat} {t : List G.Ent} (hT : TabAt g t m) (lo hi : Nat) (hS : Sat E I (m :: ms) w) :
    Calls Try.prog 56 #[vPt g, nv lo, nv hi] w fun e w' => (∃ c, e = .returned (.int .i64 c)) ∧ ∃ m', TabAt g (G.cutT t lo hi) m' ∧ Sat E I (m' :: ms) w' := by
  cases hf : G.findT t lo hi with
  | some i =>
    refine (tcut_yes hT lo hi i hf hS).mono ?_
    rintro e w' ⟨rfl, h⟩
    exact ⟨⟨_, rfl⟩, h⟩
  | none =>
    obtain ⟨M, es, c, hb, hok, hr⟩ := id hT
    refine (cut_no E w I ms g M es c lo hi (Sat.unpack hb hS) (by rw [hr.find, hf]; rfl)).mono ?_
    rintro e w' ⟨rfl, rfl⟩
    rw [cutT_none hf]
    exact ⟨⟨_, rfl⟩, m, hT, hS⟩
theorem tput_any {E w : World} {I m : PH} {ms : List PH} {g : Nat} {t : List G.Ent} (hT : TabAt g t m) (lo hi id : Nat) (hS : Sat E I (m :: ms) w) :
    Calls Try.prog 58 #[vPt g, nv lo, nv hi, nv id] w fun e w' => (∃ c, e = .returned (.int .i64 c)) ∧ ∃ m', TabAt g (G.putT t lo hi id) m' ∧ Sat E I (m' :: ms) w' := by
  cases hf : G.findT t lo hi with
  | none =>
    refine (tput_yes hT lo hi id hf hS).mono ?_
    rintro e w' ⟨rfl, h⟩
    exact ⟨⟨_, rfl⟩, h⟩
  | some i =>
    refine (tput_no hT lo hi id i hf hS).mono ?_
    rintro e w' ⟨rfl, rfl⟩
    have : G.putT t lo hi id = t := by unfold G.putT; rw [hf]
    rw [this]
    exact ⟨⟨_, rfl⟩, m, hT, hS⟩
end Go.Proofs.Ytdhkkkhnjooioaa
