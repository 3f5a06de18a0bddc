/- The order of Table.Each: plain facts. -/
import Derived.Test.YtmgjoggffnogfaaVh
namespace Go.Proofs.Ytmgjoggffnogfaa
set_option linter.unusedSimpArgs false
set_option linter.unusedVariables false
open Go.RowKit Go.Lib Go.Sort
set_option linter.unusedVariables false
theorem cf_lt (es : List En) (x y : Int × Int) : ltOf (cfE es) x y = decide (idE es x < idE es y ∨ idE es x = idE es y ∧ (x.1 < y.1 ∨ x.1 = y.1 ∧ x.2 < y.2)) := by
  unfold ltOf cfE orV compareInt
  refine decide_eq_decide.2 ?_
  generalize idE es x = i
  generalize idE es y = j
  obtain ⟨a, b⟩ := x
  obtain ⟨c, d⟩ := y
  simp only
  rcases Int.lt_trichotomy i j with h | h | h
  · simp [h]
  · subst h
    rcases Int.lt_trichotomy a c with h | h | h
    · simp [h]
    · subst h
      rcases Int.lt_trichotomy b d with h | h | h
      · simp [h]
      · subst h; simp
      · have h' : ¬ b < d := by omega
        simp [h, h']
    · have h' : ¬ a < c := by omega
      have h'' : ¬ a = c := by omega
      simp [h, h', h'']
  · have h' : ¬ i < j := by omega
    have h'' : ¬ i = j := by omega
    simp [h, h', h'']
theorem cf_swo (es : List En) : SWO (ltOf (cfE es)) where
  irrefl x := by rw [cf_lt]; simp
  trans x y z h1 h2 := by rw [cf_lt] at *; simp only [decide_eq_true_eq] at *; omega
  ntrans x y z h1 h2 := by rw [cf_lt] at *; simp only [decide_eq_false_iff_not] at *; omega
theorem cf_tot (es : List En) (x y : Int × Int) (h1 : ltOf (cfE es) x y = false) (h2 : ltOf (cfE es) y x = false) : x = y := by
  rw [cf_lt] at h1 h2
  simp only [decide_eq_false_iff_not] at h1 h2
  have : x.1 = y.1 ∧ x.2 = y.2 := by omega
  exact Prod.ext this.1 this.2
def En.key (e : En) : Int × Int := (e.lo, e.hi)
def srtE (es : List En) : List (Int × Int) := (es.map En.key).mergeSort fun x y => !(ltOf (cfE es)) y x
theorem srt_perm {es : List En} {l : List (Int × Int)} (h : l.Perm (es.map En.key)) : (l.mergeSort fun x y => !(ltOf (cfE es)) y x) = srtE es := by
  unfold srtE
  have sorted : ∀ l : List (Int × Int), (l.mergeSort fun x y => !(ltOf (cfE es)) y x).Pairwise fun x y => (!(ltOf (cfE es)) y x) = true := fun l =>
    List.pairwise_mergeSort (fun a b c h1 h2 => by
      simp only [Bool.not_eq_true'] at *
      exact (cf_swo es).ntrans _ _ _ h2 h1) (fun a b => by
      cases hab : ltOf (cfE es) b a with
      | false => rfl
      | true =>
        cases hba : ltOf (cfE es) a b with
        | false => rfl
        | true =>
          have := (cf_swo es).trans _ _ _ hab hba
          rw [(cf_swo es).irrefl] at this; cases this) l
  refine List.Perm.eq_of_pairwise (le := fun x y => (!(ltOf (cfE es)) y x) = true) (fun a b _ _ h1 h2 => ?_) (sorted l) (sorted _) (((List.mergeSort_perm _ _).trans h).trans (List.mergeSort_perm _ _).symm)
  simp only [Bool.not_eq_true'] at h1 h2
  exact cf_tot es a b h2 h1
theorem srt_len (es : List En) : (srtE es).length = es.length := by unfold srtE; simp
theorem srt_nodup {es : List En} {c : Nat} (h : MapOk (rows es) c) : (srtE es).Nodup := by
  unfold srtE
  rw [(List.mergeSort_perm _ _).nodup_iff]
  have := h.keys
  unfold rows at this
  rw [List.map_map] at this
  exact this
theorem encE_len (x : Int × Int) : (encE x).length = 2 := rfl
theorem encE_one (x : Int × Int) : ∀ v ∈ encE x, v.oneCell' = true := by
  intro v hv
  simp [encE] at hv
  rcases hv with rfl | rfl <;> rfl
end Go.Proofs.Ytmgjoggffnogfaa
