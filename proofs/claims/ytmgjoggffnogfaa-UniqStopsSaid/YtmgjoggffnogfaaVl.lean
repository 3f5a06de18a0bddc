/- uniq: the reference's list and the table's entries: plain facts. -/
import Derived.Test.YtmgjoggffnogfaaVi
import Derived.Test.YtmgjoggffnogfaaVf
namespace Go.Proofs.Ytmgjoggffnogfaa
set_option linter.unusedSimpArgs false
set_option linter.unusedVariables false
open Go.RowKit Go.Lib Go.Sort
set_option linter.unusedVariables false
/-- An entry of the reference's list. -/
structure Ne where
  lo : Int
  hi : Int
  id : Int
deriving DecidableEq
def Ne.lt (a b : Ne) : Prop := a.id < b.id ∨ a.id = b.id ∧ (a.lo < b.lo ∨ a.lo = b.lo ∧ a.hi < b.hi)
instance (a b : Ne) : Decidable (a.lt b) := by unfold Ne.lt; exact inferInstance
def aheadB (a b : Ne) : Bool := decide (a.lt b)
def En.ne (e : En) : Ne := ⟨e.lo, e.hi, e.id⟩
def outE (es : List En) : List Ne := (srtE es).map fun k => ⟨k.1, k.2, idE es k⟩
theorem find_of_mem {es : List En} {c : Nat} (h : MapOk (rows es) c) {e : En} (he : e ∈ es) : findE es e.lo e.hi = some e.id := by
  have hk : (es.map fun e => e.row.k).Nodup := by
    have := h.keys
    unfold rows at this
    rw [List.map_map] at this
    exact this
  unfold findE
  induction es with
  | nil => cases he
  | cons x es ih =>
    have hn := List.nodup_cons.1 (by simpa using hk : ((x.row).k :: es.map (fun e => e.row.k)).Nodup)
    rw [List.find?_cons]
    rcases List.mem_cons.1 he with rfl | he'
    · simp
    · have hne : ¬ ((x.lo, x.hi) = (e.lo, e.hi)) := fun h0 => hn.1 (by
        have : x.row.k = e.row.k := h0
        rw [this]
        exact List.mem_map_of_mem (f := fun e => e.row.k) he')
      rw [decide_eq_false hne]
      refine ih ?_ he' ?_
      · refine ⟨?_, ?_, fun r hr => h.old r (by unfold rows at hr ⊢; exact List.mem_cons_of_mem _ hr)⟩
        · unfold rows; rw [List.map_map]; exact hn.2
        · have := h.born
          unfold rows at this ⊢
          exact (List.nodup_cons.1 (by simpa using this : (x.row.b :: (es.map En.row).map (·.b)).Nodup)).2
      · exact hn.2
theorem find_some {es : List En} {lo hi i : Int} (h : findE es lo hi = some i) : ∃ e ∈ es, e.lo = lo ∧ e.hi = hi ∧ e.id = i := by
  unfold findE at h
  cases hf : List.find? (fun e : En => decide ((e.lo, e.hi) = (lo, hi))) es with
  | none => rw [hf] at h; cases h
  | some e =>
    rw [hf] at h
    have h1 := List.find?_some hf
    simp only [decide_eq_true_eq, Prod.mk.injEq] at h1
    exact ⟨e, List.mem_of_find?_eq_some hf, h1.1, h1.2, by simpa using h⟩
theorem find_none {es : List En} {lo hi : Int} (h : findE es lo hi = none) : ∀ e ∈ es, ¬ (e.lo = lo ∧ e.hi = hi) := by
  unfold findE at h
  simp only [Option.map_eq_none_iff, List.find?_eq_none, decide_eq_true_eq, Prod.mk.injEq] at h
  exact h
theorem mem_out {es : List En} {c : Nat} (h : MapOk (rows es) c) (n : Ne) : n ∈ outE es ↔ ∃ e ∈ es, n = e.ne := by
  unfold outE srtE
  simp only [List.mem_map, List.mem_mergeSort]
  constructor
  · rintro ⟨k, ⟨e, he, rfl⟩, rfl⟩
    refine ⟨e, he, ?_⟩
    unfold idE En.key En.ne
    rw [find_of_mem h he]
    rfl
  · rintro ⟨e, he, rfl⟩
    refine ⟨e.key, ⟨e, he, rfl⟩, ?_⟩
    unfold idE En.key En.ne
    rw [find_of_mem h he]
    rfl
theorem out_sorted {es : List En} {c : Nat} (h : MapOk (rows es) c) : (outE es).Pairwise Ne.lt := by
  have h1 : (srtE es).Pairwise fun x y => (!(ltOf (cfE es)) y x) = true := List.pairwise_mergeSort (fun a b c h1 h2 => by
      simp only [Bool.not_eq_true'] at *
      exact (cf_swo es).ntrans _ _ _ h2 h1) (fun a b => by
      cases hab : ltOf (cfE es) b a with
      | false => rfl
      | true =>
        cases hba : ltOf (cfE es) a b with
        | false => rfl
        | true =>
          have := (cf_swo es).trans _ _ _ hab hba
          rw [(cf_swo es).irrefl] at this; cases this) _
  have h2 := srt_nodup h
  unfold outE
  rw [List.pairwise_map]
  refine (h1.and h2).imp ?_
  intro a b hab
  obtain ⟨ha, hne⟩ := hab
  simp only [Bool.not_eq_true'] at ha
  cases hb : ltOf (cfE es) a b with
  | false => exact absurd (cf_tot es a b hb ha) hne
  | true =>
    rw [cf_lt] at hb
    simp only [decide_eq_true_eq] at hb
    exact hb
theorem Ne.irrefl (a : Ne) : ¬ a.lt a := by unfold Ne.lt; omega
theorem Ne.trans {a b c : Ne} (h1 : a.lt b) (h2 : b.lt c) : a.lt c := by unfold Ne.lt at *; omega
theorem Ne.total {a b : Ne} (h : ¬ (a.lo = b.lo ∧ a.hi = b.hi)) : a.lt b ∨ b.lt a := by unfold Ne.lt; omega
theorem nd_of {l : List Ne} (h : l.Pairwise Ne.lt) : l.Nodup :=
  List.Pairwise.imp (S := fun a b => a ≠ b) (fun {a b} hab e => by subst e; exact Ne.irrefl _ hab) h
theorem sorted_unique {l l' : List Ne} (h : l.Pairwise Ne.lt) (h' : l'.Pairwise Ne.lt) (hm : ∀ n, n ∈ l ↔ n ∈ l') : l = l' := by
  refine List.Perm.eq_of_pairwise (le := Ne.lt) (fun a b _ _ h1 h2 => absurd (Ne.trans h1 h2) (Ne.irrefl a)) h h' ?_
  exact (List.perm_ext_iff_of_nodup (nd_of h) (nd_of h')).2 hm
theorem out_unique {es : List En} {c : Nat} (h : MapOk (rows es) c) {ys : List Ne} (h1 : ys.Pairwise Ne.lt) (h2 : ∀ n, n ∈ ys ↔ ∃ e ∈ es, n = e.ne) : ys = outE es :=
  sorted_unique h1 (out_sorted h) fun n => (h2 n).trans (mem_out h n).symm
/-- The reference's Put and Cut, Find. -/
def putN (l : List Ne) (x : Ne) : List Ne := (l.filter fun y => aheadB y x) ++ [x] ++ l.filter fun y => aheadB x y
def fIdx (l : List Ne) (lo hi : Int) : Option Nat := l.findIdx? fun n => n.lo == lo && n.hi == hi
theorem out_put {es : List En} {c : Nat} (h : MapOk (rows es) c) {lo hi id : Int} (hf : findE es lo hi = none) : putN (outE es) ⟨lo, hi, id⟩ = outE (putE es lo hi id c) := by
  have hs := out_sorted h
  refine out_unique (h.pute hf id) ?_ ?_
  · unfold putN
    rw [List.append_assoc]
    refine List.pairwise_append.2 ⟨hs.filter _, ?_, fun a ha b hb => ?_⟩
    · refine List.pairwise_append.2 ⟨by simp, hs.filter _, fun a ha b hb => ?_⟩
      simp only [List.mem_singleton] at ha
      subst ha
      have := (List.mem_filter.1 hb).2
      exact of_decide_eq_true this
    · have h1 : a.lt ⟨lo, hi, id⟩ := of_decide_eq_true (List.mem_filter.1 ha).2
      rcases List.mem_append.1 hb with hb | hb
      · simp only [List.mem_singleton] at hb
        subst hb
        exact h1
      · exact Ne.trans h1 (of_decide_eq_true (List.mem_filter.1 hb).2)
  · intro n
    unfold putN putE
    simp only [List.mem_append, List.mem_filter, List.mem_singleton]
    constructor
    · rintro ((⟨h1, _⟩ | h1) | ⟨h1, _⟩)
      · obtain ⟨e, he, rfl⟩ := (mem_out h n).1 h1
        exact ⟨e, .inl he, rfl⟩
      · exact ⟨_, .inr rfl, h1⟩
      · obtain ⟨e, he, rfl⟩ := (mem_out h n).1 h1
        exact ⟨e, .inl he, rfl⟩
    · rintro ⟨e, he | rfl, rfl⟩
      · have hm := (mem_out h e.ne).2 ⟨e, he, rfl⟩
        rcases Ne.total (a := e.ne) (b := ⟨lo, hi, id⟩) (find_none hf e he) with h1 | h1
        · exact .inl (.inl ⟨hm, decide_eq_true h1⟩)
        · exact .inr ⟨hm, decide_eq_true h1⟩
      · exact .inl (.inr rfl)
theorem fIdx_none {es : List En} {c : Nat} (h : MapOk (rows es) c) {lo hi : Int} (hf : findE es lo hi = none) : fIdx (outE es) lo hi = none := by
  unfold fIdx
  rw [List.findIdx?_eq_none_iff]
  intro n hn
  obtain ⟨e, he, rfl⟩ := (mem_out h n).1 hn
  have := find_none hf e he
  simp only [Bool.and_eq_false_iff, beq_eq_false_iff_ne]
  by_cases h1 : e.ne.lo = lo
  · exact .inr fun h2 => this ⟨h1, h2⟩
  · exact .inl h1
theorem fIdx_some {es : List En} {c : Nat} (h : MapOk (rows es) c) {lo hi i : Int} (hf : findE es lo hi = some i) : ∃ k, fIdx (outE es) lo hi = some k ∧ (outE es)[k]? = some ⟨lo, hi, i⟩ ∧ (outE es).eraseIdx k = outE (cutE es lo hi) := by
  obtain ⟨e, he, rfl, rfl, rfl⟩ := find_some hf
  have hm := (mem_out h e.ne).2 ⟨e, he, rfl⟩
  have huniq : ∀ n ∈ outE es, n.lo = e.lo → n.hi = e.hi → n = e.ne := fun n hn h1 h2 => by
    obtain ⟨e', he', rfl⟩ := (mem_out h n).1 hn
    have a1 := find_of_mem h he
    have a2 := find_of_mem h he'
    have h1' : e'.lo = e.lo := h1
    have h2' : e'.hi = e.hi := h2
    rw [h1', h2', a1] at a2
    unfold En.ne
    rw [h1', h2', Option.some.inj a2]
  cases hk : fIdx (outE es) e.lo e.hi with
  | none =>
    unfold fIdx at hk
    rw [List.findIdx?_eq_none_iff] at hk
    have := hk _ hm
    simp [En.ne] at this
  | some k =>
    unfold fIdx at hk
    obtain ⟨hlt, hp, _⟩ := List.findIdx?_eq_some_iff_getElem.1 hk
    simp only [Bool.and_eq_true, beq_iff_eq] at hp
    have hget := huniq _ (List.getElem_mem hlt) hp.1 hp.2
    refine ⟨k, rfl, by rw [List.getElem?_eq_getElem hlt, hget]; rfl, ?_⟩
    refine out_unique (h.cute e.lo e.hi) ((out_sorted h).sublist (List.eraseIdx_sublist _ _)) fun n => ?_
    have nd : (outE es).Nodup := nd_of (out_sorted h)
    have hmem : n ∈ (outE es).eraseIdx k ↔ n ∈ outE es ∧ n ≠ (outE es)[k] := by
      rw [List.mem_eraseIdx_iff_getElem]
      constructor
      · rintro ⟨j, hj, hjk, rfl⟩
        exact ⟨List.getElem_mem hj, fun he => hjk ((List.getElem_inj nd).1 he)⟩
      · rintro ⟨h1, h2⟩
        obtain ⟨j, hj, rfl⟩ := List.mem_iff_getElem.1 h1
        exact ⟨j, hj, fun e => h2 (by subst e; rfl), rfl⟩
    rw [hmem, hget, mem_out h]
    unfold cutE
    simp only [List.mem_filter, decide_eq_true_eq, ne_eq, Prod.mk.injEq]
    constructor
    · rintro ⟨⟨e', he', rfl⟩, hne⟩
      refine ⟨e', ⟨he', fun h2 => hne (huniq _ ((mem_out h _).2 ⟨e', he', rfl⟩) h2.1 h2.2)⟩, rfl⟩
    · rintro ⟨e', ⟨he', hne⟩, rfl⟩
      refine ⟨⟨e', he', rfl⟩, fun h2 => hne ?_⟩
      have h3 : e'.ne.lo = e.ne.lo := by rw [h2]
      have h4 : e'.ne.hi = e.ne.hi := by rw [h2]
      exact ⟨h3, h4⟩
theorem out_nil : outE [] = [] := by simp [outE, srtE]
theorem out_len (es : List En) : (outE es).length = es.length := by unfold outE; rw [List.length_map, srt_len]
end Go.Proofs.Ytmgjoggffnogfaa
