/- slices.SortFunc over a row of the call's own, in pieces. -/
import Derived.Test.YtmgjoggffnogfaaVb
import Derived.Shelf.SlSortCmp.NoneTotal
namespace Go.Proofs.Ytmgjoggffnogfaa
set_option linter.unusedSimpArgs false
set_option linter.unusedVariables false
open Go.RowKit Go.Sort Go.Shelf Go.Lib
set_option linter.unusedSectionVars false
section
variable {α : Type} [Inhabited α] {enc : α → List Value} {k : Nat}
theorem flat_len (hk : ∀ x, (enc x).length = k) : ∀ l : List α, (l.flatMap enc).length = l.length * k
  | [] => by simp
  | x :: l => by rw [List.flatMap_cons, List.length_append, hk, flat_len hk l, List.length_cons, Nat.add_mul, Nat.one_mul, Nat.add_comm]
theorem flat_get (hk : ∀ x, (enc x).length = k) (k0 : 0 < k) : ∀ (l : List α) (t : Nat), t < l.length * k → (l.flatMap enc)[t]? = some ((enc (l[t / k]!))[t % k]!)
  | [], t, h => by simp at h
  | x :: l, t, h => by
    rw [List.flatMap_cons]
    by_cases ht : t < k
    · rw [List.getElem?_append_left (by rw [hk]; exact ht), Nat.div_eq_of_lt ht, Nat.mod_eq_of_lt ht]
      have : t < (enc x).length := by rw [hk]; exact ht
      simp [this]
    · have ht' : k ≤ t := by omega
      rw [List.getElem?_append_right (by rw [hk]; exact ht'), hk, flat_get hk k0 l (t - k) (by rw [List.length_cons, Nat.add_mul] at h; omega)]
      have e1 : t / k = (t - k) / k + 1 := by
        rw [show t = (t - k) + k by omega, Nat.add_div_right _ k0]; simp
      have e2 : t % k = (t - k) % k := by
        conv => lhs; rw [show t = (t - k) + k by omega, Nat.add_mod_right]
      rw [e1, e2]
      simp
theorem flatK_list (hk : ∀ x, (enc x).length = k) (k0 : 0 < k) (l : List α) : (flatK enc k l.toArray).toList = l.flatMap enc := by
  apply List.ext_getElem?
  intro t
  by_cases ht : t < l.length * k
  · rw [flat_get hk k0 l t ht, Array.getElem?_toList]
    have hs : t < (flatK enc k l.toArray).size := by simpa using ht
    rw [Array.getElem?_eq_getElem hs]
    have := get_flatK enc k l.toArray t (by simpa using ht)
    rw [getElem!_pos _ t hs] at this
    rw [this]
    simp
  · rw [List.getElem?_eq_none (by simp; omega), List.getElem?_eq_none (by rw [flat_len hk]; omega)]
end
section
variable {α : Type} [Inhabited α] {enc : α → List Value} {k : Nat} {E w : World} {I m : PH} {ms : List PH} {e : TypeId} {l l' : List α}
theorem OwnP.holds (hk : ∀ x, (enc x).length = k) (k0 : 0 < k) {g cap : Nat} {cur : Array Value} (hg : w.heap[g]? = some (.cells cur e (0, 0))) (hc : cap * k ≤ cur.size) (hn : l.length ≤ cap) (ht : cur.toList.take (l.length * k) = l.flatMap enc) :
    HoldsK enc k w g 0 l.toArray := by
  intro j hj
  rw [size_flatK] at hj
  have hj' : j < l.length * k := by simpa using hj
  have h1 : (l.flatMap enc)[j]? = cur.toList[j]? := by rw [← ht, List.getElem?_take_of_lt hj']
  have h2 : (flatK enc k l.toArray)[j]? = cur[j]? := by
    rw [← Array.getElem?_toList, flatK_list hk k0, h1, Array.getElem?_toList]
  have h3 : j < (flatK enc k l.toArray).size := by simpa using hj'
  rw [Array.getElem?_eq_getElem h3] at h2
  refine ⟨?_, by simp [World.frozen?, hg]⟩
  rw [Nat.zero_add, cell_of_row w g j cur e (0, 0) hg, ← h2, getElem!_pos _ j h3]
  rfl
/-- Behind the sort. -/
theorem OwnP.sorted (hk : ∀ x, (enc x).length = k) (k0 : 0 < k) {g cap nn : Nat} {cur : Array Value} {os : Array Obj} (hS : Sat E I (PH.one g (.cells cur e (0, 0)) :: ms) w) (hl : l'.length = l.length) (hcm : cap ≤ maxLen) (hc : cap * k ≤ cur.size) (hn : l.length ≤ cap) :
    ∃ m', OwnP m' e k (.slice (some ⟨g, 0, none⟩) l.length cap) l.length (l'.flatMap enc) ∧ Sat E I (m' :: ms) (sortWorldK enc k w g 0 nn l'.toArray os) := by
  have hg := hS.own _ (.head _) g _ (PH.one_self _ _)
  have hlt : g < w.heap.size := (Array.getElem?_eq_some_iff.1 hg).1
  have hnew : (sortWorldK enc k w g 0 nn l'.toArray os).heap[g]? = some (.cells (putCells id 0 (flatK enc k l'.toArray) cur) e (0, 0)) := by
    unfold sortWorldK grow putRowK putRow mapBlock
    simp only
    rw [Array.getElem?_append_left (by simpa using hlt)]
    simp [Array.getElem?_modify, hg, onCells]
  have hmul : l.length * k ≤ cur.size := Nat.le_trans (Nat.mul_le_mul_right k hn) hc
  refine ⟨PH.one g (.cells (putCells id 0 (flatK enc k l'.toArray) cur) e (0, 0)), ⟨by rw [flat_len hk, hl], .inr ⟨g, cap, _, rfl, rfl, hn, hcm, by simpa [putCells] using hc, ?_⟩⟩, ?_⟩
  · apply List.ext_getElem?
    intro t
    by_cases ht : t < l.length * k
    · rw [List.getElem?_take_of_lt ht, Array.getElem?_toList, ← flatK_list hk k0 l', Array.getElem?_toList]
      have h1 : t < (flatK enc k l'.toArray).size := by rw [size_flatK]; simpa [hl] using ht
      have h2 : t < cur.size := by omega
      simp only [putCells, Array.getElem?_mapIdx, Array.getElem?_eq_getElem h2, Option.map_some, Nat.zero_le, true_and, Nat.zero_add, if_pos h1, Nat.sub_zero, Array.getElem?_eq_getElem h1, getElem!_pos (flatK enc k l'.toArray) t h1]
      rfl
    · rw [List.getElem?_take_eq_none (by omega), List.getElem?_eq_none (by rw [flat_len hk, hl]; omega)]
  · refine hS.change ?_ rfl rfl rfl (fun b hb hm => ?_) (fun b u hb => ?_) (fun b hb _ => ?_)
    · unfold sortWorldK grow putRowK putRow mapBlock Sort.ahead
      simp
    · have hne : g ≠ b := by
        rintro rfl
        rw [PH.one_self] at hm; cases hm
      unfold sortWorldK grow putRowK putRow mapBlock
      simp only
      rw [Array.getElem?_append_left (by simpa using hb)]
      simp [Array.getElem?_modify, hne]
    · obtain ⟨rfl, rfl⟩ := PH.one_some hb
      exact hnew
    · unfold PH.one at hb ⊢
      split at hb
      · cases hb
      · rename_i hne; rw [if_neg hne]
theorem sortWorldK_block (l0 : Array α) {g b mm : Nat} {os : Array Obj} {o : Obj} (hb : w.heap[b]? = some o) (hne : b ≠ g) : (sortWorldK enc k w g 0 mm l0 os).heap[b]? = some o := by
  have hlt : b < w.heap.size := (Array.getElem?_eq_some_iff.1 hb).1
  unfold sortWorldK grow putRowK putRow mapBlock
  simp only
  rw [Array.getElem?_append_left (by simpa using hlt)]
  simp [Array.getElem?_modify, Ne.symm hne, hb]
/-- slices.SortFunc over the k-th piece. -/
theorem sortFunc_S {P : Program} {ρ : Ren} (L : SlLaysF0.n6 P ρ) (hk : ∀ x, (enc x).length = k) (k0 : 0 < k) (aE : ∀ w, (isAgg (ρ.t 24)).run P w = .ok true w) (zE : ∀ w, (Go.sizeOf (ρ.t 24)).run P w = .ok k w)
    (h1 : ∀ x, ∀ v ∈ enc x, v.oneCell' = true) (cf : α → α → Int) (hO : SWO (ltOf cf)) (hT : ∀ x y, (ltOf cf) x y = false → (ltOf cf) y x = false → x = y) (c : Nat) (cb : Array Value)
    (eg : ∀ args w, (callFunc c args).run P w = .ok (.enter c args) w) (hS : Sat E I ms w) (j : Nat) (hm : ms[j]? = some m) {v : Value} (hown : OwnP m e k v l.length (l.flatMap enc)) (hlen : l.length < 4611686018427387904)
    (hcmp : ∀ W : World, (∀ b o, w.heap[b]? = some o → m b = none → W.heap[b]? = some o) → ∀ x y : α, Calls P c (#[.agg (enc x).toArray, .agg (enc y).toArray] ++ cb) W fun e w' => e = .returned (.int .i64 (cf x y)) ∧ ∃ q os', w' = grow (W.drewN q) os') :
    Calls P (ρ.f 6) #[v, .func (.func c) #[] cb] w fun e' w' => e' = .returned (.tuple #[]) ∧ ∃ m', OwnP m' e k v l.length ((l.mergeSort fun x y => !(ltOf cf) y x).flatMap enc) ∧ Sat E I (ms.set j m') w' := by
  rcases hown.2 with ⟨rfl, h0, rfl⟩ | ⟨g, cap, cur, rfl, rfl, hn, hcm, hc, ht⟩
  · have hl : l = [] := List.eq_nil_of_length_eq_zero h0
    subst hl
    refine (AnyF.slices_SortFunc_none L none 0 (.func (.func c) #[] cb) w).mono ?_
    rintro e' w' ⟨rfl, rfl⟩
    refine ⟨rfl, _, by simpa using hown, ?_⟩
    have e : ms.set j (fun _ => none) = ms := by
      apply List.ext_getElem?
      intro i
      rw [List.getElem?_set]
      split
      · rename_i hji
        subst hji
        rw [hm]
        simp [(List.getElem?_eq_some_iff.1 hm).1]
      · rfl
    rw [e]
    exact hS
  · have h0 := hS.perm (perm_front j hm)
    have hg := h0.own _ (.head _) g _ (PH.one_self _ _)
    have hH := OwnP.holds (l := l) hk k0 hg hc hn ht
    have hlays : CmpLays P c cb enc k cf g 0 l.toArray.size w := fun mm os dk hdk x y => hcmp _ (fun b o hb hb0 => sortWorldK_block dk hb (by
      rintro rfl
      rw [PH.one_self] at hb0; cases hb0)) x y
    have := AnyQ.slices_SortFunc_total L k aE zE enc hk h1 cf hO c cb g 0 cap l.toArray w eg hlays hH (Array.getElem?_eq_some_iff.1 hg).1 (by simpa using hlen) hT
    refine Calls.mono (by simpa using this) ?_
    rintro e' w' ⟨rfl, nn, os, rfl⟩
    obtain ⟨m', h2, h3⟩ := OwnP.sorted (l := l) (l' := l.mergeSort fun x y => !(ltOf cf) y x) (os := os) (nn := nn) hk k0 h0 (by simp) hcm hc hn
    exact ⟨rfl, m', h2, h3.perm (perm_back j hm)⟩
end
end Go.Proofs.Ytmgjoggffnogfaa
