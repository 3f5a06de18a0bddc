/- The form of a number's text, and its value: plain lists. -/
import Derived.Test.YtcnejokbldohlaaNd
namespace Go.Proofs.Ytcnejokbldohlaa
open Go.RowKit
/-- The bytes of a string as numbers. -/
def lst (s : ByteArray) : List Nat := s.data.toList.map UInt8.toNat
theorem lst_length (s : ByteArray) : (lst s).length = s.size := by unfold lst; rw [List.length_map, Array.length_toList]; rfl
theorem lst_get (s : ByteArray) (k : Nat) (h : k < s.size) : (lst s)[k]? = some (s[k].toNat) := by
  simp only [lst, List.getElem?_map]
  rw [List.getElem?_eq_getElem (by rw [Array.length_toList]; exact h)]
  rfl
theorem lst_lt (s : ByteArray) : ∀ c ∈ lst s, c < 256 := by
  intro c hc
  simp only [lst, List.mem_map] at hc
  obtain ⟨x, _, rfl⟩ := hc
  exact UInt8.toNat_lt x
theorem lst_toList (s : ByteArray) : lst s = s.toList.map UInt8.toNat := by rw [ByteArray.toList_eq]; rfl
theorem lst_tail (s : ByteArray) : lst (s.extract 1 s.size) = (lst s).tail := by
  unfold lst
  rw [← List.map_tail]
  congr 1
  rw [ByteArray.data_extract, Array.toList_extract]
  rw [List.extract_eq_take_drop, List.drop_one, List.take_of_length_le (by rw [List.length_tail, Array.length_toList]; exact Nat.le_refl _)]
theorem lst_inj {s t : ByteArray} (h : lst s = lst t) : s = t := by
  unfold lst at h
  have h2 : s.data.toList = t.data.toList := (List.map_inj_right (fun a b e => UInt8.toNat_inj.1 e)).1 h
  obtain ⟨⟨a⟩⟩ := s
  obtain ⟨⟨b⟩⟩ := t
  simpa using h2
theorem lst_strOfNums (l : List Nat) (h : ∀ c ∈ l, c < 256) : lst (strOfNums (l.map fun c : Nat => (c : Int))) = l := by
  unfold lst
  rw [strOfNums_data, List.map_map, List.map_map]
  conv => rhs; rw [← List.map_id l]
  refine List.map_congr_left fun c hc => ?_
  have := h c hc
  simp [Nat.mod_eq_of_lt this]
def dig (c : Nat) : Bool := decide (48 ≤ c ∧ c ≤ 57)
def strip (l : List Nat) : List Nat := if l.head? = some 45 then l.tail else l
def neg (l : List Nat) : Bool := decide (l.head? = some 45)
def okD (d : List Nat) : Bool := !d.isEmpty && d.head? != some 48 && d.all dig
def formB (l : List Nat) : Bool := decide (l = [48]) || okD (strip l)
def ok (b : Bool) (d : List Nat) : Bool := !d.isEmpty && !(d.head? == some 48 && (b || decide (1 < d.length))) && d.all dig
theorem ok_form (l : List Nat) : ok (neg l) (strip l) = formB l := by
  by_cases h : l = [48]
  · subst h; rfl
  · unfold formB
    rw [decide_eq_false h, Bool.false_or]
    unfold ok okD
    cases hd : strip l with
    | nil => rfl
    | cons a d =>
      by_cases ha : a = 48
      · subst ha
        have h1 : (neg l || decide (1 < (48 :: d).length)) = true := by
          unfold neg
          unfold strip at hd
          split at hd
          · rename_i h1; rw [h1]; rfl
          · rename_i h1
            subst hd
            cases d with
            | nil => exact absurd rfl h
            | cons x d => simp
        have e1 : ((48 :: d).head? == some 48) = true := rfl
        have e2 : ((48 :: d).head? != some 48) = false := rfl
        rw [e1, e2, h1]; simp
      · have e1 : ((a :: d).head? == some 48) = false := by simp [ha]
        have e2 : ((a :: d).head? != some 48) = true := by rw [List.head?_cons, bne_iff_ne]; simp [ha]
        rw [e1, e2]; simp
/-- The digits of a text. -/
def ds (d : List Nat) : List Nat := d.map fun c => c - 48
theorem ds_lt (d : List Nat) (h : d.all dig = true) : ∀ x ∈ ds d, x < 10 := by
  intro x hx
  simp only [ds, List.mem_map] at hx
  obtain ⟨c, hc, rfl⟩ := hx
  have := List.all_eq_true.1 h c hc
  simp only [dig, decide_eq_true_eq] at this
  omega
theorem ok_parts {b : Bool} {d : List Nat} (h : ok b d = true) : d ≠ [] ∧ d.all dig = true ∧ (d.head? = some 48 → b = false ∧ d = [48]) := by
  unfold ok at h
  simp only [Bool.and_eq_true, Bool.not_eq_true', List.isEmpty_eq_false_iff] at h
  obtain ⟨⟨h1, h2⟩, h3⟩ := h
  refine ⟨h1, h3, fun h4 => ?_⟩
  rw [h4] at h2
  simp only [beq_self_eq_true, Bool.true_and, Bool.or_eq_false_iff, decide_eq_false_iff_not] at h2
  refine ⟨h2.1, ?_⟩
  cases d with
  | nil => exact absurd rfl h1
  | cons a d =>
    have : d = [] := by
      cases d with
      | nil => rfl
      | cons x d => simp at h2
    subst this
    simpa using h4
theorem ok_canon {b : Bool} {d : List Nat} (h : ok b d = true) : Canon (ds d) := by
  obtain ⟨h1, h2, h3⟩ := ok_parts h
  refine ⟨by simpa [ds] using h1, ds_lt d h2, ?_⟩
  cases d with
  | nil => exact absurd rfl h1
  | cons a d =>
    by_cases ha : a = 48
    · left
      have := (h3 (by simp [ha])).2
      rw [this]; rfl
    · right
      have hd := List.all_eq_true.1 h2 a (by simp)
      simp only [dig, decide_eq_true_eq] at hd
      simp [ds]; omega
theorem ds_back (d : List Nat) (h : d.all dig = true) : (ds d).map (fun x => 48 + x) = d := by
  unfold ds
  rw [List.map_map]
  conv => rhs; rw [← List.map_id d]
  refine List.map_congr_left fun c hc => ?_
  have := List.all_eq_true.1 h c hc
  simp only [dig, decide_eq_true_eq] at this
  simp; omega
/-- The value of a text. -/
def sval (l : List Nat) : Int := if neg l = true then -(val (ds (strip l)) : Int) else (val (ds (strip l)) : Int)
theorem neg_pos {l : List Nat} (h : formB l = true) (hn : neg l = true) : 0 < val (ds (strip l)) := by
  rw [← ok_form] at h
  have hc := ok_canon h
  have h3 := (ok_parts h).2.2
  obtain ⟨hne, _, hh⟩ := hc
  refine val_pos _ hne ?_
  rcases hh with hh | hh
  · intro _
    have : strip l = [48] := by
      have hb := ds_back (strip l) (ok_parts h).2.1
      rw [hh] at hb
      exact hb.symm
    have := (h3 (by rw [this]; rfl)).1
    rw [hn] at this
    cases this
  · exact hh
/-- The text of a number. -/
def txt (n : Int) : List Nat := (if n < 0 then [45] else []) ++ (dg n.natAbs).map fun d => 48 + d
theorem txt_lt (n : Int) : ∀ c ∈ txt n, c < 256 := by
  intro c hc
  unfold txt at hc
  rcases List.mem_append.1 hc with h | h
  · split at h
    · simp at h; omega
    · simp at h
  · simp only [List.mem_map] at h
    obtain ⟨d, hd, rfl⟩ := h
    have := dg_lt _ d hd
    omega
theorem lst_textS (n : Int) : lst (textS n) = txt n := by
  have : textL n = (txt n).map fun c : Nat => (c : Int) := by
    unfold textL txt chars
    rw [List.map_append, List.map_map]
    congr 1
    split <;> rfl
  unfold textS
  rw [this, lst_strOfNums _ (txt_lt n)]
theorem dig_all (l : List Nat) (h : ∀ d ∈ l, d < 10) : (l.map fun d => 48 + d).all dig = true := by
  rw [List.all_eq_true]
  intro c hc
  simp only [List.mem_map] at hc
  obtain ⟨d, hd, rfl⟩ := hc
  have := h d hd
  simp only [dig, decide_eq_true_eq]; omega
theorem head_not45 (l : List Nat) (h : ∀ d ∈ l, d < 10) : (l.map fun d => 48 + d).head? ≠ some 45 := by
  cases l with
  | nil => simp
  | cons a l => simp; omega
theorem txt_neg (n : Int) : neg (txt n) = decide (n < 0) := by
  unfold neg txt
  by_cases h : n < 0
  · rw [if_pos h, decide_eq_true h]; rfl
  · rw [if_neg h, decide_eq_false h, List.nil_append, decide_eq_false (head_not45 _ (dg_lt _))]
theorem txt_strip (n : Int) : strip (txt n) = (dg n.natAbs).map fun d => 48 + d := by
  unfold strip txt
  by_cases h : n < 0
  · rw [if_pos h]; rfl
  · rw [if_neg h, List.nil_append, if_neg (head_not45 _ (dg_lt _))]
theorem ds_map (l : List Nat) : ds (l.map fun d => 48 + d) = l := by
  unfold ds
  rw [List.map_map]
  conv => rhs; rw [← List.map_id l]
  exact List.map_congr_left fun c _ => by simp
theorem txt_form (n : Int) : formB (txt n) = true := by
  rw [← ok_form, txt_neg, txt_strip]
  unfold ok
  have h1 : ((dg n.natAbs).map fun d => 48 + d).isEmpty = false := by
    cases h : dg n.natAbs with
    | nil => exact absurd h (dg_ne _)
    | cons a l => rfl
  rw [h1, dig_all _ (dg_lt _)]
  simp only [Bool.not_false, Bool.true_and, Bool.and_true, Bool.not_eq_true']
  by_cases h0 : n.natAbs = 0
  · have : ¬ n < 0 := by omega
    rw [h0, dg_small (by omega), decide_eq_false this]; rfl
  · have := dg_head n.natAbs (by omega)
    cases h : dg n.natAbs with
    | nil => exact absurd h (dg_ne _)
    | cons a l =>
      rw [h] at this
      have ha : a ≠ 0 := by simpa using this
      simp [ha]
theorem txt_val (n : Int) : sval (txt n) = n := by
  unfold sval
  rw [txt_neg, txt_strip, ds_map, val_dg]
  by_cases h : n < 0
  · rw [decide_eq_true h, if_pos rfl]; omega
  · rw [decide_eq_false h, if_neg (by simp)]; omega
theorem txt_sval (l : List Nat) (h : formB l = true) : txt (sval l) = l := by
  have hok := h
  rw [← ok_form] at hok
  have hc := ok_canon hok
  have hb := ds_back (strip l) (ok_parts hok).2.1
  cases hn : neg l
  · have e : sval l = (val (ds (strip l)) : Int) := by unfold sval; rw [hn, if_neg (by simp)]
    rw [e]
    unfold txt
    rw [if_neg (by omega), Int.natAbs_natCast, dg_val _ hc, hb]
    have : ¬ l.head? = some 45 := by simpa [neg] using hn
    unfold strip
    rw [if_neg this]; rfl
  · have hp := neg_pos h hn
    have e : sval l = -(val (ds (strip l)) : Int) := by unfold sval; rw [hn, if_pos rfl]
    rw [e]
    unfold txt
    rw [if_pos (by omega), Int.natAbs_neg, Int.natAbs_natCast, dg_val _ hc, hb]
    have : l.head? = some 45 := by simpa [neg] using hn
    unfold strip
    rw [if_pos this]
    cases l with
    | nil => simp at this
    | cons a l => simp at this; subst this; rfl
/-- What Parse returns. -/
def prN (l : List Nat) (lo hi : Int) : Int := if formB l = true ∧ lo ≤ sval l ∧ sval l ≤ hi then sval l else 0
def prE (l : List Nat) (lo hi : Int) : Int := if formB l = true then (if lo ≤ sval l ∧ sval l ≤ hi then 0 else 2) else 3
end Go.Proofs.Ytcnejokbldohlaa
