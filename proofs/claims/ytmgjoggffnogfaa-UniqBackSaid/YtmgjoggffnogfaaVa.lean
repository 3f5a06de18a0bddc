/- Maps in pieces: lookup, update, delete, clear, length, range; each by unification. -/
import Derived.Test.YtmgjoggffnogfaaSl
import Derived.Test.YtmgjoggffnogfaaSi
import Derived.Maps.RangeRun
import Derived.ChangeKeysEq
namespace Go.Proofs.Ytmgjoggffnogfaa
set_option linter.unusedSimpArgs false
set_option linter.unusedVariables false
open Go.RowKit
/-- An entry of a map: its key, its value, its stamp. -/
structure Rw (α : Type) where
  k : α
  v : Value
  b : Nat
def Rw.ent {α : Type} (key : α → Value) (r : Rw α) : MapEntry := ⟨key r.k, r.v, r.b⟩
def mapObj {α : Type} (key : α → Value) (l : List (Rw α)) (clock : Nat) : Obj := .map (l.map (Rw.ent key)).toArray clock
section
variable {α : Type} [DecidableEq α]
def look (x : α) : List (Rw α) → Nat → Option (Nat × Value)
  | [], _ => none
  | r :: l, i => if r.k = x then some (i, r.v) else look x l (i + 1)
/-- Keys of a type: what the model asks of them. -/
structure Key (P : Program) (kt : TypeId) (key : α → Value) : Prop where
  check : ∀ (w : World) (em : Bool) (x : α), (Instr.checkKey em 10000 kt (key x)).run P w = .ok () w
  find : ∀ (w : World) (x : α) (l : List (Rw α)), (Instr.findKey kt (key x) (l.map (Rw.ent key))).run P w = .ok (look x l 0) w
  same : ∀ x, Instr.sameBits 10000 (key x) (key x) = true
structure MapOk (l : List (Rw α)) (clock : Nat) : Prop where
  keys : (l.map (·.k)).Nodup
  born : (l.map (·.b)).Nodup
  old : ∀ r ∈ l, r.b < clock
def getR (l : List (Rw α)) (x : α) : Option Value := (l.find? (fun r => decide (r.k = x))).map (·.v)
theorem look_get (x : α) : ∀ (l : List (Rw α)) (i : Nat), (look x l i).map (·.2) = getR l x
  | [], _ => rfl
  | r :: l, i => by
    unfold look getR
    rw [List.find?_cons]
    by_cases h : r.k = x
    · simp [h]
    · have := look_get x l (i + 1)
      unfold getR at this
      simp [h, this]
theorem look_none {x : α} : ∀ {l : List (Rw α)} {i : Nat}, look x l i = none ↔ ∀ r ∈ l, r.k ≠ x
  | [], _ => by simp [look]
  | r :: l, i => by
    unfold look
    by_cases h : r.k = x
    · simp [h]
    · simp [h, look_none (l := l) (i := i + 1)]
theorem look_some {x : α} {j : Nat} {v : Value} : ∀ {l : List (Rw α)} {i : Nat}, look x l i = some (j, v) → i ≤ j ∧ ∃ r, l[j - i]? = some r ∧ r.k = x ∧ r.v = v
  | [], _, h => by simp [look] at h
  | r :: l, i, h => by
    unfold look at h
    by_cases hk : r.k = x
    · rw [if_pos hk] at h
      simp only [Option.some.injEq, Prod.mk.injEq] at h
      obtain ⟨rfl, rfl⟩ := h
      exact ⟨Nat.le_refl _, r, by simp, hk, rfl⟩
    · rw [if_neg hk] at h
      obtain ⟨h1, r', h2, h3, h4⟩ := look_some h
      refine ⟨by omega, r', ?_, h3, h4⟩
      rw [show j - i = (j - (i + 1)) + 1 by omega]
      simpa using h2
theorem getR_none {l : List (Rw α)} {x : α} : getR l x = none ↔ ∀ r ∈ l, r.k ≠ x := by
  rw [← look_get x l 0]
  simp [look_none]
def putR (l : List (Rw α)) (x : α) (v : Value) : List (Rw α) := l.map fun r => if r.k = x then { r with v := v } else r
def delR (l : List (Rw α)) (x : α) : List (Rw α) := l.filter fun r => decide (r.k ≠ x)
end
section
variable {P : Program} {w E : World} {I : PH} {ms : List PH}
theorem run_getObj {r : Nat} {o : Obj} (h : w.heap[r]? = some o) (hc : o.isCells = false) : (getObj r).run P w = .ok o w := by
  simp only [getObj, Sem.run, h]
  cases o <;> first | rfl | (cases hc)
theorem run_setObj_S {X : Nat} {o o' : Obj} (h : w.heap[X]? = some o) (hc : o.isCells = false) : (setObj X o').run P w = .ok () (ChangeMaps.setBlock w X o') := by
  simp only [setObj, Sem.run, h, ChangeMaps.setBlock]
  cases o <;> first | rfl | (cases hc)
theorem setBlock_step {X : Nat} {o o' : Obj} (h : Sat E I (PH.one X o :: ms) w) : Sat E I (PH.one X o' :: ms) (ChangeMaps.setBlock w X o') := by
  have hX := h.own _ (.head _) X _ (PH.one_self _ _)
  have hlt : X < w.heap.size := (Array.getElem?_eq_some_iff.1 hX).1
  refine h.change (by simp [ChangeMaps.setBlock]) rfl rfl rfl (fun b _ hb => ?_) (fun b u hb => ?_) (fun b hb _ => ?_)
  · have hne : b ≠ X := by
      rintro rfl
      rw [PH.one_self] at hb; cases hb
    simp [ChangeMaps.setBlock, Ne.symm hne]
  · obtain ⟨rfl, rfl⟩ := PH.one_some hb
    simp [ChangeMaps.setBlock, hlt]
  · unfold PH.one at hb ⊢
    split at hb
    · cases hb
    · rename_i hne; rw [if_neg hne]
theorem MapOk.nil {α : Type} {clock : Nat} : MapOk ([] : List (Rw α)) clock := ⟨by simp, by simp, by simp⟩
theorem wp_mk {α : Type} {key : α → Value} {T : TypeId} {o : Oper} {a : Act} {K : Act → World → Prop} {Q : Exit → Act → World → Prop} (hS : Sat E I ms w) (ho : o.op = .makeMap T none)
    (h : ∀ M w', Sat E I (PH.one M (mapObj key ([] : List (Rw α)) 0) :: ms) w' → K (a.put o.dst (.map (some M))) w') : o.wp P a w K Q := by
  unfold Oper.wp execOp
  simp only [ho, Instr.makeMap, newObj, Sem.run_bind, Sem.run_pure, Result.andThen_ok, Option.map_none]
  exact h _ _ (hS.alloc _)
end
section
variable {α : Type} [DecidableEq α] {P : Program} {w E : World} {I : PH} {ms : List PH} {key : α → Value} {kt et T : TypeId} {l : List (Rw α)} {clock M : Nat} {x : α}
theorem run_lookup_S (hk : Key P kt key) (ht : P.underlying T = some (.map kt et)) {z : Value} (hz : zeroB P et = some z) (hM : w.heap[M]? = some (mapObj key l clock)) (c : Bool) :
    (Instr.lookup T (.map (some M)) (key x) c).run P w = .ok (if c = true then .tuple #[(getR l x).getD z, .bool (getR l x).isSome] else (getR l x).getD z) w := by
  have h1 := hk.check w (l.map (Rw.ent key)).toArray.isEmpty x
  have h2 := hk.find w x l
  have h3 := look_get x l 0
  have hz' : (zeroValue et).run P w = .ok z w := by
    have := zeroB_eq hz
    cases hq : P.info? et with
    | none => rw [hq] at this; cases this
    | some i =>
      rw [hq] at this
      have hi : i.zero = some z := this
      simp [zeroValue, typeInfo, hq, hi]
  unfold Instr.lookup
  simp only [Sem.run_bind, run_underlying ht, Result.andThen_ok, run_getObj hM rfl, mapObj, Sem.run_pure, h1, List.toList_toArray, h2]
  rw [← h3]
  cases hl : look x l 0 with
  | none => simp [hz']
  | some jv => obtain ⟨j, v⟩ := jv; simp
theorem putR_modify {v : Value} (hn : (l.map (·.k)).Nodup) : ∀ {i j : Nat} {u : Value}, look x l i = some (j, u) →
    (l.map (Rw.ent key)).modify (j - i) (fun e => { e with key := key x, val := v }) = (putR l x v).map (Rw.ent key) := by
  induction l with
  | nil => intro i j u h; simp [look] at h
  | cons r l ih =>
    intro i j u h
    unfold look at h
    have hn' := List.nodup_cons.1 (by simpa using hn : (r.k :: l.map (·.k)).Nodup)
    by_cases hk : r.k = x
    · rw [if_pos hk] at h
      simp only [Option.some.injEq, Prod.mk.injEq] at h
      obtain ⟨rfl, rfl⟩ := h
      have hrest : putR l x v = l := by
        unfold putR
        refine (List.map_congr_left (g := id) fun r' hr' => ?_).trans (List.map_id _)
        rw [if_neg]
        · rfl
        · intro e
          exact hn'.1 (hk.trans e.symm ▸ List.mem_map_of_mem hr')
      show _ = (putR (r :: l) x v).map _
      have e : putR (r :: l) x v = { r with v := v } :: putR l x v := by simp [putR, hk]
      rw [e, hrest]
      simp [Rw.ent, hk]
    · rw [if_neg hk] at h
      have hij := (look_some h).1
      have e : putR (r :: l) x v = r :: putR l x v := by simp [putR, hk]
      rw [e, show j - i = (j - (i + 1)) + 1 by omega]
      simp only [List.map_cons, List.modify_succ_cons]
      rw [ih hn'.2 h]
theorem delR_erase (hn : (l.map (·.k)).Nodup) : ∀ {i j : Nat} {u : Value}, look x l i = some (j, u) → (l.map (Rw.ent key)).eraseIdx (j - i) = (delR l x).map (Rw.ent key) := by
  induction l with
  | nil => intro i j u h; simp [look] at h
  | cons r l ih =>
    intro i j u h
    unfold look at h
    have hn' := List.nodup_cons.1 (by simpa using hn : (r.k :: l.map (·.k)).Nodup)
    by_cases hk : r.k = x
    · rw [if_pos hk] at h
      simp only [Option.some.injEq, Prod.mk.injEq] at h
      obtain ⟨rfl, rfl⟩ := h
      have hrest : delR l x = l := by
        unfold delR
        rw [List.filter_eq_self]
        intro r' hr'
        have : r'.k ≠ x := by
          rintro rfl
          exact hn'.1 (hk ▸ List.mem_map_of_mem hr')
        simpa using this
      have e : delR (r :: l) x = delR l x := by simp [delR, hk]
      rw [e, hrest]
      simp
    · rw [if_neg hk] at h
      have hij := (look_some h).1
      have e : delR (r :: l) x = r :: delR l x := by simp [delR, hk]
      rw [e, show j - i = (j - (i + 1)) + 1 by omega]
      simp only [List.map_cons, List.eraseIdx_cons_succ]
      rw [ih hn'.2 h]
theorem delR_none (h : ∀ r ∈ l, r.k ≠ x) : delR l x = l := by
  unfold delR
  rw [List.filter_eq_self]
  intro r hr
  simpa using h r hr
theorem MapOk.push (h : MapOk l clock) (hx : getR l x = none) (v : Value) : MapOk (l ++ [⟨x, v, clock⟩]) (clock + 1) := by
  have hx' := getR_none.1 hx
  refine ⟨?_, ?_, fun r hr => ?_⟩
  · simp only [List.map_append, List.map_cons, List.map_nil]
    refine List.nodup_append.2 ⟨h.keys, by simp, fun a ha b hb => ?_⟩
    obtain ⟨r, hr, rfl⟩ := List.mem_map.1 ha
    simp at hb; subst hb
    exact hx' r hr
  · simp only [List.map_append, List.map_cons, List.map_nil]
    refine List.nodup_append.2 ⟨h.born, by simp, fun a ha b hb => ?_⟩
    obtain ⟨r, hr, rfl⟩ := List.mem_map.1 ha
    simp at hb; subst hb
    have := h.old r hr
    omega
  · rcases List.mem_append.1 hr with hr | hr
    · have := h.old r hr; omega
    · simp at hr; subst hr; simp
theorem MapOk.put (h : MapOk l clock) (v : Value) : MapOk (putR l x v) clock := by
  have e1 : (putR l x v).map (·.k) = l.map (·.k) := by
    unfold putR; rw [List.map_map]; refine List.map_congr_left fun r _ => ?_
    by_cases hk : r.k = x <;> simp [hk]
  have e2 : (putR l x v).map (·.b) = l.map (·.b) := by
    unfold putR; rw [List.map_map]; refine List.map_congr_left fun r _ => ?_
    by_cases hk : r.k = x <;> simp [hk]
  refine ⟨e1 ▸ h.keys, e2 ▸ h.born, fun r hr => ?_⟩
  obtain ⟨r', hr', rfl⟩ := List.mem_map.1 hr
  have := h.old r' hr'
  by_cases hk : r'.k = x <;> simp [hk, this]
theorem MapOk.del (h : MapOk l clock) : MapOk (delR l x) clock :=
  ⟨h.keys.sublist ((List.filter_sublist).map _), h.born.sublist ((List.filter_sublist).map _), fun r hr => h.old r (List.mem_filter.1 hr).1⟩
theorem getR_push (hx : getR l x = none) (v : Value) (b : Nat) (y : α) : getR (l ++ [⟨x, v, b⟩]) y = if x = y then some v else getR l y := by
  unfold getR at hx ⊢
  rw [List.find?_append]
  by_cases h : x = y
  · subst h
    have : List.find? (fun r => decide (r.k = x)) l = none := by simpa using hx
    simp [this]
  · simp [h]
theorem find_put (v : Value) (y : α) : (putR l x v).find? (fun r => decide (r.k = y)) = (l.find? (fun r => decide (r.k = y))).map fun r => if r.k = x then { r with v := v } else r := by
  unfold putR
  rw [List.find?_map]
  refine congrArg (fun p => Option.map _ (List.find? p l)) (funext fun r => ?_)
  by_cases h' : r.k = x <;> simp [h']
theorem getR_put (v : Value) (y : α) (h : (getR l x).isSome = true) : getR (putR l x v) y = if x = y then some v else getR l y := by
  unfold getR at *
  rw [find_put]
  by_cases hy : x = y
  · subst hy
    rw [if_pos rfl]
    cases hf : List.find? (fun r : Rw α => decide (r.k = x)) l with
    | none => rw [hf] at h; cases h
    | some r =>
      have : r.k = x := by simpa using List.find?_some hf
      simp [this]
  · rw [if_neg hy]
    cases hf : List.find? (fun r : Rw α => decide (r.k = y)) l with
    | none => rfl
    | some r =>
      have : r.k = y := by simpa using List.find?_some hf
      simp [this, Ne.symm hy]
theorem getR_del (y : α) : getR (delR l x) y = if x = y then none else getR l y := by
  unfold getR delR
  rw [List.find?_filter]
  by_cases h : x = y
  · subst h
    rw [if_pos rfl]
    simp
  · rw [if_neg h]
    congr 1
    refine congrArg (fun p => List.find? p l) (funext fun r => ?_)
    by_cases hy : r.k = y
    · simp [hy, Ne.symm h]
    · simp [hy]
end
section
variable {α : Type} [DecidableEq α] {P : Program} {o : Oper} {a : Act} {w E : World} {K : Act → World → Prop} {Q : Exit → Act → World → Prop} {I : PH} {ms : List PH} {ops : Array Oper} {rest : List Oper}
  {key : α → Value} {kt et T : TypeId} {l : List (Rw α)} {clock M : Nat} {x : α}
/-- lookup. -/
theorem wp_lk {p : PH} (hp : p.le (heapOf w)) (hpM : p M = some (mapObj key l clock)) (hk : Key P kt key) (ht : P.underlying T = some (.map kt et)) {z : Value} (hz : zeroB P et = some z) {m y : Operand} {c : Bool} (ho : o.op = .lookup T m y c)
    (hm : a.eval m = .map (some M)) (hy : a.eval y = key x) (h : K (a.put o.dst (if c = true then .tuple #[(getR l x).getD z, .bool (getR l x).isSome] else (getR l x).getD z)) w) : o.wp P a w K Q := by
  have hM : w.heap[M]? = some (mapObj key l clock) := hp M _ hpM
  unfold Oper.wp execOp
  simp only [ho, hm, hy, Sem.run_bind, run_lookup_S hk ht hz hM c, Result.andThen_ok, Sem.run_pure]
  exact h
end
end Go.Proofs.Ytmgjoggffnogfaa
