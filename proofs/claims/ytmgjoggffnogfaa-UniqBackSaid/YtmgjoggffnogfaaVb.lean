/- Maps in pieces: update, delete, clear, length, range. -/
import Derived.Test.YtmgjoggffnogfaaVa
namespace Go.Proofs.Ytmgjoggffnogfaa
set_option linter.unusedSimpArgs false
set_option linter.unusedVariables false
open Go.RowKit
set_option linter.unusedSectionVars false
section
variable {α : Type} [DecidableEq α] {P : Program} {w : World} {key : α → Value} {kt et T : TypeId} {l : List (Rw α)} {clock M : Nat} {x : α} {v : Value}
theorem look_at {j : Nat} {u : Value} (h : look x l 0 = some (j, u)) : ∃ r, l[j]? = some r ∧ r.k = x ∧ r.v = u := (look_some h).2
theorem run_update_S (hk : Key P kt key) (ht : P.underlying T = some (.map kt et)) (hM : w.heap[M]? = some (mapObj key l clock)) (hn : (l.map (·.k)).Nodup) :
    (Instr.mapUpdate T (.map (some M)) (key x) v).run P w = .ok () (ChangeMaps.setBlock w M (if (getR l x).isSome = true then mapObj key (putR l x v) clock else mapObj key (l ++ [⟨x, v, clock⟩]) (clock + 1))) := by
  have h1 := hk.check w false x
  have h2 := hk.find w x l
  have h3 := look_get x l 0
  unfold Instr.mapUpdate
  simp only [Sem.run_bind, run_underlying ht, Result.andThen_ok, run_getObj hM rfl, mapObj, Sem.run_pure, h1, List.toList_toArray, h2]
  rw [← h3]
  cases hl : look x l 0 with
  | none =>
    simp only [Option.map_none, Option.isSome_none]
    rw [run_setObj_S hM rfl]
    simp [Rw.ent, mapObj]
  | some jv =>
    obtain ⟨j, u⟩ := jv
    obtain ⟨r, hr, hrk, hrv⟩ := look_at hl
    have hm := putR_modify (key := key) (v := v) hn hl
    have hke : ((((l.map (Rw.ent key)).toArray[j]?).map (·.key)).getD (key x)) = key x := by
      simp [hr, Rw.ent, hrk]
    have hst : ∀ u : Value, Instr.keyThatStays (key x) (key x) = pure (key x) := fun _ => by
      unfold Instr.keyThatStays
      rw [if_pos (hk.same x)]
    simp only [Sem.run_bind, hke, hst v, Sem.run_pure, Result.andThen_ok, Option.map_some, Option.isSome_some, if_true]
    rw [run_setObj_S hM rfl]
    have : ((l.map (Rw.ent key)).toArray.modify j fun e => { e with key := key x, val := v }) = ((putR l x v).map (Rw.ent key)).toArray := by
      rw [← hm]; simp
    rw [this]
theorem run_delete_S (hk : Key P kt key) (ht : P.underlying T = some (.map kt et)) {K2 ty : TypeId} (hM : w.heap[M]? = some (mapObj key l clock)) (hn : (l.map (·.k)).Nodup) :
    (Builtin.delete_ #[T, K2] ty #[.map (some M), key x]).run P w = .ok (.tuple #[]) (ChangeMaps.setBlock w M (mapObj key (delR l x) clock)) := by
  have h1 := hk.check w (l.map (Rw.ent key)).toArray.isEmpty x
  have h2 := hk.find w x l
  simp only [Builtin.delete_, List.getElem?_toArray, List.getElem?_cons_zero, List.getElem?_cons_succ, Sem.run_bind, run_underlying ht, Result.andThen_ok, run_getObj hM rfl, mapObj, Sem.run_pure, h1, List.toList_toArray, h2]
  cases hl : look x l 0 with
  | none =>
    rw [delR_none (look_none.1 hl)]
    simp only [Sem.run_bind]
    rw [run_setObj_S hM rfl]
    simp
  | some jv =>
    obtain ⟨j, u⟩ := jv
    have hm := delR_erase (key := key) hn hl
    simp only [Sem.run_bind]
    rw [run_setObj_S hM rfl]
    have : (l.map (Rw.ent key)).toArray.eraseIdxIfInBounds j = ((delR l x).map (Rw.ent key)).toArray := by
      rw [← hm]; simp
    rw [this]
    simp
end
section
variable {α : Type} {P : Program} {w : World} {key : α → Value} {kt et T ty : TypeId} {l : List (Rw α)} {clock M : Nat}
theorem run_clear_S (ht : P.underlying T = some (.map kt et)) (hM : w.heap[M]? = some (mapObj key l clock)) :
    (Builtin.clear_ #[T] ty #[.map (some M)]).run P w = .ok (.tuple #[]) (ChangeMaps.setBlock w M (mapObj key ([] : List (Rw α)) clock)) := by
  simp only [Builtin.clear_, List.getElem?_toArray, List.getElem?_cons_zero, Sem.run_bind, run_underlying ht, Result.andThen_ok, run_getObj hM rfl, mapObj, Sem.run_pure]
  rw [run_setObj_S hM rfl]
  simp
theorem run_len_S (ht : P.underlying T = some (.map kt et)) (hM : w.heap[M]? = some (mapObj key l clock)) :
    (Builtin.len_ #[T] ty #[.map (some M)]).run P w = .ok (.int .i64 l.length) w := by
  simp only [Builtin.len_, List.getElem?_toArray, List.getElem?_cons_zero, Sem.run_bind, run_underlying ht, Result.andThen_ok, run_getObj hM rfl, mapObj, Sem.run_pure]
  simp [goInt]
end
section
variable {α : Type} [DecidableEq α] {P : Program} {o : Oper} {a : Act} {w E : World} {K : Act → World → Prop} {Q : Exit → Act → World → Prop} {I : PH} {ms : List PH} {ops : Array Oper} {rest : List Oper}
  {key : α → Value} {kt et T : TypeId} {l : List (Rw α)} {clock M : Nat} {x : α} {v : Value}
theorem wp_mu (hS : Sat E I ms w) (k : Nat) (hm : ms[k]? = some (PH.one M (mapObj key l clock))) (hk : Key P kt key) (ht : P.underlying T = some (.map kt et)) {m y z : Operand} (ho : o.op = .mapUpdate T m y z)
    (hem : a.eval m = .map (some M)) (hy : a.eval y = key x) (hz : a.eval z = v) (hn : MapOk l clock)
    (h : ∀ w', Sat E I (ms.set k (PH.one M (if (getR l x).isSome = true then mapObj key (putR l x v) clock else mapObj key (l ++ [⟨x, v, clock⟩]) (clock + 1)))) w' → K (a.put o.dst undef) w') : o.wp P a w K Q := by
  have h0 := hS.perm (perm_front k hm)
  unfold Oper.wp execOp
  simp only [ho, hem, hy, hz, Sem.run_bind, run_update_S hk ht (h0.own _ (.head _) M _ (PH.one_self _ _)) hn.keys, Result.andThen_ok, Sem.run_pure]
  exact h _ ((setBlock_step h0).perm (perm_back k hm))
theorem wp_dl (hS : Sat E I ms w) (k : Nat) (hm : ms[k]? = some (PH.one M (mapObj key l clock))) (hk : Key P kt key) (ht : P.underlying T = some (.map kt et)) {m y : Operand} {K2 : TypeId} (ho : o.op = .call { callee := .builtin .delete, args := #[m, y], argTypes := #[T, K2] })
    (hem : a.eval m = .map (some M)) (hy : a.eval y = key x) (hn : MapOk l clock)
    (h : ∀ w', Sat E I (ms.set k (PH.one M (mapObj key (delR l x) clock))) w' → K (a.put o.dst (.tuple #[])) w') : o.wp P a w K Q := by
  have h0 := hS.perm (perm_front k hm)
  unfold Oper.wp execOp
  simp only [ho, resolve, invoke, builtin, Sem.run_bind, Sem.run_pure, Result.andThen_ok, List.map_toArray, List.map_cons, List.map_nil, hem, hy, run_delete_S hk ht (h0.own _ (.head _) M _ (PH.one_self _ _)) hn.keys]
  exact h _ ((setBlock_step h0).perm (perm_back k hm))
theorem wp_cl (hS : Sat E I ms w) (k : Nat) (hm : ms[k]? = some (PH.one M (mapObj key l clock))) (ht : P.underlying T = some (.map kt et)) {m : Operand} (ho : o.op = .call { callee := .builtin .clear, args := #[m], argTypes := #[T] })
    (hem : a.eval m = .map (some M))
    (h : ∀ w', Sat E I (ms.set k (PH.one M (mapObj key ([] : List (Rw α)) clock))) w' → K (a.put o.dst (.tuple #[])) w') : o.wp P a w K Q := by
  have h0 := hS.perm (perm_front k hm)
  unfold Oper.wp execOp
  simp only [ho, resolve, invoke, builtin, Sem.run_bind, Sem.run_pure, Result.andThen_ok, List.map_toArray, List.map_cons, List.map_nil, hem, run_clear_S ht (h0.own _ (.head _) M _ (PH.one_self _ _))]
  exact h _ ((setBlock_step h0).perm (perm_back k hm))
theorem wp_ln {p : PH} (hp : p.le (heapOf w)) (hpM : p M = some (mapObj key l clock)) (ht : P.underlying T = some (.map kt et)) {m : Operand} (ho : o.op = .call { callee := .builtin .len, args := #[m], argTypes := #[T] })
    (hem : a.eval m = .map (some M)) (h : K (a.put o.dst (.int .i64 l.length)) w) : o.wp P a w K Q := by
  unfold Oper.wp execOp
  simp only [ho, resolve, invoke, builtin, Sem.run_bind, Sem.run_pure, Result.andThen_ok, List.map_toArray, List.map_cons, List.map_nil, hem, run_len_S ht (hp M _ hpM)]
  exact h
/-- range: a new iterator. -/
def iterObj (M since : Nat) (done : List (Rw α)) (last : Nat) : Obj := .mapIter (some M) since (done.map (·.b)).toArray last
theorem wp_rg (hS : Sat E I ms w) {p : PH} (hp : p.le (heapOf w)) (hpM : p M = some (mapObj key l clock)) (ht : P.underlying T = some (.map kt et)) {m : Operand} (ho : o.op = .range T m) (hem : a.eval m = .map (some M))
    (h : ∀ X w', Sat E I (PH.one X (iterObj M clock ([] : List (Rw α)) clock) :: ms) w' → K (a.put o.dst (.pointer (some ⟨X, 0, none⟩))) w') : o.wp P a w K Q := by
  unfold Oper.wp execOp
  simp only [ho, hem, Instr.range, Sem.run_bind, run_underlying ht, Result.andThen_ok, run_getObj (hp M _ hpM) rfl, mapObj, Sem.run_pure, newObj]
  exact h _ _ (hS.alloc _)
/-- A step of a range over a map: nothing is left, or one of what is left comes. -/
theorem wp_nx (hS : Sat E I ms w) (k : Nat) {R : Nat} {done left : List (Rw α)} (hm : ms[k]? = some (PH.one R (iterObj M clock done clock))) {p : PH} (hp : Src I ms p) (hpM : p M = some (mapObj key l clock))
    (hok : MapOk l clock) (hperm : (done ++ left).Perm l) {it : Operand} (ho : o.op = .next it false) (hit : a.eval it = .pointer (some ⟨R, 0, none⟩))
    (hdone : left = [] → K (a.put o.dst (.tuple #[.bool false])) w)
    (hmore : ∀ r left' w', left.Perm (r :: left') → r ∈ l → Sat E I (ms.set k (PH.one R (iterObj M clock (done ++ [r]) clock))) w' → K (a.put o.dst (.tuple #[.bool true, key r.k, r.v])) w') : o.wp P a w K Q := by
  have h0 := hS.perm (perm_front k hm)
  have hR := h0.own _ (.head _) R _ (PH.one_self _ _)
  have hM := hS.src hp M _ hpM
  have hn := hok.born
  have hleft : ∀ r ∈ l, ((done.map (·.b)).toArray.contains r.b = false ↔ r ∈ left) := fun r hr => by
    have hnd : ((done ++ left).map (·.b)).Nodup := (hperm.map (·.b)).nodup_iff.2 hn
    rw [List.map_append] at hnd
    have hmem := hperm.mem_iff.2 hr
    have hc : (done.map (·.b)).toArray.contains r.b = true ↔ r.b ∈ done.map (·.b) := by simp
    constructor
    · intro h
      rcases List.mem_append.1 hmem with h1 | h1
      · have := hc.2 (List.mem_map_of_mem h1)
        rw [this] at h; cases h
      · exact h1
    · intro h
      cases hb : (done.map (·.b)).toArray.contains r.b with
      | false => rfl
      | true =>
        have h1 := hc.1 hb
        exact absurd rfl ((List.nodup_append.1 hnd).2.2 r.b h1 r.b (List.mem_map_of_mem h))
  have hfl : (leftOf (l.map (Rw.ent key)).toArray (done.map (·.b)).toArray).toList = (l.filter fun r => !(done.map (·.b)).toArray.contains r.b).map (Rw.ent key) := by
    unfold leftOf
    rw [Array.toList_filter, List.toList_toArray, List.filter_map]
    rfl
  unfold Oper.wp execOp
  simp only [ho, hit, Sem.run_bind]
  rcases run_next_at (P := P) w o.type R M clock clock (done.map Rw.b).toArray (l.map (Rw.ent key)).toArray clock hR hM (fun e he => by
    simp only [List.toList_toArray, List.mem_map] at he
    obtain ⟨r, hr, rfl⟩ := he
    exact hok.old r hr) (Nat.le_refl _) with ⟨h1, h2⟩ | ⟨e, he, w1, hw1, h2⟩
  · rw [h2]
    refine hdone ?_
    have h3 : (l.filter fun r => !(done.map (·.b)).toArray.contains r.b) = [] := by
      have : ((l.filter fun r => !(done.map (·.b)).toArray.contains r.b).map (Rw.ent key)).length = 0 := by rw [← hfl, Array.length_toList]; exact h1
      exact List.eq_nil_of_length_eq_zero (by rw [List.length_map] at this; exact this)
    refine List.eq_nil_iff_forall_not_mem.2 fun r hr => ?_
    have hrl := hperm.mem_iff.1 (List.mem_append_right _ hr)
    have := (hleft r hrl).2 hr
    have h4 := List.filter_eq_nil_iff.1 h3 r hrl
    rw [this] at h4
    exact h4 rfl
  · rw [hfl] at he
    obtain ⟨r, hr, rfl⟩ := List.mem_map.1 he
    obtain ⟨hrl, hrb⟩ := List.mem_filter.1 hr
    have hrb' : (done.map (·.b)).toArray.contains r.b = false := by simpa using hrb
    have hrm := (hleft r hrl).1 hrb'
    obtain ⟨s, t, hst⟩ := List.append_of_mem hrm
    rw [h2]
    refine hmore r (s ++ t) _ (hst ▸ List.perm_middle) hrl ?_
    have h1 : Sat E I (PH.one R (iterObj M clock done clock) :: ms.eraseIdx k) w1 := by
      rcases hw1 with rfl | rfl
      · exact h0
      · exact h0.drew
    have h3 := (setBlock_step (o' := iterObj M clock (done ++ [r]) clock) h1).perm (perm_back k hm)
    simpa [iterObj, Rw.ent] using h3
theorem wp_en {R : Nat} {done : List (Rw α)} {r : Rw α} {p q : PH} (hq : q.le (heapOf w)) (hqR : q R = some (iterObj M clock (done ++ [r]) clock)) (hp : p.le (heapOf w)) (hpM : p M = some (mapObj key l clock))
    (hok : MapOk l clock) (hr : r ∈ l) {it : Operand} (ho : o.op = .entry it) (hit : a.eval it = .pointer (some ⟨R, 0, none⟩))
    (h : K (a.put o.dst (.tuple #[key r.k, r.v])) w) : o.wp P a w K Q := by
  have hR : w.heap[R]? = some (.mapIter (some M) clock ((done.map (·.b)).toArray.push (Rw.ent key r).born) clock) := by
    have := hq R _ hqR
    rw [show w.heap[R]? = _ from this]
    simp [iterObj, Rw.ent]
  have hM := hp M _ hpM
  have := run_entry_at (P := P) w R M clock (done.map (·.b)).toArray (l.map (Rw.ent key)).toArray clock (Rw.ent key r) hR hM (by simpa using ⟨r, hr, rfl⟩) (by
    have := hok.born
    simpa [Rw.ent, Function.comp_def] using this)
  unfold Oper.wp execOp
  simp only [ho, hit, Sem.run_bind, this, Result.andThen_ok, Sem.run_pure]
  exact h
end
end Go.Proofs.Ytmgjoggffnogfaa
