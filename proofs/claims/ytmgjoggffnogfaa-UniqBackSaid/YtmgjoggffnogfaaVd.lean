/- Maps in pieces: the operations in a walk's list; keys that are arrays of two integers. -/
import Derived.Test.YtmgjoggffnogfaaVb
import Derived.WalkKit
namespace Go.Proofs.Ytmgjoggffnogfaa
set_option linter.unusedSimpArgs false
set_option linter.unusedVariables false
open Go.RowKit
set_option linter.unusedSectionVars false
section
variable {α : Type} [DecidableEq α] {P : Program} {o : Oper} {a : Act} {w E : World} {Q : Exit → Act → World → Prop} {I : PH} {ms : List PH} {ops : Array Oper} {rest : List Oper}
  {key : α → Value} {kt et T : TypeId} {l : List (Rw α)} {clock M : Nat} {x : α} {v : Value}
theorem isLookup {dst : Option Tmp} {type : TypeId} {pos : String} {after : Array Edge} {T : TypeId} {m y : Operand} {c : Bool} (h : wpList P ops Q (⟨dst, .lookup T m y c, type, pos, after, none⟩ :: rest) a w) : wpList P ops Q (⟨dst, .lookup T m y c, type, pos, after, none⟩ :: rest) a w := h
theorem isUpdate {dst : Option Tmp} {type : TypeId} {pos : String} {after : Array Edge} {T : TypeId} {m y z : Operand} (h : wpList P ops Q (⟨dst, .mapUpdate T m y z, type, pos, after, none⟩ :: rest) a w) : wpList P ops Q (⟨dst, .mapUpdate T m y z, type, pos, after, none⟩ :: rest) a w := h
theorem isRange {dst : Option Tmp} {type : TypeId} {pos : String} {after : Array Edge} {T : TypeId} {m : Operand} (h : wpList P ops Q (⟨dst, .range T m, type, pos, after, none⟩ :: rest) a w) : wpList P ops Q (⟨dst, .range T m, type, pos, after, none⟩ :: rest) a w := h
theorem isNext {dst : Option Tmp} {type : TypeId} {pos : String} {after : Array Edge} {m : Operand} (h : wpList P ops Q (⟨dst, .next m false, type, pos, after, none⟩ :: rest) a w) : wpList P ops Q (⟨dst, .next m false, type, pos, after, none⟩ :: rest) a w := h
theorem isEntry {dst : Option Tmp} {type : TypeId} {pos : String} {after : Array Edge} {m : Operand} (h : wpList P ops Q (⟨dst, .entry m, type, pos, after, none⟩ :: rest) a w) : wpList P ops Q (⟨dst, .entry m, type, pos, after, none⟩ :: rest) a w := h
theorem isMakeMap {dst : Option Tmp} {type : TypeId} {pos : String} {after : Array Edge} {T : TypeId} (h : wpList P ops Q (⟨dst, .makeMap T none, type, pos, after, none⟩ :: rest) a w) : wpList P ops Q (⟨dst, .makeMap T none, type, pos, after, none⟩ :: rest) a w := h
theorem isDelete {dst : Option Tmp} {type : TypeId} {pos : String} {after : Array Edge} {m y : Operand} {t t' : TypeId} (h : wpList P ops Q (⟨dst, .call { callee := .builtin .delete, args := #[m, y], argTypes := #[t, t'] }, type, pos, after, none⟩ :: rest) a w) :
    wpList P ops Q (⟨dst, .call { callee := .builtin .delete, args := #[m, y], argTypes := #[t, t'] }, type, pos, after, none⟩ :: rest) a w := h
theorem isClear {dst : Option Tmp} {type : TypeId} {pos : String} {after : Array Edge} {m : Operand} {t : TypeId} (h : wpList P ops Q (⟨dst, .call { callee := .builtin .clear, args := #[m], argTypes := #[t] }, type, pos, after, none⟩ :: rest) a w) :
    wpList P ops Q (⟨dst, .call { callee := .builtin .clear, args := #[m], argTypes := #[t] }, type, pos, after, none⟩ :: rest) a w := h
theorem isLen {dst : Option Tmp} {type : TypeId} {pos : String} {after : Array Edge} {m : Operand} (t : TypeId) (h : wpList P ops Q (⟨dst, .call { callee := .builtin .len, args := #[m], argTypes := #[t] }, type, pos, after, none⟩ :: rest) a w) :
    wpList P ops Q (⟨dst, .call { callee := .builtin .len, args := #[m], argTypes := #[t] }, type, pos, after, none⟩ :: rest) a w := h
/-- lookup with ok. -/
theorem lk2 {p : PH} (hS : Sat E I ms w) (hp : Src I ms p) (hpM : p M = some (mapObj key l clock)) (hk : Key P kt key) (ht : P.underlying T = some (.map kt et)) {z : Value} (hz : zeroB P et = some z) (hg : o.guard = none) {m y : Operand} (ho : o.op = .lookup T m y true)
    (hm : a.eval m = .map (some M)) (hy : a.eval y = key x) {q : Option Value} (hq : getR l x = q) (h : wpList P ops Q rest (a.put o.dst (.tuple #[q.getD z, .bool q.isSome])) w) : wpList P ops Q (o :: rest) a w :=
  wpList_plain hg fun _ hK => wp_lk (hS.src hp) hpM hk ht hz ho hm hy (hK _ _ (by rw [if_pos rfl, hq]; exact h))
theorem lk1 {p : PH} (hS : Sat E I ms w) (hp : Src I ms p) (hpM : p M = some (mapObj key l clock)) (hk : Key P kt key) (ht : P.underlying T = some (.map kt et)) {z : Value} (hz : zeroB P et = some z) (hg : o.guard = none) {m y : Operand} (ho : o.op = .lookup T m y false)
    (hm : a.eval m = .map (some M)) (hy : a.eval y = key x) {q : Option Value} (hq : getR l x = q) (h : wpList P ops Q rest (a.put o.dst (q.getD z)) w) : wpList P ops Q (o :: rest) a w :=
  wpList_plain hg fun _ hK => wp_lk (hS.src hp) hpM hk ht hz ho hm hy (hK _ _ (by rw [if_neg (by simp), hq]; exact h))
theorem muNew (hS : Sat E I ms w) (k : Nat) (hm : ms[k]? = some (PH.one M (mapObj key l clock))) (hk : Key P kt key) (ht : P.underlying T = some (.map kt et)) (hg : o.guard = none) {m y z : Operand} (ho : o.op = .mapUpdate T m y z)
    (hem : a.eval m = .map (some M)) (hy : a.eval y = key x) (hz : a.eval z = v) (hn : MapOk l clock) (hx : getR l x = none)
    (h : ∀ w', Sat E I (ms.set k (PH.one M (mapObj key (l ++ [⟨x, v, clock⟩]) (clock + 1)))) w' → wpList P ops Q rest (a.put o.dst undef) w') : wpList P ops Q (o :: rest) a w :=
  wpList_plain hg fun _ hK => wp_mu hS k hm hk ht ho hem hy hz hn fun w' hS' => hK _ _ (h w' (by rw [hx] at hS'; exact hS'))
theorem muOld (hS : Sat E I ms w) (k : Nat) (hm : ms[k]? = some (PH.one M (mapObj key l clock))) (hk : Key P kt key) (ht : P.underlying T = some (.map kt et)) (hg : o.guard = none) {m y z : Operand} (ho : o.op = .mapUpdate T m y z)
    (hem : a.eval m = .map (some M)) (hy : a.eval y = key x) (hz : a.eval z = v) (hn : MapOk l clock) {u : Value} (hx : getR l x = some u)
    (h : ∀ w', Sat E I (ms.set k (PH.one M (mapObj key (putR l x v) clock))) w' → wpList P ops Q rest (a.put o.dst undef) w') : wpList P ops Q (o :: rest) a w :=
  wpList_plain hg fun _ hK => wp_mu hS k hm hk ht ho hem hy hz hn fun w' hS' => hK _ _ (h w' (by rw [hx] at hS'; exact hS'))
theorem dl (hS : Sat E I ms w) (k : Nat) (hm : ms[k]? = some (PH.one M (mapObj key l clock))) (hk : Key P kt key) (ht : P.underlying T = some (.map kt et)) (hg : o.guard = none) {m y : Operand} {K2 : TypeId} (ho : o.op = .call { callee := .builtin .delete, args := #[m, y], argTypes := #[T, K2] })
    (hem : a.eval m = .map (some M)) (hy : a.eval y = key x) (hn : MapOk l clock)
    (h : ∀ w', Sat E I (ms.set k (PH.one M (mapObj key (delR l x) clock))) w' → wpList P ops Q rest (a.put o.dst (.tuple #[])) w') : wpList P ops Q (o :: rest) a w :=
  wpList_plain hg fun _ hK => wp_dl hS k hm hk ht ho hem hy hn fun w' hS' => hK _ _ (h w' hS')
theorem clr (hS : Sat E I ms w) (k : Nat) (hm : ms[k]? = some (PH.one M (mapObj key l clock))) (ht : P.underlying T = some (.map kt et)) (hg : o.guard = none) {m : Operand} (ho : o.op = .call { callee := .builtin .clear, args := #[m], argTypes := #[T] })
    (hem : a.eval m = .map (some M))
    (h : ∀ w', Sat E I (ms.set k (PH.one M (mapObj key ([] : List (Rw α)) clock))) w' → wpList P ops Q rest (a.put o.dst (.tuple #[])) w') : wpList P ops Q (o :: rest) a w :=
  wpList_plain hg fun _ hK => wp_cl hS k hm ht ho hem fun w' hS' => hK _ _ (h w' hS')
theorem lnM {p : PH} (hS : Sat E I ms w) (hp : Src I ms p) (hpM : p M = some (mapObj key l clock)) (ht : P.underlying T = some (.map kt et)) (hg : o.guard = none) {m : Operand} (ho : o.op = .call { callee := .builtin .len, args := #[m], argTypes := #[T] })
    (hem : a.eval m = .map (some M)) (h : wpList P ops Q rest (a.put o.dst (.int .i64 l.length)) w) : wpList P ops Q (o :: rest) a w :=
  wpList_plain hg fun _ hK => wp_ln (hS.src hp) hpM ht ho hem (hK _ _ h)
theorem mkM (key : α → Value) (hS : Sat E I ms w) (hg : o.guard = none) (ho : o.op = .makeMap T none)
    (h : ∀ M w', Sat E I (PH.one M (mapObj key ([] : List (Rw α)) 0) :: ms) w' → wpList P ops Q rest (a.put o.dst (.map (some M))) w') : wpList P ops Q (o :: rest) a w :=
  wpList_plain hg fun _ hK => wp_mk hS ho fun M w' hS' => hK _ _ (h M w' hS')
theorem rgM {p : PH} (hS : Sat E I ms w) (hp : Src I ms p) (hpM : p M = some (mapObj key l clock)) (ht : P.underlying T = some (.map kt et)) (hg : o.guard = none) {m : Operand} (ho : o.op = .range T m) (hem : a.eval m = .map (some M))
    (h : ∀ X w', Sat E I (PH.one X (iterObj M clock ([] : List (Rw α)) clock) :: ms) w' → wpList P ops Q rest (a.put o.dst (.pointer (some ⟨X, 0, none⟩))) w') : wpList P ops Q (o :: rest) a w :=
  wpList_plain hg fun _ hK => wp_rg hS (hS.src hp) hpM ht ho hem fun X w' hS' => hK _ _ (h X w' hS')
theorem nxM (hS : Sat E I ms w) (k : Nat) {R : Nat} {done left : List (Rw α)} (hm : ms[k]? = some (PH.one R (iterObj M clock done clock))) {p : PH} (hp : Src I ms p) (hpM : p M = some (mapObj key l clock))
    (hok : MapOk l clock) (hperm : (done ++ left).Perm l) (hg : o.guard = none) {it : Operand} (ho : o.op = .next it false) (hit : a.eval it = .pointer (some ⟨R, 0, none⟩))
    (hdone : left = [] → wpList P ops Q rest (a.put o.dst (.tuple #[.bool false])) w)
    (hmore : ∀ r left' w', left.Perm (r :: left') → r ∈ l → Sat E I (ms.set k (PH.one R (iterObj M clock (done ++ [r]) clock))) w' → wpList P ops Q rest (a.put o.dst (.tuple #[.bool true, key r.k, r.v])) w') : wpList P ops Q (o :: rest) a w :=
  wpList_plain hg fun _ hK => wp_nx hS k hm hp hpM hok hperm ho hit (fun h0 => hK _ _ (hdone h0)) fun r left' w' h1 h2 h3 => hK _ _ (hmore r left' w' h1 h2 h3)
theorem enM (hS : Sat E I ms w) {R : Nat} {done : List (Rw α)} {r : Rw α} {p q : PH} (hq : Src I ms q) (hqR : q R = some (iterObj M clock (done ++ [r]) clock)) (hp : Src I ms p) (hpM : p M = some (mapObj key l clock))
    (hok : MapOk l clock) (hr : r ∈ l) (hg : o.guard = none) {it : Operand} (ho : o.op = .entry it) (hit : a.eval it = .pointer (some ⟨R, 0, none⟩))
    (h : wpList P ops Q rest (a.put o.dst (.tuple #[key r.k, r.v])) w) : wpList P ops Q (o :: rest) a w :=
  wpList_plain hg fun _ hK => wp_en (hS.src hq) hqR (hS.src hp) hpM hok hr ho hit (hK _ _ h)
end
def ekey (x : Int × Int) : Value := .agg #[.int .i64 x.1, .int .i64 x.2]
section
variable {P : Program} {kt e : TypeId}
theorem eq_ekey (hu : P.underlying kt = some (.array 2 e)) (he : P.underlying e = some (.int .i64)) (hi : (P.info? e).isSome = true) (hc : P.cellsOf e = 1) (w : World) (x y : Int × Int) : (Op.equal kt (ekey x) (ekey y)).run P w = .ok (decide (x = y)) w := by
  obtain ⟨i, hi⟩ := Option.isSome_iff_exists.1 hi
  obtain ⟨a, b⟩ := x
  obtain ⟨c, d⟩ := y
  unfold Op.equal Op.maxDepth ekey
  rw [show (10000 : Nat) = 9999 + 1 from rfl, run_equalIn_array w 9999 _ _ hu hi, hc]
  have hA : ∀ w, (isAgg e).run P w = .ok false w := fun w => by simp [isAgg, run_underlying he]
  have hE : ∀ (w : World) (a b : Int), (Op.equalIn 9999 e (.int .i64 a) (.int .i64 b)).run P w = .ok (a == b) w := fun w a b => by
    rw [show (9999 : Nat) = 9998 + 1 from rfl]
    unfold Op.equalIn
    simp only [Sem.run_bind, run_underlying he, Result.andThen_ok, if_true, Sem.run_pure]
  simp only [show List.range 2 = [0, 1] from rfl, Op.eqItems]
  by_cases h1 : a = c <;> by_cases h2 : b = d <;> simp [h1, h2, part, hA, hE, Prod.mk.injEq]
theorem check_ekey (hu : P.underlying kt = some (.array 2 e)) (he : P.underlying e = some (.int .i64)) (hi : (P.info? e).isSome = true) (hc : P.cellsOf e = 1) (w : World) (em : Bool) (x : Int × Int) : (Instr.checkKey em 10000 kt (ekey x)).run P w = .ok () w := by
  obtain ⟨i, hi⟩ := Option.isSome_iff_exists.1 hi
  obtain ⟨a, b⟩ := x
  have hc' := hc
  have hsz := run_sizeOf w hi
  rw [hc'] at hsz
  unfold ekey
  rw [show (10000 : Nat) = 9999 + 1 from rfl]
  have hA : ∀ w, (isAgg e).run P w = .ok false w := fun w => by simp [isAgg, run_underlying he]
  have hC : ∀ (w : World) (a : Int), (Instr.checkKey em 9999 e (.int .i64 a)).run P w = .ok () w := fun w a => by
    rw [show (9999 : Nat) = 9998 + 1 from rfl]
    unfold Instr.checkKey
    simp only [Sem.run_bind, run_underlying he, Result.andThen_ok, Sem.run_pure]
  rw [Instr.checkKey]
  simp only [Sem.run_bind, run_underlying hu, Result.andThen_ok]
  simp only [Std.Legacy.Range.forIn_eq_forIn_range', Std.Legacy.Range.size, Nat.sub_zero, Nat.add_one_sub_one, Nat.div_one, show List.range' 0 2 = [0, 1] from rfl]
  simp [List.forIn_cons, hsz, part, hA, hC]
theorem find_asking {α : Type} [DecidableEq α] {key : α → Value} (heq : ∀ (w : World) (x y : α), (Op.equal kt (key x) (key y)).run P w = .ok (decide (x = y)) w) (w : World) (x : α) : ∀ (l : List (Rw α)) (i : Nat), (Instr.findAsking kt (key x) (l.map (Rw.ent key)) i).run P w = .ok (look x l i) w
  | [], _ => by simp [Instr.findAsking, look]
  | r :: l, i => by
    simp only [List.map_cons, Instr.findAsking, Sem.run_bind, Rw.ent, heq, Result.andThen_ok]
    unfold look
    by_cases h : r.k = x
    · simp [h]
    · rw [if_neg h]
      have : ¬ x = r.k := fun e => h e.symm
      simp only [decide_eq_false this, Bool.false_eq_true, if_false]
      exact find_asking heq w x l (i + 1)
theorem key_ekey (hu : P.underlying kt = some (.array 2 e)) (he : P.underlying e = some (.int .i64)) (hi : (P.info? e).isSome = true) (hc : P.cellsOf e = 1) : Key P kt ekey where
  check w em x := check_ekey hu he hi hc w em x
  find w x l := by
    unfold Instr.findKey
    simp only [Sem.run_bind, run_underlying hu, Result.andThen_ok]
    cases l with
    | nil => simp [Instr.findNow, look]
    | cons r l =>
      simp only [List.map_cons, Rw.ent, Instr.findNow, Instr.sameNow, ekey]
      exact find_asking (eq_ekey hu he hi hc) w x (r :: l) 0
  same x := by simp [ekey, Instr.sameBits]
end
end Go.Proofs.Ytmgjoggffnogfaa
