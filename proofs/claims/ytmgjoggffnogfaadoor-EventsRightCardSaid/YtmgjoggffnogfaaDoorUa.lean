/- A strings.Builder in pieces. -/
import Derived.Test.YtmgjoggffnogfaaDoorEc
import Derived.Test.YtmgjoggffnogfaaDoorEa
import Derived.Test.YtmgjoggffnogfaaDoorKq
import Derived.Lib.AppendStr
import Derived.Lib.UnsafeStr
import Derived.Deep.QuietTactic
import Derived.BigQuiet
namespace Go.Proofs.YtmgjoggffnogfaaDoor
set_option linter.unusedSimpArgs false
set_option linter.unusedVariables false
open Go.RowKit
section
variable {E w w' : World} {I m : PH} {ms : List PH} {e : TypeId} {size n : Nat} {v : Value} {xs : List Value}
theorem OwnP.of_own2 (h : OwnP m e size v n xs) (hS : Sat E I (m :: ms) w) {v' : Value} {n' : Nat} {ys : List Value} (ho : Own w' 0 e size v' n' ys) (hg : w.grownBy w' v.ownBlock)
    (hv : ∀ g, v'.ownBlock = some g → v'.ownBlock = v.ownBlock ∨ w.heap.size ≤ g) : ∃ m', OwnP m' e size v' n' ys ∧ Sat E I (m' :: ms) w' := by
  have hblk : ∀ b, m b = none → b < w.heap.size → some b ≠ v.ownBlock := fun b hb _ he => by
    rcases h.2 with ⟨rfl, _⟩ | ⟨g, cap, cur, rfl, rfl, _⟩
    · cases he
    · simp only [Value.ownBlock, Option.some.injEq] at he
      subst he
      rw [PH.one_self] at hb; cases hb
  have keep : ∀ b, b < w.heap.size → m b = none → w'.heap[b]? = w.heap[b]? := fun b hb h0 => hg.block b hb (hblk b h0 hb)
  rcases ho.2 with ⟨rfl, rfl⟩ | ⟨g, cap, cur, rfl, _, hh, hc⟩
  · exact ⟨fun _ => none, ⟨ho.1, .inl ⟨rfl, rfl, rfl⟩⟩, hS.change hg.size hg.os hg.tape hg.output keep (fun b o hb => by cases hb) (fun b _ _ => rfl)⟩
  · refine ⟨PH.one g (.cells cur e (0, 0)), ⟨ho.1, .inr ⟨g, cap, cur, rfl, rfl, hc⟩⟩, hS.change hg.size hg.os hg.tape hg.output keep (fun b o hb => ?_) (fun b hb hlt => ?_)⟩
    · obtain ⟨rfl, rfl⟩ := PH.one_some hb
      exact hh
    · unfold PH.one
      rw [if_neg]
      rintro rfl
      rcases hv b rfl with h1 | h1
      · exact hblk b hb hlt h1
      · omega
end
section
variable {P : Program} {w E : World} {I m : PH} {ms : List PH}
theorem run_append_OwnS (t u ty e : TypeId) (i : TypeInfo) (ht : P.underlying t = some (.slice e)) (hu : P.underlying u = some .string) (hi : P.info? e = some i) (hz : i.zero = some (.int .u8 0)) (hsize : i.size = 1) (hby : i.bytes = 1)
    (v : Value) (n : Nat) (xs : List Value) (hown : Own w 0 e 1 v n xs) (s : ByteArray) (h63 : n + s.size ≤ maxLen) (hbytes : n + s.size ≤ 140737488355328) :
    ∃ v' w', (Builtin.append_ #[t, u] ty #[v, .string s]).run P w = .ok v' w' ∧ Own w' 0 e 1 v' (n + s.size) (xs ++ Lib.strCells s) ∧ w.grownBy w' v.ownBlock ∧ ∀ g, v'.ownBlock = some g → v'.ownBlock = v.ownBlock ∨ w.heap.size ≤ g := by
  have hxl : xs.length = n := by simpa using hown.1
  have hlen : (xs ++ Lib.strCells s).length = (n + s.size) * 1 := by rw [List.length_append, hxl, Lib.strCells_length, Nat.mul_one]
  rcases hown.2 with ⟨rfl, rfl⟩ | ⟨g, cap, cur, rfl, _, hg, hnc, hcm, hcs, htake⟩
  · have hx : xs = [] := List.eq_nil_of_length_eq_zero hxl
    subst hx
    obtain ⟨v', w', hr, h2, h3, _⟩ := Lib.run_append_own_string (P := P) w w.heap.size t u ty e i ht hu hi hz hsize hby _ 0 [] (World.ownsRow_nil w _ e 1) s h63 hbytes (Nat.le_refl _)
    refine ⟨v', w', hr, ⟨h2.1, ?_⟩, h3, fun g hg => ?_⟩
    · rcases h2.2 with h4 | ⟨g, cap, cur, h4, h5, h6, h7, h8, h9, h10⟩
      · exact .inl h4
      · exact .inr ⟨g, cap, cur, h4, Nat.zero_le _, h6, h7, h8, by omega, h10⟩
    · rcases h2.2 with ⟨h4, _⟩ | ⟨g', cap, cur, h4, h5, _⟩
      · subst h4; cases hg
      · subst h4
        simp only [Value.ownBlock, Option.some.injEq] at hg
        subst hg
        exact .inr h5
  · by_cases hroom : n + s.size ≤ cap
    · have hr := Lib.run_append_room_string (P := P) w t u ty e i ht hu hi hsize g n cap cur hg s hroom (by omega)
      refine ⟨_, _, hr, ⟨hlen, .inr ⟨g, cap, _, rfl, Nat.zero_le _, setRow_heap w g cur _ e _ hg, hroom, hcm, ?_, ?_⟩⟩, ⟨rfl, rfl, rfl, by simp, fun k _ hk => setRow_other w g k _ (fun e => hk (by simp [Value.ownBlock, e]))⟩, fun _ _ => .inl rfl⟩
      · simp only [List.size_toArray, List.length_append, List.length_take, List.length_drop, Array.length_toList, Lib.strCells_length]
        omega
      · have ht' : cur.toList.take n = xs := by simpa using htake
        rw [ht', ← hlen]
        exact List.take_left
    · have hall : ∀ j u, xs[j]? = some u → w.cell? ((⟨g, 0, none⟩ : Addr).add j) = some u := by
        intro j u hu
        have hj : j < n * 1 := by rw [← hown.1]; exact (List.getElem?_eq_some_iff.1 hu).1
        have h0 : (⟨g, 0, none⟩ : Addr).add j = ⟨g, j, none⟩ := by
          unfold Addr.add
          by_cases h0 : j = 0 <;> simp [h0]
        rw [h0, cell_of_row w g j cur e (0, 0) hg, ← hu, ← htake, List.getElem?_take_of_lt hj]
        simp
      have hmx : n + s.size ≤ 9223372036854775807 := by unfold maxLen at h63; omega
      have hr := Lib.run_append_grow_string (P := P) w t u ty e i (.int .u8 0) ht hu hi hz ⟨g, 0, none⟩ n cap xs (by rw [hsize]; simpa using hxl) hall s (by omega) (by omega) (by rw [hby]; exact growslice_fits (by omega) (by omega))
      have hge := grownCap_ge w (n + s.size) cap e
      have hcm2 : grownCap w (n + s.size) cap e ≤ maxLen := grownCap_le_maxLen w (n + s.size) cap e h63
      refine ⟨_, _, hr, ⟨hlen, .inr ⟨w.heap.size, _, _, rfl, Nat.zero_le _, heap_alloc_new w.drew _, hge, hcm2, ?_, ?_⟩⟩, ⟨rfl, rfl, rfl, by simp, fun k hk _ => heap_alloc_old w.drew _ hk⟩, fun g' hg' => .inr ?_⟩
      · have hz1 : (Value.int IntKind.u8 0).cells.size = 1 := rfl
        simp only [Array.size_append, List.size_toArray, size_zeroCells, hz1, hxl, Lib.strCells_length]
        omega
      · simp only [Array.toList_append, List.append_assoc]
        rw [← List.append_assoc, ← hlen]
        exact List.take_left
      · simp only [Value.ownBlock, Option.some.injEq] at hg'
        omega
/-- append of a string's bytes to the row that is the k-th piece. -/
theorem wp_apStr {o : Oper} {a : Act} {K : Act → World → Prop} {Q : Exit → Act → World → Prop} (hS : Sat E I ms w) (k : Nat) (hm : ms[k]? = some m) {s x : Operand} {t u : TypeId} (ho : o.op = .call { callee := .builtin .append, args := #[s, x], argTypes := #[t, u] })
    {e : TypeId} (ht : P.underlying t = some (.slice e)) (hu : P.underlying u = some .string) (hi : (P.info? e).map (fun i => (i.zero, i.size, i.bytes)) = some (some (.int .u8 0), 1, 1))
    {v : Value} {n : Nat} {xs : List Value} (hs : a.eval s = v) (hown : OwnP m e 1 v n xs) {str : ByteArray} (hx : a.eval x = .string str)
    (h63 : n + str.size ≤ 140737488355328)
    (h : ∀ A' c' m' w', OwnP m' e 1 (.slice A' (n + str.size) c') (n + str.size) (xs ++ Lib.strCells str) → Sat E I (ms.set k m') w' → K (a.put o.dst (.slice A' (n + str.size) c')) w') : o.wp P a w K Q := by
  obtain ⟨i, hi1, hz1, hs1, hy1⟩ := info_parts hi
  have h0 := hS.perm (perm_front k hm)
  obtain ⟨v', w', hr, h2, h3, h4⟩ := run_append_OwnS (P := P) (w := w) t u o.type e i ht hu hi1 hz1 hs1 hy1 v n xs (hown.own (h0.own _ (.head _))) str (by unfold maxLen; omega) h63
  obtain ⟨m', ho', hS'⟩ := hown.of_own2 h0 h2 h3 h4
  unfold Oper.wp execOp
  simp only [ho, resolve, invoke, builtin, Sem.run_bind, Sem.run_pure, Result.andThen_ok, List.map_toArray, List.map_cons, List.map_nil, hs, hx, hr]
  obtain ⟨A', c', rfl, _⟩ := ho'.shape
  exact h A' c' m' w' ho' (hS'.perm (perm_back k hm))
theorem apStr {o : Oper} {a : Act} {Q : Exit → Act → World → Prop} {ops : Array Oper} {rest : List Oper} (k : Nat) (hS : Sat E I ms w) (hg : o.guard = none) (hm : ms[k]? = some m) {s x : Operand} {t u : TypeId} (ho : o.op = .call { callee := .builtin .append, args := #[s, x], argTypes := #[t, u] })
    {e : TypeId} (ht : P.underlying t = some (.slice e)) (hu : P.underlying u = some .string) (hi : (P.info? e).map (fun i => (i.zero, i.size, i.bytes)) = some (some (.int .u8 0), 1, 1))
    {v : Value} {n : Nat} {xs : List Value} (hs : a.eval s = v) (hown : OwnP m e 1 v n xs) {str : ByteArray} (hx : a.eval x = .string str)
    (h63 : n + str.size ≤ 140737488355328)
    (h : ∀ A' c' m' w', OwnP m' e 1 (.slice A' (n + str.size) c') (n + str.size) (xs ++ Lib.strCells str) → Sat E I (ms.set k m') w' → wpList P ops Q rest (a.put o.dst (.slice A' (n + str.size) c')) w') : wpList P ops Q (o :: rest) a w :=
  wpList_plain hg fun _ hK => wp_apStr hS k hm ho ht hu hi hs hown hx h63 fun A' c' m' w' h2 h3 => hK _ _ (h A' c' m' w' h2 h3)
/-- append of what a slice literal holds (the first piece), with the new row's shape. -/
theorem apQ {o : Oper} {a : Act} {Q : Exit → Act → World → Prop} {ops : Array Oper} {rest : List Oper} (k : Nat) {p : PH} (hp : Src I ms p) (hS : Sat E I ms w) (hg : o.guard = none) (hm : ms[k]? = some m) {s x : Operand} {t : TypeId} (ho : o.op = .call { callee := .builtin .append, args := #[s, x], argTypes := #[t, t] })
    {e : TypeId} {z : Value} {size bytes : Nat} (ht : P.underlying t = some (.slice e)) (hi : (P.info? e).map (fun i => (i.zero, i.size, i.bytes)) = some (some z, size, bytes)) (hzs : z.cells.size = size) (hsz : 0 < size)
    {v : Value} {n : Nat} {xs : List Value} (hs : a.eval s = v) (hown : OwnP m e size v n xs)
    {X off r c : Nat} {news : List Value} (hx : a.eval x = .slice (some ⟨X, off, none⟩) r c) (hl : news.length = r * size) (hnews : Cells p X off news) (h1 : news.all (·.oneCell') = true)
    (h63 : n + r ≤ maxLen) (hbytes : (n + r) * bytes ≤ 140737488355328)
    (h : ∀ A' c' m' w', OwnP m' e size (.slice A' (n + r) c') (n + r) (xs ++ news) → Sat E I (ms.set k m') w' → wpList P ops Q rest (a.put o.dst (.slice A' (n + r) c')) w') : wpList P ops Q (o :: rest) a w :=
  apP k hp hS hg hm ho ht hi hzs hsz hs hown hx hl hnews h1 h63 hbytes fun v' m' w' h2 h3 => by
    obtain ⟨A', c', rfl, _⟩ := h2.shape
    exact h A' c' m' w' h2 h3
/-- The first piece, frozen and forgotten. -/
theorem Sat.unsafe {g : Nat} {c : Array Value} {T : TypeId} {z : Nat × Nat} (hS : Sat E I (PH.one g (.cells c T z) :: ms) w) (n : Nat) : Sat E I ms (w.freeze ⟨g, 0, none⟩ n) := by
  have hk : ∀ b, b ≠ g → (w.freeze ⟨g, 0, none⟩ n).heap[b]? = w.heap[b]? := fun b hb => by
    unfold World.freeze
    split
    · rfl
    · simp only [Array.getElem?_modify]
      rw [if_neg (Ne.symm hb)]
  refine (hS.change (m' := fun _ => none) ?_ ?_ ?_ ?_ (fun b hb h0 => ?_) (fun b o hb => by cases hb) (fun _ _ _ => rfl)).drop
  · unfold World.freeze; split <;> simp
  · unfold World.freeze; split <;> rfl
  · unfold World.freeze; split <;> rfl
  · unfold World.freeze; split <;> rfl
  · refine hk b ?_
    rintro rfl
    rw [PH.one_self] at h0; cases h0
end
/-- Bytes as cells. -/
def bcells (l : List Nat) : List Value := l.map fun c : Nat => Value.int .u8 (c : Int)
theorem bcells_str (s : ByteArray) : Lib.strCells s = bcells (lst s) := by
  unfold Lib.strCells bcells lst
  rw [List.map_map]
  rfl
/-- A builder that holds the bytes l: its variable, its row. -/
def Bld (X : Nat) (l : List Nat) (mb mr : PH) : Prop := ∃ p v, mb = PH.one X (.cells #[.pointer p, v] 51) ∧ (p = none ∨ p = some ⟨X, 0, none⟩) ∧ OwnP mr 5 1 v l.length (bcells l)
theorem byte_info : (Tryd.prog.info? 5).map (fun i => (i.zero, i.size, i.bytes)) = some (some (.int .u8 0), 1, 1) := by kernel_rfl
end Go.Proofs.YtmgjoggffnogfaaDoor
