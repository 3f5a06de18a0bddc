/- A row of the call's own as a piece; append. -/
import Derived.Test.YtmgjoggffnogfaaSb
import Derived.Test.YtmgjoggffnogfaaMem
namespace Go.Proofs.Ytmgjoggffnogfaa
set_option linter.unusedSimpArgs false
set_option linter.unusedVariables false
open Go.RowKit
/-- The piece m is the array of the row v, which holds xs (or nothing, where the row is nil). -/
def OwnP (m : PH) (e : TypeId) (size : Nat) (v : Value) (n : Nat) (xs : List Value) : Prop :=
  xs.length = n * size ∧ ((v = .slice none 0 0 ∧ n = 0 ∧ m = fun _ => none) ∨
   ∃ g cap cur, v = .slice (some ⟨g, 0, none⟩) n cap ∧ m = PH.one g (.cells cur e (0, 0)) ∧ n ≤ cap ∧ cap ≤ maxLen ∧ cap * size ≤ cur.size ∧ cur.toList.take (n * size) = xs)
section
variable {E w w' : World} {I m : PH} {ms : List PH} {e : TypeId} {size n : Nat} {v : Value} {xs : List Value}
theorem OwnP.nil (e : TypeId) (size : Nat) : OwnP (fun _ => none) e size (.slice none 0 0) 0 [] := ⟨by simp, .inl ⟨rfl, rfl, rfl⟩⟩
theorem OwnP.lit (g : Nat) (e : TypeId) (size n : Nat) (cs : Array Value) (hn : n ≤ maxLen) (hc : cs.size = n * size) : OwnP (PH.one g (.cells cs e)) e size (.slice (some ⟨g, 0, none⟩) n n) n cs.toList :=
  ⟨by simpa using hc, .inr ⟨g, n, cs, rfl, rfl, Nat.le_refl _, hn, by omega, by rw [List.take_of_length_le (by simp; omega)]⟩⟩
theorem OwnP.own (h : OwnP m e size v n xs) (hm : m.le (heapOf w)) : Own w 0 e size v n xs := by
  refine ⟨h.1, ?_⟩
  rcases h.2 with ⟨h1, h2, _⟩ | ⟨g, cap, cur, rfl, rfl, h3⟩
  · exact .inl ⟨h1, h2⟩
  · exact .inr ⟨g, cap, cur, rfl, Nat.zero_le _, hm g _ (PH.one_self _ _), h3⟩
theorem OwnP.shape (h : OwnP m e size v n xs) : ∃ A cap, v = .slice A n cap ∧ n ≤ cap := by
  rcases h.2 with ⟨rfl, rfl, _⟩ | ⟨g, cap, cur, rfl, _, hc, _⟩
  · exact ⟨none, 0, rfl, by omega⟩
  · exact ⟨_, cap, rfl, hc⟩
theorem OwnP.cells {A : Option Addr} {c : Nat} (h : OwnP m e size (.slice A n c) n xs) (hn : 0 < n) : ∃ g, A = some ⟨g, 0, none⟩ ∧ Cells m g 0 xs := by
  rcases h.2 with ⟨_, h0, _⟩ | ⟨g, cap, cur, hv, rfl, _, _, _, ht⟩
  · omega
  · injection hv with hA
    subst hA
    refine ⟨g, rfl, fun j u hj => ?_⟩
    refine Cells.one g cur e (0, 0) j u ?_
    rw [← ht, List.getElem?_take] at hj
    split at hj
    · exact hj
    · cases hj
theorem OwnP.le_max (h : OwnP m e size v n xs) : n ≤ maxLen := by
  rcases h.2 with ⟨_, rfl, _⟩ | ⟨g, cap, cur, _, _, h1, h2, _⟩
  · exact Nat.zero_le _
  · omega
theorem OwnP.of_own {E w w' : World} {I : PH} (h : OwnP m e size v n xs) (hS : Sat E I (m :: ms) w) {v' : Value} {n' : Nat} {ys : List Value} (ho : Own w' 0 e size v' n' ys) (hg : w.grownBy w' v.ownBlock)
    (hv : v'.ownBlock = v.ownBlock ∨ v'.ownBlock = some w.heap.size) : ∃ m', OwnP m' e size v' n' ys ∧ Sat E I (m' :: ms) w' := by
  have hblk : ∀ b, m b = none → b < w.heap.size → some b ≠ v.ownBlock := fun b hb _ he => by
    rcases h.2 with ⟨rfl, _⟩ | ⟨g, cap, cur, rfl, rfl, _⟩
    · cases he
    · simp only [Value.ownBlock, Option.some.injEq] at he
      subst he
      rw [PH.one_self] at hb; cases hb
  have keep : ∀ b, b < w.heap.size → m b = none → w'.heap[b]? = w.heap[b]? := fun b hb h0 => hg.block b hb (hblk b h0 hb)
  rcases ho.2 with ⟨rfl, rfl⟩ | ⟨g, cap, cur, rfl, _, hh, hc⟩
  · exact ⟨fun _ => none, ⟨ho.1, .inl ⟨rfl, rfl, rfl⟩⟩, hS.change hg.size hg.os hg.tape hg.output keep (fun b o hb => by cases hb) (fun b _ _ => rfl)⟩
  · refine ⟨PH.one g (.cells cur e (0, 0)), ⟨ho.1, .inr ⟨g, cap, cur, rfl, rfl, hc⟩⟩, hS.change hg.size hg.os hg.tape hg.output keep (fun b o hb => ?_) (fun b hb hlt => ?_)⟩
    · obtain ⟨rfl, rfl⟩ := PH.one_some hb
      exact hh
    · unfold PH.one
      rw [if_neg]
      rintro rfl
      simp only [Value.ownBlock, Option.some.injEq] at hv
      rcases hv with h1 | h1
      · exact hblk b hb hlt h1
      · omega
end
section
variable {P : Program} {o : Oper} {a : Act} {w E : World} {K : Act → World → Prop} {Q : Exit → Act → World → Prop} {I : PH} {ms : List PH}
/-- append to the row that is the k-th piece, of what a slice reads (in a piece or in what nobody writes). -/
theorem wp_apP (hS : Sat E I ms w) (k : Nat) {m p : PH} (hm : ms[k]? = some m) (hp : Src I ms p) {s x : Operand} {t : TypeId} (ho : o.op = .call { callee := .builtin .append, args := #[s, x], argTypes := #[t, t] })
    {e : TypeId} {z : Value} {size bytes : Nat} (ht : P.underlying t = some (.slice e)) (hi : (P.info? e).map (fun i => (i.zero, i.size, i.bytes)) = some (some z, size, bytes)) (hzs : z.cells.size = size) (hsz : 0 < size)
    {v : Value} {n : Nat} {xs : List Value} (hs : a.eval s = v) (hown : OwnP m e size v n xs)
    {X off r c : Nat} {news : List Value} (hx : a.eval x = .slice (some ⟨X, off, none⟩) r c) (hl : news.length = r * size) (hnews : Cells p X off news) (h1 : news.all (·.oneCell') = true)
    (h63 : n + r ≤ maxLen) (hbytes : (n + r) * bytes ≤ 140737488355328)
    (h : ∀ v' m' w', OwnP m' e size v' (n + r) (xs ++ news) → Sat E I (ms.set k m') w' → K (a.put o.dst v') w') : o.wp P a w K Q := by
  obtain ⟨i, hi1, hz1, hs1, hy1⟩ := info_parts hi
  have h0 := hS.perm (perm_front k hm)
  refine wp_append_Own w s x t ho 0 e i z size bytes ht hi1 hz1 hs1 hy1 hzs hsz v n xs hs (hown.own (h0.own _ (.head _))) ⟨X, off, none⟩ r c news hx hl (fun j u hu => ?_) (by simpa using h1) h63 hbytes (Nat.zero_le _) fun v' w' h2 h3 h4 => ?_
  · have := heap_at (hS.src hp) (hnews j u hu)
    rwa [show (⟨X, off, none⟩ : Addr).add j = ⟨X, off + j, none⟩ by unfold Addr.add; split <;> simp_all]
  · obtain ⟨m', ho', hS'⟩ := hown.of_own h0 h2 h3 h4
    exact h v' m' w' ho' (hS'.perm (perm_back k hm))
theorem apP {ops : Array Oper} {rest : List Oper} (k : Nat) {m p : PH} (hp : Src I ms p) (hS : Sat E I ms w) (hg : o.guard = none) (hm : ms[k]? = some m) {s x : Operand} {t : TypeId} (ho : o.op = .call { callee := .builtin .append, args := #[s, x], argTypes := #[t, t] })
    {e : TypeId} {z : Value} {size bytes : Nat} (ht : P.underlying t = some (.slice e)) (hi : (P.info? e).map (fun i => (i.zero, i.size, i.bytes)) = some (some z, size, bytes)) (hzs : z.cells.size = size) (hsz : 0 < size)
    {v : Value} {n : Nat} {xs : List Value} (hs : a.eval s = v) (hown : OwnP m e size v n xs)
    {X off r c : Nat} {news : List Value} (hx : a.eval x = .slice (some ⟨X, off, none⟩) r c) (hl : news.length = r * size) (hnews : Cells p X off news) (h1 : news.all (·.oneCell') = true)
    (h63 : n + r ≤ maxLen) (hbytes : (n + r) * bytes ≤ 140737488355328)
    (h : ∀ v' m' w', OwnP m' e size v' (n + r) (xs ++ news) → Sat E I (ms.set k m') w' → wpList P ops Q rest (a.put o.dst v') w') : wpList P ops Q (o :: rest) a w :=
  wpList_plain hg fun _ hK => wp_apP hS k hm hp ho ht hi hzs hsz hs hown hx hl hnews h1 h63 hbytes fun v' m' w' h2 h3 => hK _ _ (h v' m' w' h2 h3)
theorem run_append_of_nil' {w : World} {base : Nat} (t ty e : TypeId) (i : TypeInfo) (size : Nat) (ht : P.underlying t = some (.slice e)) (hi : P.info? e = some i)
    (v : Value) (n : Nat) (xs : List Value) (hown : Own w base e size v n xs) (c : Nat) : (Builtin.append_ #[t, t] ty #[v, .slice none 0 c]).run P w = .ok v w := by
  rcases hown.2 with ⟨rfl, rfl⟩ | ⟨g, cap, cur, rfl, _, _, hnc, _⟩
  · simp [Builtin.append_, run_underlying ht, sizeOf, typeInfo, hi, Builtin.lenOf, Builtin.firstCells]
  · simp [Builtin.append_, run_underlying ht, sizeOf, typeInfo, hi, Builtin.lenOf, Builtin.firstCells, hnc, storeCells]
/-- append of any slice, a nil one too. -/
theorem wp_apS (hS : Sat E I ms w) (k : Nat) {m p : PH} (hm : ms[k]? = some m) (hp : Src I ms p) {s x : Operand} {t : TypeId} (ho : o.op = .call { callee := .builtin .append, args := #[s, x], argTypes := #[t, t] })
    {e : TypeId} {z : Value} {size bytes : Nat} (ht : P.underlying t = some (.slice e)) (hi : (P.info? e).map (fun i => (i.zero, i.size, i.bytes)) = some (some z, size, bytes)) (hzs : z.cells.size = size) (hsz : 0 < size)
    {v : Value} {n : Nat} {xs : List Value} (hs : a.eval s = v) (hown : OwnP m e size v n xs)
    {A : Option Addr} {r c : Nat} {news : List Value} (hx : a.eval x = .slice A r c) (hl : news.length = r * size) (hnews : 0 < r → ∃ X off, A = some ⟨X, off, none⟩ ∧ Cells p X off news) (h1 : ∀ u ∈ news, u.oneCell' = true)
    (h63 : n + r ≤ maxLen) (hbytes : (n + r) * bytes ≤ 140737488355328)
    (h : ∀ v' m' w', OwnP m' e size v' (n + r) (xs ++ news) → Sat E I (ms.set k m') w' → K (a.put o.dst v') w') : o.wp P a w K Q := by
  obtain ⟨i, hi1, hz1, hs1, hy1⟩ := info_parts hi
  have h0 := hS.perm (perm_front k hm)
  have hO := hown.own (h0.own _ (.head _))
  cases A with
  | none =>
    have hr : r = 0 := by
      rcases Nat.eq_zero_or_pos r with h2 | h2
      · exact h2
      · obtain ⟨_, _, h3, _⟩ := hnews h2
        cases h3
    subst hr
    have hn : news = [] := List.eq_nil_of_length_eq_zero (by simpa using hl)
    subst hn
    unfold Oper.wp execOp
    simp only [ho, resolve, invoke, builtin, Sem.run_bind, Sem.run_pure, Result.andThen_ok, List.map_toArray, List.map_cons, List.map_nil, hs, hx, run_append_of_nil' t o.type e i size ht hi1 v n xs hO c]
    exact h v m w (by simpa using hown) (h0.perm (perm_back k hm))
  | some ad =>
    refine wp_append_Own w s x t ho 0 e i z size bytes ht hi1 hz1 hs1 hy1 hzs hsz v n xs hs hO ad r c news hx hl (fun j u hu => ?_) h1 h63 hbytes (Nat.zero_le _) fun v' w' h2 h3 h4 => ?_
    · have hr : 0 < r := by
        have := (List.getElem?_eq_some_iff.1 hu).1
        rw [hl] at this
        rcases Nat.eq_zero_or_pos r with h2 | h2
        · subst h2; omega
        · exact h2
      obtain ⟨X, off, hA, hc⟩ := hnews hr
      injection hA with hA
      subst hA
      have := heap_at (hS.src hp) (hc j u hu)
      rwa [show (⟨X, off, none⟩ : Addr).add j = ⟨X, off + j, none⟩ by unfold Addr.add; split <;> simp_all]
    · obtain ⟨m', ho', hS'⟩ := hown.of_own h0 h2 h3 h4
      exact h v' m' w' ho' (hS'.perm (perm_back k hm))
theorem apS {ops : Array Oper} {rest : List Oper} (k : Nat) {m p : PH} (hp : Src I ms p) (hS : Sat E I ms w) (hg : o.guard = none) (hm : ms[k]? = some m) {s x : Operand} {t : TypeId} (ho : o.op = .call { callee := .builtin .append, args := #[s, x], argTypes := #[t, t] })
    {e : TypeId} {z : Value} {size bytes : Nat} (ht : P.underlying t = some (.slice e)) (hi : (P.info? e).map (fun i => (i.zero, i.size, i.bytes)) = some (some z, size, bytes)) (hzs : z.cells.size = size) (hsz : 0 < size)
    {v : Value} {n : Nat} {xs : List Value} (hs : a.eval s = v) (hown : OwnP m e size v n xs)
    {A : Option Addr} {r c : Nat} {news : List Value} (hx : a.eval x = .slice A r c) (hl : news.length = r * size) (hnews : 0 < r → ∃ X off, A = some ⟨X, off, none⟩ ∧ Cells p X off news) (h1 : ∀ u ∈ news, u.oneCell' = true)
    (h63 : n + r ≤ maxLen) (hbytes : (n + r) * bytes ≤ 140737488355328)
    (h : ∀ v' m' w', OwnP m' e size v' (n + r) (xs ++ news) → Sat E I (ms.set k m') w' → wpList P ops Q rest (a.put o.dst v') w') : wpList P ops Q (o :: rest) a w :=
  wpList_plain hg fun _ hK => wp_apS hS k hm hp ho ht hi hzs hsz hs hown hx hl hnews h1 h63 hbytes fun v' m' w' h2 h3 => hK _ _ (h v' m' w' h2 h3)
end
end Go.Proofs.Ytmgjoggffnogfaa
