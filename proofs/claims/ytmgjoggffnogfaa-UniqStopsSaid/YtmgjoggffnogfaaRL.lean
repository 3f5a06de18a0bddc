/- Slices that are read: where their elements lie; the slices that come in. -/
import Derived.Test.YtmgjoggffnogfaaChg
import Derived.Deep.Slices
import Derived.Deep.Fields
namespace Go.Proofs.Ytmgjoggffnogfaa
set_option linter.unusedSimpArgs false
set_option linter.unusedVariables false
open Go.ChangeShapes Go.WideShapes Go.ChangeAt Go.RowKit
set_option linter.unusedVariables false
theorem wf_u8 {a : Int} (h : (Lit.int .u8 a).wf = true) : 0 ≤ a ∧ a ≤ 255 := by
  simp only [Lit.wf, Bool.and_eq_true, decide_eq_true_eq] at h; exact h
theorem wf_i64 {a : Int} (h : (Lit.int .i64 a).wf = true) : -9223372036854775808 ≤ a ∧ a ≤ 9223372036854775807 := by
  simp only [Lit.wf, Bool.and_eq_true, decide_eq_true_eq] at h; exact h
theorem wf_u64 {a : Int} (h : (Lit.int .u64 a).wf = true) : 0 ≤ a ∧ a ≤ 18446744073709551615 := by
  simp only [Lit.wf, Bool.and_eq_true, decide_eq_true_eq] at h; exact h
theorem wf_u16 {a : Int} (h : (Lit.int .u16 a).wf = true) : 0 ≤ a ∧ a ≤ 65535 := by
  simp only [Lit.wf, Bool.and_eq_true, decide_eq_true_eq] at h; exact h
/-- A slice at A of n elements of 'size' cells, below block B, whose cells are xs. -/
def RL (w : World) (B size : Nat) (A : Option Addr) (n : Nat) (xs : List Value) : Prop :=
  xs.length = n * size ∧ (0 < n → ∃ b o, A = some ⟨b, o, none⟩ ∧ b < B ∧ ∀ k, k < n * size → w.cell? ⟨b, o + k, none⟩ = xs[k]?)
section
variable {w w' : World} {B B' size n : Nat} {A : Option Addr} {xs : List Value}
theorem RL.at_ (h : RL w B size A n xs) (hn : 0 < n) : ∃ b o, A = some ⟨b, o, none⟩ ∧ b < B ∧ ∀ k, k < n * size → w.cell? ⟨b, o + k, none⟩ = xs[k]? := h.2 hn
theorem RL.keep (h : RL w B size A n xs) (hk : ∀ b, b < B → w'.heap[b]? = w.heap[b]?) : RL w' B size A n xs :=
  ⟨h.1, fun hn => by
    obtain ⟨b, o, e, hb, hc⟩ := h.2 hn
    exact ⟨b, o, e, hb, fun k hkn => (World.cell?_of_block (w := w) (a := ⟨b, o + k, none⟩) (hk b hb)).trans (hc k hkn)⟩⟩
theorem RL.more (h : RL w B size A n xs) (hB : B ≤ B') : RL w B' size A n xs :=
  ⟨h.1, fun hn => by
    obtain ⟨b, o, e, hb, hc⟩ := h.2 hn
    exact ⟨b, o, e, by omega, hc⟩⟩
theorem RL.below (h : RL w B size A n xs) (hb : Below B w w') : RL w' B size A n xs := h.keep fun b hlt => hb.block b hlt
theorem RL.drewN (h : RL w B size A n xs) (k : Nat) : RL (w.drewN k) B size A n xs := h
theorem RL.drew (h : RL w B size A n xs) : RL w.drew B size A n xs := h
theorem RL.alloc (h : RL w B size A n xs) (hB : B ≤ w.heap.size) (o : Obj) : RL (w.alloc o) B size A n xs := h.keep fun b hb => Below.heap_alloc w o b (by omega)
theorem RL.of_own {base e c : Nat} (h : Own w base e size (.slice A n c) n xs) : RL w w.heap.size size A n xs := by
  refine ⟨h.1, fun hn => ?_⟩
  obtain ⟨g, cap, hv, _, hlt, _, _, hcell, _⟩ := h.form hn
  injection hv with hA
  exact ⟨g, 0, hA, hlt, fun k hk => by rw [Nat.zero_add]; exact hcell k hk⟩
end
section
variable {H : Type} {enc : TypeId × Value → H} {P : Program} {W : World} {base b0 : Nat} {sp : Nat → Bool} {held : Bool} {r : Reach}
/-- A slice that comes in, element by element: each row of cells reads as its type says. -/
theorem rl_open {t e : TypeId} {k : Nat} {v : Value} {d : DataW H} {p : List MemPlace} (ht : P.underlying t = some (.slice e)) (hk : P.cellsOf e = k) (hk0 : 0 < k) (hv : Value.okWide P W r b0 t v) (h : DataW.Trod enc P W base sp held t v d p) :
    ∃ (A : Option Addr) (c : Nat) (rows : List (List Value)), v = .slice A rows.length c ∧ rows.length ≤ c ∧ c ≤ maxLen ∧ RL W W.heap.size k A rows.length rows.flatten ∧ ∀ row ∈ rows, row.length = k ∧ ∃ n y, DataW.trod enc P W base sp held n e row = some y := by
  obtain ⟨a, len, cap, rfl⟩ := okWide_slice ht hv
  obtain ⟨fuel, hf⟩ := h
  rcases Go.Deep.open_slice ht hf with ⟨hcs, _⟩ | ⟨ad, len', cap', m, n, D, Pl, hcs, _, hl, hm, hmm, _, hx⟩
  · simp [Value.cells] at hcs
    obtain ⟨rfl, rfl, rfl⟩ := hcs
    exact ⟨none, 0, [], rfl, Nat.le_refl _, by unfold maxLen; omega, ⟨by simp, fun h => absurd h (by simp)⟩, fun row hr => by simp at hr⟩
  · simp [Value.cells] at hcs
    obtain ⟨rfl, rfl, rfl⟩ := hcs
    have hlm : len ≤ m := by rw [hmm]; split <;> omega
    have hex : ∀ i, ∃ cs : List Value, i < len → W.cells? base (ad.add (i * P.cellsOf e)) (P.cellsOf e) = some cs ∧ DataW.trod enc P W base sp held n e cs = some (D i, Pl i) := fun i => by
      by_cases hi : i < len
      · obtain ⟨cs, h1, h2⟩ := hx i (by omega)
        exact ⟨cs, fun _ => ⟨h1, h2⟩⟩
      · exact ⟨[], fun h => absurd h hi⟩
    obtain ⟨f, hf⟩ := Classical.axiomOfChoice hex
    have hrow : ∀ i, i < len → (f i).length = k ∧ ∀ j, j < k → W.cell? ((ad.add (i * k)).add j) = (f i)[j]? := fun i hi => by
      obtain ⟨_, h2, h3⟩ := World.cells?_some (hf i hi).1
      rw [hk] at h2 h3
      exact ⟨h2, h3⟩
    have hlen : ((List.range len).map f).length = len := by simp
    have hall : ∀ m, m ≤ len → (((List.range m).map f).flatten).length = m * k := fun m hm => by
      induction m with
      | zero => simp
      | succ m ih => rw [List.range_succ, List.map_append, List.flatten_append, List.length_append, ih (by omega)]; simp [(hrow m (by omega)).1, Nat.succ_mul]
    have hget : ∀ m, m ≤ len → ∀ i j, i < m → j < k → (((List.range m).map f).flatten)[i * k + j]? = (f i)[j]? := fun m hm => by
      induction m with
      | zero => intro i j hi; omega
      | succ m ih =>
        intro i j hi hj
        rw [List.range_succ, List.map_append, List.flatten_append]
        by_cases him : i = m
        · subst him
          rw [List.getElem?_append_right (by rw [hall i (by omega)]; exact Nat.le_add_right _ _), hall i (by omega)]
          simp
        · have : i * k + j < m * k := by
            have h1 : (i + 1) * k ≤ m * k := Nat.mul_le_mul_right _ (by omega)
            rw [Nat.succ_mul] at h1; exact Nat.lt_of_lt_of_le (Nat.add_lt_add_left hj _) h1
          rw [List.getElem?_append_left (by rw [hall m (by omega)]; exact this)]
          exact ih (by omega) i j (by omega) hj
    refine ⟨some ad, cap, (List.range len).map f, by rw [hlen], by rw [hlen]; exact hl, hm, ?_, ?_⟩
    · rw [hlen]
      refine ⟨hall len (Nat.le_refl _), fun h0 => ?_⟩
      obtain ⟨b, o, spot⟩ := ad
      have h00 := (hrow 0 h0).2 0 hk0
      have hsome : (f 0)[0]? = some ((f 0)[0]'(by rw [(hrow 0 h0).1]; exact hk0)) := List.getElem?_eq_getElem _
      rw [hsome] at h00
      have hspot : spot = none := by simpa [Addr.add] using World.cell?_spot h00
      subst hspot
      have hbs : b < W.heap.size := by
        have h1 := h00
        simp only [Addr.add, Nat.zero_mul, if_true] at h1
        unfold World.cell? at h1
        cases hb : W.heap[b]? with
        | none => rw [hb] at h1; cases h1
        | some ob => exact (Array.getElem?_eq_some_iff.1 hb).1
      refine ⟨b, o, rfl, hbs, fun q hq => ?_⟩
      have hqd : q = q / k * k + q % k := by rw [Nat.mul_comm]; exact (Nat.div_add_mod q k).symm
      have hqk : q % k < k := Nat.mod_lt _ hk0
      have hql : q / k < len := Nat.div_lt_of_lt_mul (by rw [Nat.mul_comm]; exact hq)
      have h1 := (hrow (q / k) hql).2 (q % k) hqk
      have hadd : ((⟨b, o, none⟩ : Addr).add (q / k * k)).add (q % k) = ⟨b, o + q, none⟩ := by
        rw [add_of_add, ← hqd]
        unfold Addr.add
        by_cases h0 : q = 0 <;> simp [h0]
      rw [hadd] at h1
      rw [h1, ← hget len (Nat.le_refl _) (q / k) (q % k) hql hqk, ← hqd]
    · intro row hr
      obtain ⟨i, hi, rfl⟩ := List.mem_map.1 hr
      have hi' : i < len := List.mem_range.1 hi
      exact ⟨(hrow i hi').1, _, _, (hf i hi').2⟩
theorem rows_map {α : Type} {f : α → List Value} {Q : α → Prop} : ∀ {rows : List (List Value)}, (∀ row ∈ rows, ∃ a, row = f a ∧ Q a) → ∃ l : List α, rows = l.map f ∧ ∀ a ∈ l, Q a
  | [], _ => ⟨[], rfl, fun _ h => by simp at h⟩
  | row :: rows, h => by
    obtain ⟨l, hl, hq⟩ := rows_map (rows := rows) (fun r hr => h r (List.mem_cons_of_mem _ hr))
    obtain ⟨a, ha, hqa⟩ := h row (by simp)
    exact ⟨a :: l, by rw [ha, hl]; rfl, fun x hx => by rcases List.mem_cons.1 hx with rfl | hx; exact hqa; exact hq x hx⟩
/-- A slice of integers that comes in. -/
theorem rl_ints {t e : TypeId} {kd : IntKind} {v : Value} {d : DataW H} {p : List MemPlace} (ht : P.underlying t = some (.slice e)) (he : P.underlying e = some (.int kd)) (hk : P.cellsOf e = 1) (hv : Value.okWide P W r b0 t v) (h : DataW.Trod enc P W base sp held t v d p) :
    ∃ (A : Option Addr) (c : Nat) (l : List Int), v = .slice A l.length c ∧ l.length ≤ c ∧ c ≤ maxLen ∧ RL W W.heap.size 1 A l.length (l.map (Value.int kd)) ∧ ∀ x ∈ l, (Lit.int kd x).wf = true := by
  obtain ⟨A, c, rows, rfl, h1, h2, h3, h4⟩ := rl_open ht hk (by omega) hv h
  obtain ⟨l, rfl, hl⟩ := rows_map (f := fun x : Int => [Value.int kd x]) (Q := fun x => (Lit.int kd x).wf = true) (rows := rows) (fun row hr => by
    obtain ⟨_, n, y, hy⟩ := h4 row hr
    obtain ⟨a, ha, _, hw⟩ := DataW.trod_int he hy
    exact ⟨a, ha, hw⟩)
  have hf : (l.map fun x : Int => [Value.int kd x]).flatten = l.map (Value.int kd) := by
    clear h1 h2 h3 h4 hl h hv
    induction l with
    | nil => rfl
    | cons a l ih => simp [ih]
  rw [hf] at h3
  simp only [List.length_map] at h1 h3
  exact ⟨A, c, l, by simp, h1, h2, h3, hl⟩
theorem rl_bools {t e : TypeId} {v : Value} {d : DataW H} {p : List MemPlace} (ht : P.underlying t = some (.slice e)) (he : P.underlying e = some .bool) (hk : P.cellsOf e = 1) (hv : Value.okWide P W r b0 t v) (h : DataW.Trod enc P W base sp held t v d p) :
    ∃ (A : Option Addr) (c : Nat) (l : List Bool), v = .slice A l.length c ∧ l.length ≤ c ∧ c ≤ maxLen ∧ RL W W.heap.size 1 A l.length (l.map Value.bool) := by
  obtain ⟨A, c, rows, rfl, h1, h2, h3, h4⟩ := rl_open ht hk (by omega) hv h
  obtain ⟨l, rfl, hl⟩ := rows_map (f := fun x : Bool => [Value.bool x]) (Q := fun x => True) (rows := rows) (fun row hr => by
    obtain ⟨_, n, y, hy⟩ := h4 row hr
    obtain ⟨a, ha, _⟩ := DataW.trod_bool he hy
    exact ⟨a, ha, trivial⟩)
  have hf : (l.map fun x : Bool => [Value.bool x]).flatten = l.map Value.bool := by
    clear h1 h2 h3 h4 hl h hv
    induction l with
    | nil => rfl
    | cons a l ih => simp [ih]
  rw [hf] at h3
  simp only [List.length_map] at h1 h3
  exact ⟨A, c, l, by simp, h1, h2, h3⟩
end
end Go.Proofs.Ytmgjoggffnogfaa
