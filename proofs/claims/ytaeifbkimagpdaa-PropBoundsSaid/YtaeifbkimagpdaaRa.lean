/- Trees as values; the functions that make and compare them. -/
import Derived.Test.YtaeifbkimagpdaaQw
namespace Go.Proofs.Ytaeifbkimagpdaa
set_option linter.unusedSimpArgs false
set_option linter.unusedVariables false
open Go.RowKit
/-- The value of a tree that is never written any more. -/
def IsTr (J : PH) (v : Value) (t : Tr) : Prop := v = t.val ∧ In J t
/-- A tree of an operator over operands, wherever they lie. -/
def IsOp (J : PH) (v : Value) (op : Int) (ts : List Tr) : Prop := ∃ A c, IsTr J v (.mk op 0 A c ts)
/-- A slice of trees. -/
def IsSl (J : PH) (v : Value) (ts : List Tr) : Prop := ∃ A c, v = .slice A ts.length c ∧ Row J A ts ∧ ∀ t ∈ ts, In J t
theorem IsTr.le {J K : PH} {v : Value} {t : Tr} (h : IsTr J v t) (hK : J.le K) : IsTr K v t := ⟨h.1, h.2.le hK⟩
theorem IsOp.le {J K : PH} {v : Value} {op : Int} {ts : List Tr} (h : IsOp J v op ts) (hK : J.le K) : IsOp K v op ts := by
  obtain ⟨A, c, h⟩ := h
  exact ⟨A, c, h.le hK⟩
theorem IsSl.le {J K : PH} {v : Value} {ts : List Tr} (h : IsSl J v ts) (hK : J.le K) : IsSl K v ts := by
  obtain ⟨A, c, h1, h2, h3⟩ := h
  exact ⟨A, c, h1, h2.le hK, fun t ht => (h3 t ht).le hK⟩
theorem row_of {J : PH} {X : Nat} {ts : List Tr} (hl : ts.length ≤ 9223372036854775807) {c : Array Value} {T : TypeId} {z : Nat × Nat} (hJ : J X = some (.cells c T z)) (hc : c.toList = ts.flatMap Tr.cells) : Row J (some ⟨X, 0, none⟩) ts :=
  ⟨hl, fun _ => ⟨X, 0, rfl, fun k t ht j v hj => by
    have := flat_cells ts k t ht j v hj
    rw [← hc] at this
    simp only [PH.at, hJ, Nat.zero_add]
    simpa using this⟩⟩
theorem IsSl.mk {J : PH} {X n : Nat} {ts : List Tr} (hn : ts.length = n) (hl : n ≤ 9223372036854775807) {c : Array Value} {T : TypeId} {z : Nat × Nat} (hJ : J X = some (.cells c T z)) (hc : c.toList = ts.flatMap Tr.cells) (hk : ∀ t ∈ ts, In J t) (m : Nat) : IsSl J (.slice (some ⟨X, 0, none⟩) n m) ts := by
  subst hn
  exact ⟨_, _, rfl, row_of hl hJ hc, hk⟩
theorem IsSl.op {J : PH} {v : Value} {ts : List Tr} (h : IsSl J v ts) (op : Int) : IsOp J (.agg #[.int .i64 op, .int .i64 0, v]) op ts := by
  obtain ⟨A, c, rfl, h1, h2⟩ := h
  exact ⟨A, c, rfl, .mk h1 h2⟩
mutual
theorem same_refl : ∀ t : Tr, t.same t = true
  | .mk op var A cap ks => by rw [Tr.same]; simp [Tr.op, Tr.var, Tr.kids, sames_refl ks]
theorem sames_refl : ∀ l : List Tr, Tr.sames l l = true
  | [] => by simp [Tr.sames]
  | k :: ks => by rw [Tr.sames, same_refl k, sames_refl ks]; rfl
end
theorem same_op (op : Int) (ts : List Tr) (A B : Option Addr) (c d : Nat) : (Tr.mk op 0 A c ts).same (Tr.mk op 0 B d ts) = true := by
  rw [Tr.same_eq]
  simp [Tr.op, Tr.var, Tr.kids, sames_refl]
section
variable (E : World) (I : PH) (ms : List PH) (w : World)
theorem AndV (v : Value) (ts : List Tr) (h : IsSl I v ts) (hS : Sat E I ms w) : Calls Try.prog 32 #[v] w fun e w' => ∃ u, e = .returned u ∧ IsOp I u 5 ts ∧ Sat E I ms w' := by
  have h2 := h.op 5
  obtain ⟨A, c, rfl, _⟩ := h
  exact (And_any E I ms A _ c w hS).mono fun e w' ⟨he, hS'⟩ => ⟨_, he, h2, hS'⟩
theorem OrV (v : Value) (ts : List Tr) (h : IsSl I v ts) (hS : Sat E I ms w) : Calls Try.prog 33 #[v] w fun e w' => ∃ u, e = .returned u ∧ IsOp I u 6 ts ∧ Sat E I ms w' := by
  have h2 := h.op 6
  obtain ⟨A, c, rfl, _⟩ := h
  exact (Or_any E I ms A _ c w hS).mono fun e w' ⟨he, hS'⟩ => ⟨_, he, h2, hS'⟩
theorem NotV (v : Value) (t : Tr) (h : IsTr I v t) (hS : Sat E I ms w) : Calls Try.prog 35 #[v] w fun e w' => ∃ u J, e = .returned u ∧ I.le J ∧ IsOp J u 4 [t] ∧ Sat E J ms w' := by
  obtain ⟨rfl, hin⟩ := h
  refine (Not_any E I ms t.op t.var t.A t.kids.length t.cap w hS).mono fun e w' ⟨X, he, hS'⟩ => ?_
  obtain ⟨J, hJ, hX, hS2⟩ := hS'.hold 0 rfl
  refine ⟨_, J, he, hJ, IsSl.op (IsSl.mk (n := 1) (ts := [t]) rfl (by omega) hX (by simp [Tr.cells]) (fun u hu => ?_) 1) 4, hS2⟩
  rw [List.mem_singleton] at hu
  subst hu
  exact hin.le hJ
theorem VarV (v : Int) (hS : Sat E I ms w) : Calls Try.prog 36 #[.int .i64 v] w fun e w' => ∃ u, e = .returned u ∧ IsTr I u (vt v) ∧ Sat E I ms w' :=
  (Var_any E I ms v w hS).mono fun e w' ⟨he, hS'⟩ => ⟨_, he, ⟨rfl, in_leaf _ _ _ _⟩, hS'⟩
theorem sameV (v u : Value) (a b : Tr) (ha : IsTr I v a) (hb : IsTr I u b) (hS : Sat E I ms w) : Calls Try.prog 37 #[v, u] w fun e w' => e = .returned (.bool (a.same b)) ∧ Sat E I ms w' := by
  obtain ⟨rfl, ha⟩ := ha
  obtain ⟨rfl, hb⟩ := hb
  exact tsame_any E a.size I ms a b w (Nat.le_refl _) ha hb hS
theorem rsameV (v u : Value) (a b : Tr) (ha : IsTr I v a) (hb : IsTr I u b) (hS : Sat E I ms w) : Calls Try.prog 34 #[v, u] w fun e w' => e = .returned (.bool (a.same b)) ∧ Sat E I ms w' := by
  obtain ⟨rfl, ha⟩ := ha
  obtain ⟨rfl, hb⟩ := hb
  exact rsame_any E a.size I ms a b w (Nat.le_refl _) ha hb hS
theorem sameO (v u : Value) (op : Int) (ts : List Tr) (ha : IsOp I v op ts) (hb : IsOp I u op ts) (hS : Sat E I ms w) : Calls Try.prog 37 #[v, u] w fun e w' => e = .returned (.bool true) ∧ Sat E I ms w' := by
  obtain ⟨A, c, ha⟩ := ha
  obtain ⟨B, d, hb⟩ := hb
  have := sameV E I ms w v u _ _ ha hb hS
  rwa [same_op] at this
theorem rsameO (v u : Value) (op : Int) (ts : List Tr) (ha : IsOp I v op ts) (hb : IsOp I u op ts) (hS : Sat E I ms w) : Calls Try.prog 34 #[v, u] w fun e w' => e = .returned (.bool true) ∧ Sat E I ms w' := by
  obtain ⟨A, c, ha⟩ := ha
  obtain ⟨B, d, hb⟩ := hb
  have := rsameV E I ms w v u _ _ ha hb hS
  rwa [same_op] at this
end
/-- A slice literal in a region: its block is never written any more. -/
theorem atBsl {P : Program} {dst : Option Tmp} {type : TypeId} {pos : String} {after : Array Edge} {g : Option (Nat × Bool)} {a : Act} {w : World} {K : Act → World → Prop} {Q : Exit → Act → World → Prop} {T : TypeId} {n : Nat} {parts : Array (Nat × Operand)}
    (h : Oper.wp P ⟨dst, .buildSlice T n parts, type, pos, after, g⟩ a w K Q) : Oper.wp P ⟨dst, .buildSlice T n parts, type, pos, after, g⟩ a w K Q := h
theorem wp_bslF {P : Program} {a : Act} {w E : World} {K : Act → World → Prop} {Q : Exit → Act → World → Prop} {I : PH} {ms : List PH} {dst : Option Tmp} {type : TypeId} {pos : String} {after : Array Edge} {g : Option (Nat × Bool)} {T : TypeId} {n : Nat} {parts : Array (Nat × Operand)}
    (hS : Sat E I ms w) {cs : Array Value} {e : TypeId} (hr : ∀ w : World, (Instr.buildSlice T n (parts.map fun (i, x) => (i, a.eval x))).run P w = .ok (.slice (some ⟨w.heap.size, 0, none⟩) n n) (w.alloc (.cells cs e)))
    (h : ∀ X J w', I.le J → J X = some (.cells cs e (0, 0)) → Sat E J ms w' → K (a.put dst (.slice (some ⟨X, 0, none⟩) n n)) w') : Oper.wp P ⟨dst, .buildSlice T n parts, type, pos, after, g⟩ a w K Q :=
  wp_bsl hS hr fun X w' hS' => by
    obtain ⟨J, hJ, hX, hS2⟩ := hS'.hold 0 rfl
    exact h X J w' hJ hX hS2
end Go.Proofs.Ytaeifbkimagpdaa
