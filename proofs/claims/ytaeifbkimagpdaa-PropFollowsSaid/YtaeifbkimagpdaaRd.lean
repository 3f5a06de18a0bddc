/- Plain laws on valid expressions: composites are valid; their values; variables that do not occur. -/
import Derived.Test.YtaeifbkimagpdaaRa
namespace Go.Proofs.Ytaeifbkimagpdaa
set_option linter.unusedSimpArgs false
set_option linter.unusedVariables false
open Go.RowKit
mutual
theorem rchk_make : ∀ (t : Tr) (d n : Int), Ok t → 0 ≤ n → d + t.deep ≤ 65 → n + t.size ≤ 4096 → rchk t d n = (0, n + t.size)
  | .mk op var A cap ks, d, n, h, h0, hd, hn => by
    rw [Tr.deep] at hd
    rw [Tr.size] at hn
    have hw : wrap64 (n + 1) = n + 1 := wrap64_small (by omega)
    have hp : partE (.mk op var A cap ks) d (n + 1) = 0 := by
      unfold partE
      rw [if_neg (by omega), if_pos (show (Tr.mk op var A cap ks).wrong = 0 from h.here), if_neg (by omega)]
    rw [rchk, hw, if_pos hp, rchks_make ks (d + 1) (n + 1) h.kid (by omega) (by omega) (by omega), Tr.size]
    congr 1
    omega
theorem rchks_make : ∀ (l : List Tr) (d n : Int), (∀ t ∈ l, Ok t) → 0 ≤ n → d + Tr.deeps l ≤ 65 → n + Tr.sizes l ≤ 4096 → rchks l d n = (0, n + Tr.sizes l)
  | [], d, n, _, _, _, _ => by simp [rchks, Tr.sizes]
  | k :: ks, d, n, h, h0, hd, hn => by
    rw [Tr.deeps] at hd
    rw [Tr.sizes] at hn
    rw [rchks, rchk_make k d n (h k (.head _)) h0 (by omega) (by omega)]
    simp only [if_true]
    rw [rchks_make ks d _ (fun t ht => h t (.tail _ ht)) (by omega) (by omega) (by omega), Tr.sizes]
    congr 1
    omega
end
mutual
theorem value_congr (bl cl : List Bool) (hl : bl.length = cl.length) : ∀ t : Tr, (∀ x ∈ varsL t, bl.getD x.toNat false = cl.getD x.toNat false) → t.value bl = t.value cl
  | .mk op var A cap ks, h => by
    rw [varsL] at h
    rw [Tr.value, Tr.value, values_congr bl cl hl ks fun x hx => h x (List.mem_append_right _ hx)]
    unfold vOf
    by_cases h3 : op = 3
    · subst h3
      have := h var (List.mem_append_left _ (by simp))
      simp only [List.getD_eq_getElem?_getD] at this ⊢
      rw [hl, this]
    · simp only [h3, if_false]
theorem values_congr (bl cl : List Bool) (hl : bl.length = cl.length) : ∀ l : List Tr, (∀ x ∈ varsLs l, bl.getD x.toNat false = cl.getD x.toNat false) → Tr.values bl l = Tr.values cl l
  | [], _ => rfl
  | k :: ks, h => by
    rw [varsLs] at h
    rw [Tr.values, Tr.values, value_congr bl cl hl k fun x hx => h x (List.mem_append_left _ hx), values_congr bl cl hl ks fun x hx => h x (List.mem_append_right _ hx)]
end
mutual
theorem parts_fit : ∀ (t : Tr), t.size ≤ 4096 → t.parts = ((t.size : Int), (t.deep : Int))
  | .mk op var A cap ks, h => by
    rw [Tr.size] at h
    rw [Tr.parts, partsL_fit ks (1, 0) (by simp) (by simp; omega) (by simp), Tr.size, Tr.deep]
    have h2 := deeps_fit ks
    rw [wrap64_small (by simp; omega)]
    simp only [Prod.mk.injEq]
    constructor <;> simp <;> omega
theorem partsL_fit : ∀ (l : List Tr) (s : Int × Int), 0 ≤ s.1 → s.1 + Tr.sizes l ≤ 4096 → 0 ≤ s.2 → Tr.partsL l s = (s.1 + Tr.sizes l, max s.2 (Tr.deeps l))
  | [], s, h, _, h2 => by simp [Tr.partsL, Tr.sizes, Tr.deeps]; rw [Int.max_eq_left h2]
  | k :: ks, s, h, hs, h2 => by
    rw [Tr.sizes] at hs
    rw [Tr.partsL, parts_fit k (by omega), Tr.sizes, Tr.deeps]
    simp only
    rw [wrap64_small (by omega), partsL_fit ks _ (by simp; omega) (by simp; omega) (by simp; omega)]
    simp only [Prod.mk.injEq]
    constructor <;> omega
theorem deeps_fit : ∀ (l : List Tr), Tr.deeps l ≤ Tr.sizes l
  | [] => by simp [Tr.deeps, Tr.sizes]
  | k :: ks => by
    have h1 := deep_fit k
    have h2 := deeps_fit ks
    rw [Tr.deeps, Tr.sizes]; omega
theorem deep_fit : ∀ (t : Tr), t.deep ≤ t.size
  | .mk op var A cap ks => by
    have := deeps_fit ks
    rw [Tr.deep, Tr.size]; omega
end
/-- A valid expression of few parts. -/
structure Fit (t : Tr) : Prop where
  ok : Ok t
  size : t.size ≤ 400
  deep : t.deep ≤ 60
  chk : (rchk t 1 0).1 = 0
theorem Fit.of {t : Tr} (hl : t.light = true) (hc : (rchk t 1 0).1 = 0) (hd : t.cnt.2 ≤ 60) : Fit t := by
  obtain ⟨h1, _, _, h4⟩ := rchk_ok t 1 0 (by omega) (by omega) (by omega) hc
  have hp := parts_fit t (by omega)
  unfold Tr.light at hl
  rw [Bool.and_eq_true, decide_eq_true_eq, decide_eq_true_eq] at hl
  rw [hp] at hl
  unfold Tr.cnt at hd
  rw [if_pos hc] at hd
  simp only at hl hd
  exact ⟨h1, by omega, by omega, hc⟩
theorem Fit.eval {t : Tr} (h : Fit t) (bl : List Bool) : t.eval bl = t.value bl := by
  unfold Tr.eval
  rw [if_pos h.chk]
theorem few_sizes (ts : List Tr) (h : ∀ t ∈ ts, t.size ≤ 402) : Tr.sizes ts ≤ 402 * ts.length := by
  induction ts with
  | nil => simp [Tr.sizes]
  | cons k ks ih =>
    rw [Tr.sizes, List.length_cons]
    have := h k (.head _)
    have := ih fun t ht => h t (.tail _ ht)
    omega
theorem few_deeps (ts : List Tr) (h : ∀ t ∈ ts, t.deep ≤ 62) : Tr.deeps ts ≤ 62 := by
  induction ts with
  | nil => simp [Tr.deeps]
  | cons k ks ih =>
    rw [Tr.deeps]
    have := h k (.head _)
    have := ih fun t ht => h t (.tail _ ht)
    omega
/-- An operator over a few such operands. -/
theorem eval_op (op : Int) (A : Option Addr) (c : Nat) (ts : List Tr) (bl : List Bool) (hw : wrongP op 0 ts.length = 0) (hn : ts.length ≤ 3) (hk : ∀ t ∈ ts, Ok t ∧ t.size ≤ 402 ∧ t.deep ≤ 62) :
    (Tr.mk op 0 A c ts).eval bl = vOf bl op 0 (Tr.values bl ts) := by
  have hs := few_sizes ts fun t ht => (hk t ht).2.1
  have hd := few_deeps ts fun t ht => (hk t ht).2.2
  have hok : Ok (Tr.mk op 0 A c ts) := .mk hw fun t ht => (hk t ht).1
  have hr := rchk_make (Tr.mk op 0 A c ts) 1 0 hok (by omega) (by rw [Tr.deep]; omega) (by rw [Tr.size]; omega)
  unfold Tr.eval
  rw [hr, if_pos rfl, Tr.value]
theorem not_fits {t : Tr} (h : Fit t) (A : Option Addr) (c : Nat) : Ok (.mk 4 0 A c [t]) ∧ (Tr.mk 4 0 A c [t]).size ≤ 402 ∧ (Tr.mk 4 0 A c [t]).deep ≤ 62 := by
  have h1 := h.size
  have h2 := h.deep
  refine ⟨.mk (by simp [wrongP, lenP, few, many]) fun u hu => ?_, by simp [Tr.size, Tr.sizes]; omega, by simp [Tr.deep, Tr.deeps]; omega⟩
  rw [List.mem_singleton] at hu
  subst hu
  exact h.ok
section
variable {a b : Tr} (ha : Fit a) (hb : Fit b) (A : Option Addr) (c : Nat) (bl : List Bool)
include ha in
theorem ev_not : (Tr.mk 4 0 A c [a]).eval bl = !a.value bl := by
  rw [eval_op 4 A c [a] bl (by simp [wrongP, lenP, few, many]) (by simp) (fun t ht => by
    rw [List.mem_singleton] at ht; subst ht; exact ⟨ha.ok, by have := ha.size; omega, by have := ha.deep; omega⟩)]
  simp [vOf, Tr.values]
include ha hb in
theorem two_fit : ∀ t ∈ [a, b], Ok t ∧ t.size ≤ 402 ∧ t.deep ≤ 62 := fun t ht => by
  have h1 := ha.size
  have h2 := ha.deep
  have h3 := hb.size
  have h4 := hb.deep
  simp only [List.mem_cons, List.not_mem_nil, or_false] at ht
  rcases ht with rfl | rfl
  · exact ⟨ha.ok, by omega, by omega⟩
  · exact ⟨hb.ok, by omega, by omega⟩
include ha hb in
theorem ev_and : (Tr.mk 5 0 A c [a, b]).eval bl = (a.value bl && b.value bl) := by
  rw [eval_op 5 A c [a, b] bl (by simp [wrongP, lenP, few, many]) (by simp) (two_fit ha hb)]
  cases h1 : a.value bl <;> cases h2 : b.value bl <;> simp [vOf, Tr.values, h1, h2]
include ha hb in
theorem ev_or : (Tr.mk 6 0 A c [a, b]).eval bl = (a.value bl || b.value bl) := by
  rw [eval_op 6 A c [a, b] bl (by simp [wrongP, lenP, few, many]) (by simp) (two_fit ha hb)]
  cases h1 : a.value bl <;> cases h2 : b.value bl <;> simp [vOf, Tr.values, h1, h2]
include ha hb in
theorem ev_xor : (Tr.mk 7 0 A c [a, b]).eval bl = (a.value bl != b.value bl) := by
  rw [eval_op 7 A c [a, b] bl (by simp [wrongP, lenP, few, many]) (by simp) (two_fit ha hb)]
  cases h1 : a.value bl <;> cases h2 : b.value bl <;> simp [vOf, Tr.values, h1, h2]
include ha hb in
theorem ev_imp : (Tr.mk 8 0 A c [a, b]).eval bl = (!a.value bl || b.value bl) := by
  rw [eval_op 8 A c [a, b] bl (by simp [wrongP, lenP, few, many]) (by simp) (two_fit ha hb)]
  simp [vOf, Tr.values]
include ha hb in
theorem ev_iff : (Tr.mk 9 0 A c [a, b]).eval bl = (a.value bl == b.value bl) := by
  rw [eval_op 9 A c [a, b] bl (by simp [wrongP, lenP, few, many]) (by simp) (two_fit ha hb)]
  simp [vOf, Tr.values]
include ha hb in
theorem ev_ite : (Tr.mk 10 0 A c [a, b, b]).eval bl = b.value bl := by
  rw [eval_op 10 A c [a, b, b] bl (by simp [wrongP, lenP, few, many]) (by simp) (fun t ht => by
    refine two_fit ha hb t ?_
    simp only [List.mem_cons, List.not_mem_nil, or_false] at ht ⊢
    rcases ht with h | h | h <;> simp [h])]
  cases h1 : a.value bl <;> cases h2 : b.value bl <;> simp [vOf, Tr.values, h1, h2]
include ha hb in
theorem ev_ornot (A' : Option Addr) (c' : Nat) : (Tr.mk 6 0 A c [.mk 4 0 A' c' [a], b]).eval bl = (!a.value bl || b.value bl) := by
  rw [eval_op 6 A c [.mk 4 0 A' c' [a], b] bl (by simp [wrongP, lenP, few, many]) (by simp) (fun t ht => by
    simp only [List.mem_cons, List.not_mem_nil, or_false] at ht
    rcases ht with rfl | rfl
    · exact not_fits ha A' c'
    · exact ⟨hb.ok, by have := hb.size; omega, by have := hb.deep; omega⟩)]
  cases h1 : a.value bl <;> cases h2 : b.value bl <;> simp [vOf, Tr.values, Tr.value, h1, h2]
end
/-- A variable that does not occur may be turned. -/
theorem flip_any {t : Tr} (k : Nat) (bl : List Bool) (b : Bool) (h : ¬ (k : Int) ∈ ofL (varsL t)) (hok : Ok t) : t.value (bl.set k b) = t.value bl := by
  refine value_congr _ _ (by simp) t fun x hx => ?_
  have h1 : x ∈ ofL (varsL t) := ((ofL_all (varsL t) [] .nil).2 x).2 (.inr hx)
  have h2 := varsL_ok t hok x hx
  have hne : k ≠ x.toNat := fun e => h (by rw [e, show ((x.toNat : Nat) : Int) = x by omega]; exact h1)
  rw [List.getD_eq_getElem?_getD, List.getD_eq_getElem?_getD, List.getElem?_set_ne hne]
end Go.Proofs.Ytaeifbkimagpdaa
