/- Package pool: Set, Give. -/
import Derived.Test.YtcnejokbldohlaaPb
namespace Go.Proofs.Ytcnejokbldohlaa
set_option linter.unusedSimpArgs false
set_option linter.unusedVariables false
open Go.ChangeShapes Go.WideShapes Go.ChangeAt Go.RowKit
set_option linter.unusedVariables false
theorem nds_set (l : List Nd) (k : Nat) (n : Nd) (hk : k < l.length) :
    (((((nds l).set (k * 5) (.int .i64 n.id)).set (k * 5 + 1) (.int .i64 n.var)).set (k * 5 + 2) (.int .i64 n.lo)).set (k * 5 + 3) (.int .i64 n.hi)).set (k * 5 + 4) (.int .i64 n.refs) = nds (l.set k n) := by
  induction l generalizing k with
  | nil => simp at hk
  | cons m l ih =>
    cases k with
    | zero => simp [nds, Nd.cells]
    | succ k =>
      have := ih k (by simpa using hk)
      simp only [nds, List.flatMap_cons, List.set_cons_succ] at this ⊢
      have e : ∀ (j : Nat) (x : List Value) (u : Value), (m.cells ++ x).set ((k + 1) * 5 + j) u = m.cells ++ x.set (k * 5 + j) u := by
        intro j x u
        rw [List.set_append_right _ _ (by simp [Nd.cells]; omega)]
        congr 2
        simp [Nd.cells]; omega
      have e0 := e 0
      simp only [Nat.add_zero] at e0
      rw [e0, e 1, e 2, e 3, e 4, this]
theorem Own.node {w : World} {base e a n cap : Nat} {l : List Nd} (h : Own w base e 5 (.slice (some ⟨a, 0, none⟩) n cap) n (nds l)) (k : Nat) (m : Nd) (hk : k < l.length) :
    Own (((((w.setCell ⟨a, k * 5, none⟩ (.int .i64 m.id)).setCell ⟨a, k * 5 + 1, none⟩ (.int .i64 m.var)).setCell ⟨a, k * 5 + 2, none⟩ (.int .i64 m.lo)).setCell ⟨a, k * 5 + 3, none⟩ (.int .i64 m.hi)).setCell ⟨a, k * 5 + 4, none⟩ (.int .i64 m.refs))
      base e 5 (.slice (some ⟨a, 0, none⟩) n cap) n (nds (l.set k m)) := by
  rw [← nds_set l k m hk]
  exact ((((h.stored _ _).stored _ _).stored _ _).stored _ _).stored _ _
theorem pool_wr_node {w : World} {base g a ac t tc : Nat} {F : List Nat} {s : Pl} {fv : Value} (h : PoolAt w base g F s) (hs : s.ok)
    (hb : Blk w g 69 #[.int .i64 s.room, .slice (some ⟨a, 0, none⟩) s.at_.length ac, .slice (some ⟨t, 0, none⟩) s.taken.length tc, fv, .int .i64 s.many])
    (ha : Own w base 29 5 (.slice (some ⟨a, 0, none⟩) s.at_.length ac) s.at_.length (nds s.at_)) (ht : Own w base 4 1 (.slice (some ⟨t, 0, none⟩) s.taken.length tc) s.taken.length (bools s.taken))
    (hf : Own w base 3 1 fv s.free.length (ints s.free)) (hF : F = g :: a :: t :: fv.ownBlock.toList) (k : Nat) (m : Nd) (hk : k < s.at_.length) :
    PoolAt (((((w.setCell ⟨a, k * 5, none⟩ (.int .i64 m.id)).setCell ⟨a, k * 5 + 1, none⟩ (.int .i64 m.var)).setCell ⟨a, k * 5 + 2, none⟩ (.int .i64 m.lo)).setCell ⟨a, k * 5 + 3, none⟩ (.int .i64 m.hi)).setCell ⟨a, k * 5 + 4, none⟩ (.int .i64 m.refs))
      base g F { s with at_ := s.at_.set k m } := by
  have hg : base ≤ g := by obtain ⟨_, _, _, _, hg, _⟩ := h; exact hg
  have n1 : g ≠ a := by
    obtain ⟨cs, hb'⟩ := ha.blk rfl
    exact Blk.ne_ hb hb' (by decide)
  have n2 : (Value.slice (some ⟨t, 0, none⟩) s.taken.length tc).ownBlock ≠ some a := ht.ne_own ha (by decide) rfl
  have n3 : fv.ownBlock ≠ some a := hf.ne_own ha (by decide) rfl
  refine ⟨.slice (some ⟨a, 0, none⟩) s.at_.length ac, .slice (some ⟨t, 0, none⟩) s.taken.length tc, fv, ?_, hg, ?_, ?_, ?_, ?_⟩
  · exact ((((hb.far n1 _).far n1 _).far n1 _).far n1 _).far n1 _
  · have := ha.node k m hk
    simpa using this
  · exact ((((ht.far n2 _).far n2 _).far n2 _).far n2 _).far n2 _
  · exact ((((hf.far n3 _).far n3 _).far n3 _).far n3 _).far n3 _
  · rw [hF]; rfl
theorem PoolAt.drew {w : World} {base g : Nat} {F : List Nat} {s : Pl} (h : PoolAt w base g F s) : PoolAt w.drew base g F s := h
def Pl.set (s : Pl) (n : Nd) : Pl := if s.is n.id = true then { s with at_ := s.at_.set n.id.toNat n } else s
theorem set_nil (w : World) (n : Nd) :
    Calls Try.prog 34 #[.pointer none, n.val] w fun r w' => r = .returned (.int .i64 5) ∧ Below w.heap.size w w' := by
  unfold Nd.val
  go_enter Try.func34, Try.ntmps34
  go_wp2_with (go_at_call 47; refine (is_nil _ _).mono ?_; rintro r w' ⟨rfl, rfl⟩)
  go_ret
  exact ⟨rfl, (Below.refl _ _).alloc (Nat.le_refl _) _⟩
theorem PoolAt.alloc {w : World} {base g : Nat} {F : List Nat} {s : Pl} (h : PoolAt w base g F s) (o : Obj) : PoolAt (w.alloc o) base g F s := by
  obtain ⟨av, tv, fv, hb, hg, ha, ht, hf, hF⟩ := h
  exact ⟨av, tv, fv, hb.alloc o, hg, ha.alloc o, ht.alloc o, hf.alloc o, hF⟩
theorem PoolAt.chg {w w' : World} {base g : Nat} {F G G' : List Nat} {s : Pl} (h : PoolAt w base g F s) (k : Chg G G' w w') (hd : ∀ b ∈ F, b ∉ G) : PoolAt w' base g F s := by
  obtain ⟨av, tv, fv, hb, hg, ha, ht, hf, rfl⟩ := h
  exact ⟨av, tv, fv, k.blk hb (hd _ (by simp)), hg, k.own ha (fun x hx => hd _ (by simp [hx])), k.own ht (fun x hx => hd _ (by simp [hx])), k.own hf (fun x hx => hd _ (by simp [hx])), rfl⟩
theorem Pl.is_at {s : Pl} {id : Int} (hs : s.ok) (h : s.is id = true) : ∃ k : Nat, id = k ∧ 0 < k ∧ k < s.at_.length := by
  unfold Pl.is at h
  have h0 : 0 < id := by
    rcases Int.lt_or_le 0 id with h1 | h1
    · exact h1
    · rw [decide_eq_false (by omega)] at h; cases h
  obtain ⟨k, rfl⟩ := Int.eq_ofNat_of_zero_le (show 0 ≤ id by omega)
  refine ⟨k, rfl, by omega, ?_⟩
  rw [hs.1]
  rcases Nat.lt_or_ge k s.taken.length with h1 | h1
  · exact h1
  · rw [List.getD_eq_getElem?_getD, List.getElem?_eq_none (by simpa using h1)] at h; simp at h
set_option maxHeartbeats 1000000 in
theorem set_any (w : World) (base g : Nat) (F : List Nat) (s : Pl) (n : Nd) (h : PoolAt w base g F s) (hs : s.ok) :
    Calls Try.prog 34 #[.pointer (some ⟨g, 0, none⟩), n.val] w fun r w' => r = .returned (.int .i64 (if s.is n.id = true then 0 else 5)) ∧ PoolAt w' base g F (s.set n) ∧ Chg F F w w' := by
  unfold Nd.val
  have C1 := Lib.hid (fun o => is_any (w.alloc o) base g F s n.id (h.alloc o) hs)
  have hgl : g < w.heap.size := by obtain ⟨_, _, _, hb, _⟩ := h; exact hb.lt
  cases hv : s.is n.id
  · have he : s.set n = s := by unfold Pl.set; rw [hv]; rfl
    rw [he, if_neg (by simp)]
    rw [hv] at C1
    clear he hv
    have Hh := Lib.hid h
    clear h
    go_enter Try.func34, Try.ntmps34
    go_wp2_with (go_at_call 47; refine (C1.out _).mono ?_; rintro r w' ⟨rfl, rfl⟩)
    go_ret
    exact ⟨rfl, Hh.out.alloc _, (Chg.refl _ _).alloc _⟩
  · obtain ⟨k, hid, hk0, hk⟩ := Pl.is_at hs hv
    have he : s.set n = { s with at_ := s.at_.set k n } := by unfold Pl.set; rw [hv, hid]; rfl
    rw [he, if_pos rfl]
    obtain ⟨a, ac, t, tc, fv, hb, hg, ha, ht, hf, hF, _, _, _, _, hfa, _, hac, htc⟩ := h.open hs
    have d0 := hac k _ 0 (List.getElem?_eq_getElem hk) (by omega)
    have d1 := hac k _ 1 (List.getElem?_eq_getElem hk) (by omega)
    have d2 := hac k _ 2 (List.getElem?_eq_getElem hk) (by omega)
    have d3 := hac k _ 3 (List.getElem?_eq_getElem hk) (by omega)
    have d4 := hac k _ 4 (List.getElem?_eq_getElem hk) (by omega)
    generalize s.at_[k] = nd at *
    simp only [Nd.cells, List.getElem?_cons_succ, List.getElem?_cons_zero, Nat.add_zero] at d0 d1 d2 d3 d4
    have c1 := hb.cell 1
    simp only [List.getElem?_toArray, List.getElem?_cons_succ, List.getElem?_cons_zero] at c1
    rw [hv] at C1
    have hal : a < w.heap.size := (ha.lt a rfl).2
    obtain ⟨nid, nvar, nlo, nhi, nrefs⟩ := n
    simp only at hid C1
    subst hid
    have Hh := Lib.hid h
    have Hb := Lib.hid hb
    have Ha := Lib.hid ha
    have Ht := Lib.hid ht
    have Hf := Lib.hid hf
    have HF := Lib.hid hF
    have Hk := Lib.hid hk
    have f0 := hfa (k * 5)
    have f1 := hfa (k * 5 + 1)
    have f2 := hfa (k * 5 + 2)
    have f3 := hfa (k * 5 + 3)
    have f4 := hfa (k * 5 + 4)
    clear he hv ha ht hf hb hac htc hfa h hF
    have hkk : (k : Int) < (s.at_.length : Int) := by omega
    have hk1 : (0 : Int) ≤ (k : Int) := by omega
    go_enter Try.func34, Try.ntmps34
    go_wp2_with (go_at_call 47; refine (C1.out _).mono ?_; rintro r w' ⟨rfl, rfl⟩)
    go_region
    go_wp2
    go_ret
    have hm : a ∈ F := by rw [HF.out]; simp
    refine ⟨rfl, ((pool_wr_node Hh.out hs Hb.out Ha.out Ht.out Hf.out HF.out k ⟨k, nvar, nlo, nhi, nrefs⟩ Hk.out).alloc _).drew, ?_⟩
    exact (((((((Chg.refl F w).setCell hm _).setCell hm _).setCell hm _).setCell hm _).setCell hm _).alloc _).drew
end Go.Proofs.Ytcnejokbldohlaa
