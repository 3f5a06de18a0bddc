import Derived.Test.YtdhkkkhnjooioaaHa
import Derived.Test.YtdhkkkhnjooioaaWn
import Derived.Test.YtdhkkkhnjooioaaFa
namespace Go.Proofs.Ytdhkkkhnjooioaa
set_option linter.unusedSimpArgs false
set_option linter.unusedVariables false
open Go.RowKit
set_option linter.unusedVariables false
theorem ty_agg24 : aggB Try.prog 24 = some false := by kernel_rfl
theorem ty_sz24 : sizeB Try.prog 24 = some 1 := by kernel_rfl
theorem ty_z24 : zeroB Try.prog 24 = some (.int .i64 0) := by kernel_rfl
theorem ty_agg48 : aggB Try.prog 48 = some false := by kernel_rfl
theorem ty_sz48 : sizeB Try.prog 48 = some 1 := by kernel_rfl
theorem ty_z48 : zeroB Try.prog 48 = some (.slice none 0 0) := by kernel_rfl
theorem ty_agg32 : aggB Try.prog 32 = some false := by kernel_rfl
theorem ty_sz32 : sizeB Try.prog 32 = some 1 := by kernel_rfl
theorem ty_z32 : zeroB Try.prog 32 = some (.slice none 0 0) := by kernel_rfl
theorem ty_agg27 : aggB Try.prog 27 = some false := by kernel_rfl
theorem ty_sz27 : sizeB Try.prog 27 = some 1 := by kernel_rfl
theorem ty_z27 : zeroB Try.prog 27 = some (.slice none 0 0) := by kernel_rfl
theorem ty_agg29 : aggB Try.prog 29 = some false := by kernel_rfl
theorem ty_sz29 : sizeB Try.prog 29 = some 1 := by kernel_rfl
theorem ty_z29 : zeroB Try.prog 29 = some (.int .i64 0) := by kernel_rfl
abbrev nv (n : Nat) : Value := .int .i64 (n : Int)
def ndC (p : Option G.Nd × Nat) : List Value := match p.1 with
  | none => [.int .i64 0, .int .i64 0, .int .i64 0, .int .i64 0, .int .i64 0]
  | some n => [nv p.2, nv n.v, nv n.lo, nv n.hi, nv n.refs]
theorem ndC_len (p : Option G.Nd × Nat) : (ndC p).length = 5 := by unfold ndC; split <;> rfl
def tkC (o : Option G.Nd) : List Value := [.bool o.isSome]
theorem tkC_len (o : Option G.Nd) : (tkC o).length = 1 := rfl
def ivC (n : Nat) : List Value := [nv n]
theorem ivC_len (n : Nat) : (ivC n).length = 1 := rfl
def Fits (n : G.Nd) : Prop := n.v < 4611686018427387904 ∧ n.lo < 4611686018427387904 ∧ n.hi < 4611686018427387904 ∧ n.refs < 4611686018427387905
structure PlFit (p : G.Pl) : Prop where
  room : p.room ≤ 1048576
  pos : 0 < p.slots.length
  len : p.slots.length ≤ p.room + 1
  free : p.free.length ≤ p.slots.length
  nd : ∀ (i : Nat) n, p.slots[i]? = some (some n) → Fits n
abbrev plV (p : G.Pl) (A cA T cT : Nat) (vF : Value) : Array Value := #[nv p.room, .slice (some ⟨A, 0, none⟩) p.slots.length cA, .slice (some ⟨T, 0, none⟩) p.slots.length cT, vF, nv (G.many p.slots)]
def PoolAt (P : Nat) (p : G.Pl) (m : PH) : Prop := PlFit p ∧ ∃ A cA T cT vF mA mT mF, Bd m [PH.one P (.cells (plV p A cA T cT vF) 112), mA, mT, mF] ∧
  OwnP mA 59 5 (.slice (some ⟨A, 0, none⟩) p.slots.length cA) p.slots.length (p.slots.zipIdx.flatMap ndC) ∧ OwnP mT 4 1 (.slice (some ⟨T, 0, none⟩) p.slots.length cT) p.slots.length (p.slots.flatMap tkC) ∧
  OwnP mF 3 1 vF p.free.length (p.free.flatMap ivC)
def PoolR (I : PH) (P : Nat) (p : G.Pl) : Prop := PlFit p ∧ ∃ A cA T cT vF nF cF, vF = .slice nF p.free.length cF ∧ I.at P 0 = some (nv p.room) ∧ I.at P 1 = some (.slice (some ⟨A, 0, none⟩) p.slots.length cA) ∧ I.at P 2 = some (.slice (some ⟨T, 0, none⟩) p.slots.length cT) ∧
  I.at P 3 = some vF ∧ I.at P 4 = some (nv (G.many p.slots)) ∧ (∀ (i : Nat) x, p.slots[i]? = some x → Cells I A (i * 5) (ndC (x, i))) ∧ (∀ (i : Nat) x, p.slots[i]? = some x → I.at T i = some (.bool x.isSome))
theorem PoolR.le {I J : PH} {P : Nat} {p : G.Pl} (h : PoolR I P p) (hJ : I.le J) : PoolR J P p := by
  obtain ⟨h0, A, cA, T, cT, vF, nF, cF, h1, h2, h3, h4, h5, h6, h7, h8⟩ := h
  exact ⟨h0, A, cA, T, cT, vF, nF, cF, h1, PH.at_le hJ h2, PH.at_le hJ h3, PH.at_le hJ h4, PH.at_le hJ h5, PH.at_le hJ h6, fun i x hx => (h7 i x hx).le hJ, fun i x hx => PH.at_le hJ (h8 i x hx)⟩
theorem Cells.at {I : PH} {X off : Nat} {vs : List Value} (h : Cells I X off vs) (j : Nat) {v : Value} (hj : vs[j]? = some v) : I.at X (off + j) = some v := h j v hj
theorem at_one {X : Nat} {c : Array Value} {T : TypeId} {j : Nat} {v : Value} (h : c.toList[j]? = some v) : (PH.one X (.cells c T (0, 0))).at X j = some v := by
  have := Cells.one X c T (0, 0) j v h
  rwa [Nat.zero_add] at this
theorem PoolAt.read {P : Nat} {p : G.Pl} {m : PH} (h : PoolAt P p m) : PoolR m P p := by
  obtain ⟨hf, A, cA, T, cT, vF, mA, mT, mF, ⟨rfl, hd⟩, hA, hT, hF⟩ := h
  have l0 := PH.all_mem hd (List.Mem.head _)
  have l1 := PH.all_mem hd (List.Mem.tail _ (List.Mem.head _))
  have l2 := PH.all_mem hd (List.Mem.tail _ (List.Mem.tail _ (List.Mem.head _)))
  obtain ⟨nF, cF, hvF, _⟩ := hF.shape
  refine ⟨hf, A, cA, T, cT, vF, nF, cF, hvF, PH.at_le l0 (at_one rfl), PH.at_le l0 (at_one rfl), PH.at_le l0 (at_one rfl), PH.at_le l0 (at_one rfl), PH.at_le l0 (at_one rfl), fun i x hx => ?_, fun i x hx => ?_⟩
  · have hz : p.slots.zipIdx[i]? = some (x, i) := by rw [List.getElem?_zipIdx, hx]; simp
    exact (flat_cells ndC_len hA hz).le l1
  · have := ((flat_cells tkC_len hT hx).le l2).at 0 rfl
    rwa [Nat.mul_one, Nat.add_zero] at this
theorem PoolAt.fit {P : Nat} {p : G.Pl} {m : PH} (h : PoolAt P p m) : PlFit p := h.1
def G.Pl.isI (p : G.Pl) (id : Int) : Bool := decide (0 ≤ id) && (p.nd id.toNat).isSome
section
variable {w : World} {P : Nat} {p : G.Pl}
theorem proom_any (h : PoolR (heapOf w) P p) : Calls Try.prog 44 #[.pointer (some ⟨P, 0, none⟩)] w fun e w' => e = .returned (nv p.room) ∧ w = w' := by
  obtain ⟨h0, A, cA, T, cT, vF, nF, cF, h1, h2, h3, h4, h5, h6, h7, h8⟩ := h
  have hS := Sat.start w
  clear h0 h1 h3 h4 h5 h6 h7 h8
  go_enter Try.func44, Try.ntmps44
  go_wp2_with (first | ((with_reducible refine atList ?_); first | ((with_reducible refine isLoad ?_); (first | (refine ld1 0 hS rfl rfl ?ha rfl rfl rfl ?_; (case ha => exact ty_agg3)) | ((refine' ldI1 (v := _) hS rfl rfl ?ha rfl ?hb ?_); (case ha => exact ty_agg3); (case hb => assumption))); (try simp only [Act.put, zE, zF, zG]))))
  go_ret
  exact ⟨rfl, rfl⟩
theorem plen_any (h : PoolR (heapOf w) P p) : Calls Try.prog 41 #[.pointer (some ⟨P, 0, none⟩)] w fun e w' => e = .returned (nv (G.many p.slots)) ∧ w = w' := by
  obtain ⟨h0, A, cA, T, cT, vF, nF, cF, h1, h2, h3, h4, h5, h6, h7, h8⟩ := h
  have hS := Sat.start w
  clear h0 h1 h2 h3 h4 h5 h7 h8
  go_enter Try.func41, Try.ntmps41
  go_wp2_with (first | ((with_reducible refine atList ?_); first | ((with_reducible refine isLoad ?_); (first | (refine ld1 0 hS rfl rfl ?ha rfl rfl rfl ?_; (case ha => exact ty_agg3)) | ((refine' ldI1 (v := _) hS rfl rfl ?ha rfl ?hb ?_); (case ha => exact ty_agg3); (case hb => assumption))); (try simp only [Act.put, zE, zF, zG]))))
  go_ret
  exact ⟨rfl, rfl⟩
theorem G.Pl.isI_of {p : G.Pl} {id : Nat} {x : Option G.Nd} (h0 : id ≠ 0) (hx : p.slots[id]? = some x) : p.isI (id : Int) = x.isSome := by
  unfold G.Pl.isI G.Pl.nd
  rw [Int.toNat_natCast, if_neg h0, List.getD_eq_getElem?_getD, hx]
  simp
theorem G.Pl.isI_no {p : G.Pl} {id : Int} (h : id ≤ 0 ∨ (p.slots.length : Int) ≤ id) : p.isI id = false := by
  unfold G.Pl.isI G.Pl.nd
  rcases h with h | h
  · by_cases h0 : id = 0
    · subst h0; simp
    · have : ¬ 0 ≤ id := by omega
      simp [this]
  · rw [List.getD_eq_getElem?_getD, List.getElem?_eq_none (by omega)]
    simp
theorem is_any (h : PoolR (heapOf w) P p) (id : Int) : Calls Try.prog 72 #[.pointer (some ⟨P, 0, none⟩), .int .i64 id] w fun e w' => e = .returned (.bool (p.isI id)) ∧ w = w' := by
  obtain ⟨h0, A, cA, T, cT, vF, nF, cF, h1, h2, h3, h4, h5, h6, h7, h8⟩ := h
  have hS := Sat.start w
  have hl := h0.len
  have hr := h0.room
  clear h1 h2 h5 h6 h7
  by_cases c1 : 0 < id
  · by_cases c2 : id < (p.slots.length : Int)
    · obtain ⟨j, rfl⟩ : ∃ j : Nat, id = (j : Int) := ⟨id.toNat, by omega⟩
      have hj : j < p.slots.length := by omega
      have hx := List.getElem?_eq_getElem hj
      have h9 := h8 j _ hx
      rw [G.Pl.isI_of (by omega) hx]
      have e9 : j * 1 = j := Nat.mul_one j
      generalize p.slots[j].isSome = b at *
      clear h8 hx h0
      generalize p.slots.length = n at *
      generalize p.room = rm at *
      cases b
      all_goals
        go_enter Try.func72, Try.ntmps72
        go_wp2_with (first | ((with_reducible refine atList ?_); first | ((with_reducible refine isGuard ?_); first | go_skip | ((with_reducible refine guarded_no ?hw ?_); (case hw => (simp only [Region.wanted, yielded, zC, zA, zB, zK]; first | exact (rfl : (some true == some false) = false) | exact (rfl : (some false == some true) = false))); (try simp only [Act.put, zE, zF, zG])) | ((with_reducible refine guarded_yes ?hw ?_); case hw => (simp only [Region.wanted, yielded, zC, zA, zB, zK, beq_self_eq_true]; done)) | ((refine' guarded_cases (b := _) ?hy ?_ ?_); (case hy => (simp only [yielded, zC, zA, zB, zK]; exact rfl)); all_goals (intro hb; (try simp only [Bool.not_true, Bool.not_false] at hb); (try simp only [hb]); (try simp only [Act.put, zE, zF, zG]); first | ((have hf : False := by (simp at hb; done)); cases hf) | ((have hf : False := by (simp at hb; omega)); cases hf) | skip))) | ((with_reducible refine isLoad ?_); (first | (refine ld1 0 hS rfl rfl ?ha rfl rfl rfl ?_; (case ha => first | exact ty_agg4 | exact ty_agg48 | exact ty_agg32)) | ((refine' ldI1 (v := _) hS rfl rfl ?ha rfl ?hb ?_); (case ha => first | exact ty_agg4 | exact ty_agg48 | exact ty_agg32); (case hb => assumption))); (try simp only [Act.put, zE, zF, zG]))))
        go_ret
        exact ⟨rfl, rfl⟩
    · rw [G.Pl.isI_no (.inr (by omega))]
      clear h8 h0
      generalize p.slots.length = n at *
      generalize p.room = rm at *
      go_enter Try.func72, Try.ntmps72
      go_wp2_with (first | ((with_reducible refine atList ?_); first | ((with_reducible refine isGuard ?_); first | go_skip | ((with_reducible refine guarded_no ?hw ?_); (case hw => (simp only [Region.wanted, yielded, zC, zA, zB, zK]; first | exact (rfl : (some true == some false) = false) | exact (rfl : (some false == some true) = false))); (try simp only [Act.put, zE, zF, zG])) | ((with_reducible refine guarded_yes ?hw ?_); case hw => (simp only [Region.wanted, yielded, zC, zA, zB, zK, beq_self_eq_true]; done)) | ((refine' guarded_cases (b := _) ?hy ?_ ?_); (case hy => (simp only [yielded, zC, zA, zB, zK]; exact rfl)); all_goals (intro hb; (try simp only [Bool.not_true, Bool.not_false] at hb); (try simp only [hb]); (try simp only [Act.put, zE, zF, zG]); first | ((have hf : False := by (simp at hb; done)); cases hf) | ((have hf : False := by (simp at hb; omega)); cases hf) | skip))) | ((with_reducible refine isLoad ?_); (first | (refine ld1 0 hS rfl rfl ?ha rfl rfl rfl ?_; (case ha => first | exact ty_agg4 | exact ty_agg48 | exact ty_agg32)) | ((refine' ldI1 (v := _) hS rfl rfl ?ha rfl ?hb ?_); (case ha => first | exact ty_agg4 | exact ty_agg48 | exact ty_agg32); (case hb => assumption))); (try simp only [Act.put, zE, zF, zG]))))
      go_ret
      exact ⟨rfl, rfl⟩
  · rw [G.Pl.isI_no (.inl (by omega))]
    clear h8 h0
    go_enter Try.func72, Try.ntmps72
    go_wp2_with (first | ((with_reducible refine atList ?_); first | ((with_reducible refine isGuard ?_); first | go_skip | ((with_reducible refine guarded_no ?hw ?_); (case hw => (simp only [Region.wanted, yielded, zC, zA, zB, zK]; first | exact (rfl : (some true == some false) = false) | exact (rfl : (some false == some true) = false))); (try simp only [Act.put, zE, zF, zG])) | ((with_reducible refine guarded_yes ?hw ?_); case hw => (simp only [Region.wanted, yielded, zC, zA, zB, zK, beq_self_eq_true]; done)) | ((refine' guarded_cases (b := _) ?hy ?_ ?_); (case hy => (simp only [yielded, zC, zA, zB, zK]; exact rfl)); all_goals (intro hb; (try simp only [Bool.not_true, Bool.not_false] at hb); (try simp only [hb]); (try simp only [Act.put, zE, zF, zG]); first | ((have hf : False := by (simp at hb; done)); cases hf) | ((have hf : False := by (simp at hb; omega)); cases hf) | skip))) | ((with_reducible refine isLoad ?_); (first | (refine ld1 0 hS rfl rfl ?ha rfl rfl rfl ?_; (case ha => first | exact ty_agg4 | exact ty_agg48 | exact ty_agg32)) | ((refine' ldI1 (v := _) hS rfl rfl ?ha rfl ?hb ?_); (case ha => first | exact ty_agg4 | exact ty_agg48 | exact ty_agg32); (case hb => assumption))); (try simp only [Act.put, zE, zF, zG]))))
    go_ret
    exact ⟨rfl, rfl⟩
def ndV (id : Int) (o : Option G.Nd) : Value := .agg (ndC (o, id.toNat)).toArray
theorem pat_any (h : PoolR (heapOf w) P p) (id : Int) : Calls Try.prog 49 #[.pointer (some ⟨P, 0, none⟩), .int .i64 id] w fun e w' => e = .returned (.tuple #[ndV id (if p.isI id then p.nd id.toNat else none), .bool (p.isI id)]) ∧ Below w.heap.size w w' := by
  have his := fun w' (hle : (heapOf w).le (heapOf w')) => is_any (h.le hle) id
  by_cases hb : p.isI id = true
  · obtain ⟨h0, A, cA, T, cT, vF, nF, cF, h1, h2, h3, h4, h5, h6, h7, h8⟩ := h
    have hnd : 0 < id ∧ ∃ n, p.slots[id.toNat]? = some (some n) ∧ p.nd id.toNat = some n := by
      unfold G.Pl.isI at hb
      simp at hb
      obtain ⟨n, hn⟩ := Option.isSome_iff_exists.1 hb.2
      obtain ⟨g1, g2⟩ := G.Pl.nd_some.1 hn
      exact ⟨by omega, n, g2, hn⟩
    obtain ⟨hpos, n, hn1, hn2⟩ := hnd
    obtain ⟨j, rfl⟩ : ∃ j : Nat, id = (j : Int) := ⟨id.toNat, by omega⟩
    rw [Int.toNat_natCast] at hn1
    have hj := (List.getElem?_eq_some_iff.1 hn1).1
    have hc := h7 j _ hn1
    have hval : ndV (j : Int) (if p.isI (j : Int) then p.nd (j : Int).toNat else none) = .agg (ndC (some n, j)).toArray := by rw [if_pos hb, hn2]; rfl
    rw [hval, hb]
    rw [hb] at his
    have HC : Cells (heapOf w) A (j * 5) [nv j, nv n.v, nv n.lo, nv n.hi, nv n.refs] := hc
    have hl := h0.len
    have hr := h0.room
    clear h0 h1 h2 h4 h5 h6 h7 h8 hc hn1 hn2 hval hb
    have hS := Sat.start w
    show Calls _ _ _ _ fun e w' => e = .returned (.tuple #[.agg #[nv j, nv n.v, nv n.lo, nv n.hi, nv n.refs], .bool true]) ∧ _
    generalize p.slots.length = m at *
    generalize p.room = rm at *
    go_enter Try.func49, Try.ntmps49
    go_wp2_with (first | (go_at_call 72; (with_reducible refine Calls.mono (his _ hS.ile) ?_); rintro e w9 ⟨rfl, rfl⟩) | ((with_reducible refine atList ?_); first | ((with_reducible refine isLoad ?_); (first | (refine ld1 0 hS rfl rfl ?ha rfl rfl rfl ?_; (case ha => exact ty_agg48)) | (refine ldN 0 hS rfl rfl ?ha rfl rfl ?hb ?_; (case ha => exact ty_agg59); (case hb => exact ty_sz59)) | ((refine' ldI1 (v := _) hS rfl rfl ?ha rfl ?hb ?_); (case ha => exact ty_agg48); (case hb => assumption)) | ((refine' ldIN (vs := _) hS rfl rfl ?ha rfl ?hc ?hb ?_); (case ha => exact ty_agg59); (case hc => assumption); (case hb => exact ty_sz59))); (try simp only [Act.put, zE, zF, zG])) | ((with_reducible refine isStore ?_); (first | (refine stN 0 hS rfl rfl rfl rfl rfl ?ha rfl rfl ?_; (case ha => exact ty_sz59))); clear hS; intro w hS; (try simp only [zF, zG, zE, Act.eval, zD, zC, zA, zB, zJ, Value.cells] at hS); (try simp only [Act.put, zE, zF, zG])) | ((with_reducible refine isAlloc ?_); (refine' al (z := _) hS rfl rfl ?ha ?_); (case ha => exact ty_z59); clear hS; intro X w hS; (try simp only [Act.eval, zD, zC, zA, zB, zJ, Value.cells] at hS); (try simp only [Act.put, zE, zF, zG]))))
    refine bodyPost_ret (res2 rfl (rvN 0 hS rfl rfl ty_agg59 ty_sz59) (rvt rfl)) rfl ?_
    exact ⟨rfl, hS.end_ (PH.le.refl _)⟩
  · have hb : p.isI id = false := by simpa using hb
    rw [hb] at his
    rw [hb, if_neg (by simp)]
    have hS := Sat.start w
    clear h
    show Calls _ _ _ _ fun e w' => e = .returned (.tuple #[.agg node0, .bool false]) ∧ _
    go_enter Try.func49, Try.ntmps49
    go_wp2_with (first | (go_at_call 72; (with_reducible refine Calls.mono (his _ hS.ile) ?_); rintro e w9 ⟨rfl, rfl⟩) | ((with_reducible refine atList ?_); first | ((with_reducible refine isLoad ?_); (first | (refine ld1 0 hS rfl rfl ?ha rfl rfl rfl ?_; (case ha => exact ty_agg48)) | (refine ldN 0 hS rfl rfl ?ha rfl rfl ?hb ?_; (case ha => exact ty_agg59); (case hb => exact ty_sz59)) | ((refine' ldI1 (v := _) hS rfl rfl ?ha rfl ?hb ?_); (case ha => exact ty_agg48); (case hb => assumption)) | ((refine' ldIN (vs := _) hS rfl rfl ?ha rfl ?hc ?hb ?_); (case ha => exact ty_agg59); (case hc => assumption); (case hb => exact ty_sz59))); (try simp only [Act.put, zE, zF, zG])) | ((with_reducible refine isStore ?_); (first | (refine stN 0 hS rfl rfl rfl rfl rfl ?ha rfl rfl ?_; (case ha => exact ty_sz59))); clear hS; intro w hS; (try simp only [zF, zG, zE, Act.eval, zD, zC, zA, zB, zJ, Value.cells] at hS); (try simp only [Act.put, zE, zF, zG])) | ((with_reducible refine isAlloc ?_); (refine' al (z := _) hS rfl rfl ?ha ?_); (case ha => exact ty_z59); clear hS; intro X w hS; (try simp only [Act.eval, zD, zC, zA, zB, zJ, Value.cells] at hS); (try simp only [Act.put, zE, zF, zG]))))
    refine bodyPost_ret (res2 rfl (rvN 0 hS rfl rfl ty_agg59 ty_sz59) (rvt rfl)) rfl ?_
    exact ⟨rfl, hS.end_ (PH.le.refl _)⟩
end
end Go.Proofs.Ytdhkkkhnjooioaa
