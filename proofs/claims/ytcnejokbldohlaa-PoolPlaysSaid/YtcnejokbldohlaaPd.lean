/- Package pool: Give. -/
import Derived.Test.YtcnejokbldohlaaPc
import Derived.Deep.DeepCutAuto
namespace Go.Proofs.Ytcnejokbldohlaa
set_option linter.unusedSimpArgs false
set_option linter.unusedVariables false
open Go.ChangeShapes Go.WideShapes Go.ChangeAt Go.RowKit
set_option linter.unusedVariables false
theorem bools_set (l : List Bool) (k : Nat) (b : Bool) : (bools l).set k (.bool b) = bools (l.set k b) := by simp [bools, List.map_set]
/-- A pool whose struct, rows and footprint are laid open. -/
structure Open (w : World) (base g a ac t tc : Nat) (fv : Value) (F : List Nat) (s : Pl) : Prop where
  blk : Blk w g 69 #[.int .i64 s.room, .slice (some ⟨a, 0, none⟩) s.at_.length ac, .slice (some ⟨t, 0, none⟩) s.taken.length tc, fv, .int .i64 s.many]
  gb : base ≤ g
  rowA : Own w base 29 5 (.slice (some ⟨a, 0, none⟩) s.at_.length ac) s.at_.length (nds s.at_)
  rowT : Own w base 4 1 (.slice (some ⟨t, 0, none⟩) s.taken.length tc) s.taken.length (bools s.taken)
  rowF : Own w base 3 1 fv s.free.length (ints s.free)
  foot : F = g :: a :: t :: fv.ownBlock.toList
section
variable {w w' : World} {base g a ac t tc : Nat} {fv : Value} {F : List Nat} {s : Pl}
theorem Open.pool (h : Open w base g a ac t tc fv F s) : PoolAt w base g F s := ⟨_, _, fv, h.blk, h.gb, h.rowA, h.rowT, h.rowF, h.foot⟩
theorem PoolAt.toOpen (h : PoolAt w base g F s) (hs : s.ok) : ∃ a ac t tc fv, Open w base g a ac t tc fv F s := by
  obtain ⟨a, ac, t, tc, fv, hb, hg, ha, ht, hf, hF, _⟩ := h.open hs
  exact ⟨a, ac, t, tc, fv, hb, hg, ha, ht, hf, hF⟩
theorem Open.ga (h : Open w base g a ac t tc fv F s) : g ≠ a := by
  obtain ⟨cs, hb'⟩ := h.rowA.blk rfl
  exact Blk.ne_ h.blk hb' (by decide)
theorem Open.gt (h : Open w base g a ac t tc fv F s) : g ≠ t := by
  obtain ⟨cs, hb'⟩ := h.rowT.blk rfl
  exact Blk.ne_ h.blk hb' (by decide)
theorem Open.at_ (h : Open w base g a ac t tc fv F s) : a ≠ t := by
  intro e
  exact h.rowA.ne_own h.rowT (by decide) rfl (by rw [e]; rfl)
theorem Open.fg (h : Open w base g a ac t tc fv F s) : fv.ownBlock ≠ some g := h.rowF.ne_blk h.blk (by decide)
theorem Open.fa (h : Open w base g a ac t tc fv F s) : fv.ownBlock ≠ some a := h.rowF.ne_own h.rowA (by decide) rfl
theorem Open.ft (h : Open w base g a ac t tc fv F s) : fv.ownBlock ≠ some t := h.rowF.ne_own h.rowT (by decide) rfl
theorem Open.cell (h : Open w base g a ac t tc fv F s) : w.cell? ⟨g, 0, none⟩ = some (.int .i64 s.room) ∧ w.cell? ⟨g, 1, none⟩ = some (.slice (some ⟨a, 0, none⟩) s.at_.length ac) ∧ w.cell? ⟨g, 2, none⟩ = some (.slice (some ⟨t, 0, none⟩) s.taken.length tc) ∧ w.cell? ⟨g, 3, none⟩ = some fv ∧ w.cell? ⟨g, 4, none⟩ = some (.int .i64 s.many) :=
  ⟨h.blk.cell 0, h.blk.cell 1, h.blk.cell 2, h.blk.cell 3, h.blk.cell 4⟩
theorem Open.setA (h : Open w base g a ac t tc fv F s) (k : Nat) (m : Nd) (hk : k < s.at_.length) :
    Open (((((w.setCell ⟨a, k * 5, none⟩ (.int .i64 m.id)).setCell ⟨a, k * 5 + 1, none⟩ (.int .i64 m.var)).setCell ⟨a, k * 5 + 2, none⟩ (.int .i64 m.lo)).setCell ⟨a, k * 5 + 3, none⟩ (.int .i64 m.hi)).setCell ⟨a, k * 5 + 4, none⟩ (.int .i64 m.refs))
      base g a ac t tc fv F { s with at_ := s.at_.set k m } := by
  have n1 := h.ga
  have n2 : (Value.slice (some ⟨t, 0, none⟩) s.taken.length tc).ownBlock ≠ some a := h.rowT.ne_own h.rowA (by decide) rfl
  have n3 := h.fa
  have e : (s.at_.set k m).length = s.at_.length := List.length_set
  exact ⟨by rw [e]; exact ((((h.blk.far n1 _).far n1 _).far n1 _).far n1 _).far n1 _, h.gb, by rw [e]; exact h.rowA.node k m hk,
    ((((h.rowT.far n2 _).far n2 _).far n2 _).far n2 _).far n2 _, ((((h.rowF.far n3 _).far n3 _).far n3 _).far n3 _).far n3 _, h.foot⟩
theorem Open.setT (h : Open w base g a ac t tc fv F s) (k : Nat) (b : Bool) :
    Open (w.setCell ⟨t, k, none⟩ (.bool b)) base g a ac t tc fv F { s with taken := s.taken.set k b } := by
  have n1 := h.gt
  have n2 : (Value.slice (some ⟨a, 0, none⟩) s.at_.length ac).ownBlock ≠ some t := h.rowA.ne_own h.rowT (by decide) rfl
  have e : (s.taken.set k b).length = s.taken.length := List.length_set
  exact ⟨by rw [e]; exact h.blk.far n1 _, h.gb, h.rowA.far n2 _, by rw [e, ← bools_set]; exact h.rowT.stored k _, h.rowF.far h.ft _, h.foot⟩
theorem Open.setMany (h : Open w base g a ac t tc fv F s) (m : Int) : Open (w.setCell ⟨g, 4, none⟩ (.int .i64 m)) base g a ac t tc fv F { s with many := m } := by
  have n1 : (Value.slice (some ⟨a, 0, none⟩) s.at_.length ac).ownBlock ≠ some g := fun e => h.ga (by simpa [Value.ownBlock] using e.symm)
  have n2 : (Value.slice (some ⟨t, 0, none⟩) s.taken.length tc).ownBlock ≠ some g := fun e => h.gt (by simpa [Value.ownBlock] using e.symm)
  exact ⟨by have := h.blk.set_ 4 (.int .i64 m); simpa using this, h.gb, h.rowA.far n1 _, h.rowT.far n2 _, h.rowF.far h.fg _, h.foot⟩
theorem Open.alloc (h : Open w base g a ac t tc fv F s) (o : Obj) : Open (w.alloc o) base g a ac t tc fv F s := ⟨h.blk.alloc o, h.gb, h.rowA.alloc o, h.rowT.alloc o, h.rowF.alloc o, h.foot⟩
theorem Open.drew (h : Open w base g a ac t tc fv F s) : Open w.drew base g a ac t tc fv F s := ⟨h.blk, h.gb, h.rowA, h.rowT, h.rowF, h.foot⟩
/-- A new list of released slots is stored. -/
theorem Open.setF (h : Open w base g a ac t tc fv F s) {v : Value} {l : List Int} (hg : w.grownBy w' fv.ownBlock) (hv : Own w' base 3 1 v l.length (ints l)) :
    Open (w'.setCell ⟨g, 3, none⟩ v) base g a ac t tc v (g :: a :: t :: v.ownBlock.toList) { s with free := l } := by
  have n1 : (Value.slice (some ⟨a, 0, none⟩) s.at_.length ac).ownBlock ≠ some g := fun e => h.ga (by simpa [Value.ownBlock] using e.symm)
  have n2 : (Value.slice (some ⟨t, 0, none⟩) s.taken.length tc).ownBlock ≠ some g := fun e => h.gt (by simpa [Value.ownBlock] using e.symm)
  have hb1 := h.blk.grown hg (fun e => h.fg e.symm)
  refine ⟨by have := hb1.set_ 3 v; simpa using this, h.gb, ?_, ?_, hv.far (hv.ne_blk hb1 (by decide)) _, rfl⟩
  · exact (h.rowA.kept hg (.inr (fun e => h.fa (by rw [← e]; rfl)))).far n1 _
  · exact (h.rowT.kept hg (.inr (fun e => h.ft (by rw [← e]; rfl)))).far n2 _
end
theorem Open.cellsA {w : World} {base g a ac t tc : Nat} {fv : Value} {F : List Nat} {s : Pl} (h : Open w base g a ac t tc fv F s) (k : Nat) (hk : k < s.at_.length) :
    w.cell? ⟨a, k * 5, none⟩ = some (.int .i64 s.at_[k].id) ∧ w.cell? ⟨a, k * 5 + 1, none⟩ = some (.int .i64 s.at_[k].var) ∧ w.cell? ⟨a, k * 5 + 2, none⟩ = some (.int .i64 s.at_[k].lo) ∧ w.cell? ⟨a, k * 5 + 3, none⟩ = some (.int .i64 s.at_[k].hi) ∧ w.cell? ⟨a, k * 5 + 4, none⟩ = some (.int .i64 s.at_[k].refs) := by
  have e := List.getElem?_eq_getElem hk
  have f : ∀ j, j < 5 → w.cell? ⟨a, k * 5 + j, none⟩ = s.at_[k].cells[j]? := fun j hj => by
    rw [h.rowA.cellAt _ (by omega), nds_get _ _ _ _ e hj]
  exact ⟨f 0 (by omega), f 1 (by omega), f 2 (by omega), f 3 (by omega), f 4 (by omega)⟩
theorem Open.cellT {w : World} {base g a ac t tc : Nat} {fv : Value} {F : List Nat} {s : Pl} (h : Open w base g a ac t tc fv F s) (k : Nat) (hk : k < s.taken.length) : w.cell? ⟨t, k, none⟩ = some (.bool s.taken[k]) := by
  rw [h.rowT.cellAt _ (by omega), bools_get _ _ _ (List.getElem?_eq_getElem hk)]
theorem int_info : (Try.prog.info? 3).map (fun i => (i.zero, i.size, i.bytes)) = some (some (.int .i64 0), 1, 8) := by kernel_rfl
theorem bool_info : (Try.prog.info? 4).map (fun i => (i.zero, i.size, i.bytes)) = some (some (.bool false), 1, 1) := by kernel_rfl
theorem node_info : (Try.prog.info? 29).map (fun i => (i.zero, i.size, i.bytes)) = some (some (.agg #[.int .i64 0, .int .i64 0, .int .i64 0, .int .i64 0, .int .i64 0]), 5, 40) := by kernel_rfl
/-- The end of a method that turns the pool: its result, the pool's new state, and that only the pool's own blocks turned. -/
def PoolPost (w : World) (base g : Nat) (F : List Nat) (v : Value) (s : Pl) (e : Ending) (w' : World) : Prop := ∃ F', e = .returned v ∧ PoolAt w' base g F' s ∧ Chg F F' w w'
def Pl.give (s : Pl) (id : Int) : Pl := if s.is id = true then ⟨s.room, s.at_.set id.toNat Nd.zero, s.taken.set id.toNat false, s.free ++ [id], s.many - 1⟩ else s
set_option maxHeartbeats 1000000 in
theorem give_any (w : World) (base g : Nat) (F : List Nat) (s : Pl) (id : Int) (h : PoolAt w base g F s) (hs : s.ok) (hbase : base ≤ w.heap.size) (hm0 : s.is id = true → 0 < s.many) (hm2 : s.many ≤ 2000000) :
    Calls Try.prog 20 #[.pointer (some ⟨g, 0, none⟩), .int .i64 id] w (PoolPost w base g F (.int .i64 (if s.is id = true then 0 else 5)) (s.give id)) := by
  have C1 := Lib.hid (is_any w base g F s id h hs)
  cases hv : s.is id
  · have he : s.give id = s := by unfold Pl.give; rw [hv]; rfl
    rw [he, if_neg (by simp)]
    rw [hv] at C1
    have Hh := Lib.hid h
    clear he hv h hm0
    go_enter Try.func20, Try.ntmps20
    go_wp2_with (go_at_call 47; refine C1.out.mono ?_; rintro r w' ⟨rfl, rfl⟩)
    go_ret
    exact ⟨F, rfl, Hh.out, Chg.refl _ _⟩
  · have hm1 := hm0 hv
    clear hm0
    obtain ⟨k, rfl, hk0, hk⟩ := Pl.is_at hs hv
    have he : s.give (k : Int) = ⟨s.room, s.at_.set k Nd.zero, s.taken.set k false, s.free ++ [(k : Int)], s.many - 1⟩ := by unfold Pl.give; rw [hv]; rfl
    rw [he, if_pos rfl]
    rw [hv] at C1
    have hkt : k < s.taken.length := by rw [← hs.1]; exact hk
    obtain ⟨a, ac, t, tc, fv, ho⟩ := h.toOpen hs
    obtain ⟨i0, hi0, hz0, hz1, hz2⟩ := info_parts int_info
    have Hs := Lib.hid hs
    have Ho := Lib.hid ho
    have Hk := Lib.hid hk
    have Hkt := Lib.hid hkt
    obtain ⟨_, c1, c2, c3, c4⟩ := ho.cell
    obtain ⟨d0, d1, d2, d3, d4⟩ := ho.cellsA k hk
    have d5 := ho.cellT k hkt
    have f0 := ho.rowA.frozenAt (k * 5)
    have f1 := ho.rowA.frozenAt (k * 5 + 1)
    have f2 := ho.rowA.frozenAt (k * 5 + 2)
    have f3 := ho.rowA.frozenAt (k * 5 + 3)
    have f4 := ho.rowA.frozenAt (k * 5 + 4)
    have f5 := ho.rowT.frozenAt k
    generalize s.at_[k] = nd at *
    generalize s.taken[k] = tb at *
    have ki : (k : Int) < (s.at_.length : Int) := by omega
    have kt : (k : Int) < (s.taken.length : Int) := by omega
    have k0 : (0 : Int) ≤ (k : Int) := by omega
    have nat : a ≠ t := ho.at_
    clear he hv h ho hs hk hkt
    go_enter Try.func20, Try.ntmps20
    go_upto_region 3 with (go_at_call 47; refine C1.out.mono ?_; rintro r w' ⟨rfl, rfl⟩)
    go_cut [] (fun wx => Open wx base g a ac t tc fv F ⟨s.room, s.at_.set k Nd.zero, s.taken.set k false, s.free, s.many⟩ ∧ Chg F F w wx)
    case first =>
      go_region
      go_wp2_with fail
      go_meet
      have hm : a ∈ F := by rw [Ho.out.foot]; simp
      have hn : t ∈ F := by rw [Ho.out.foot]; simp
      exact ⟨((Ho.out.setA k Nd.zero Hk.out).setT k false).drew, (((((((Chg.refl F w).setCell hm _).setCell hm _).setCell hm _).setCell hm _).setCell hm _).setCell hn _).drew⟩
    case rest =>
      obtain ⟨ho, hchg⟩ := hcut
      obtain ⟨_, c1', c2', c3', c4'⟩ := ho.cell
      simp only at c3' c4'
      have hfree : s.free.length ≤ 2000000 := Hs.out.2.2.2
      have Ho' := Lib.hid ho
      have hbase' : base ≤ wc.heap.size := Nat.le_trans hbase hchg.size
      clear c1 c2 c3 c4 d0 d1 d2 d3 d4 d5 f0 f1 f2 f3 f4 f5 c1' c2' ho
      go_wp2_with (at_builtin; (refine wpList_append_Own _ rfl (.tmp 26) (.tmp 28) _ rfl base 3 i0 (.int .i64 0) 1 8 Try.underlying51 hi0 hz0 hz1 hz2 rfl (by omega) fv s.free.length (ints s.free) rfl (Ho'.out.rowF.alloc _) ⟨wc.heap.size, 0, none⟩ 1 1 [.int .i64 (k : Int)] rfl rfl (cell_one_new wc _ _) (by intro u hu; simp at hu; subst hu; rfl) (by unfold maxLen; omega) (by omega) (by simp; omega) ?_); intro v1 w1 hown hgrow hat; obtain ⟨A1, cap1, rfl, _⟩ := hown.shape; have hb1 := (Ho'.out.alloc (.cells #[.int .i64 (k : Int)] 3)).blk.grown hgrow (fun e => Ho'.out.fg e.symm); have e3 := hb1.cell 3; have e4 := hb1.cell 4; have g3 := hb1.frozen 3; have g4 := hb1.frozen 4; have Hown := Lib.hid hown; have Hgrow := Lib.hid hgrow; have Hat := Lib.hid hat; clear hown hgrow hat hb1; simp only [List.getElem?_toArray, List.getElem?_cons_succ, List.getElem?_cons_zero] at e3 e4)
      go_ret
      have ho1 := (Ho'.out.alloc (.cells #[.int .i64 (k : Int)] 3)).setF (l := s.free ++ [(k : Int)]) Hgrow.out (by have := Hown.out; simpa [ints] using this)
      have hchg1 : Chg F (g :: a :: t :: (Value.slice A1 (s.free.length + 1) cap1).ownBlock.toList) w w1 := by
        refine ((hchg.alloc _).grown Hgrow.out (fun x hx => .inl (by rw [Ho.out.foot]; simp [hx]))).to ?_
        intro b hb
        simp only [List.mem_cons, Option.mem_toList] at hb
        rcases hb with rfl | rfl | rfl | hb
        · left; rw [Ho.out.foot]; simp
        · left; rw [Ho.out.foot]; simp
        · left; rw [Ho.out.foot]; simp
        · rcases Hat.out with h1 | h1
          · left; rw [Ho.out.foot]; rw [h1] at hb; simp [hb]
          · right; rw [h1] at hb; simp at hb; have := hchg.size; omega
      exact ⟨_, rfl, (ho1.setMany (s.many - 1)).pool, (hchg1.setCell (by simp) _).setCell (by simp) _⟩
end Go.Proofs.Ytcnejokbldohlaa
