/- Package pool: Take. -/
import Derived.Test.YtcnejokbldohlaaPd
namespace Go.Proofs.Ytcnejokbldohlaa
set_option linter.unusedSimpArgs false
set_option linter.unusedVariables false
open Go.ChangeShapes Go.WideShapes Go.ChangeAt Go.RowKit
set_option linter.unusedVariables false
theorem Own.appendLen {w : World} {base e size n : Nat} {v : Value} {xs : List Value} (h : Own w base e size v n xs) : xs.length = n * size := h.1
/-- The slot that Take takes, and the pool before the node is laid. -/
def Pl.slot (s : Pl) : Option (Nat × Pl) :=
  if s.free = [] then
    if s.room < s.at_.length then none else some (s.at_.length, { s with at_ := s.at_ ++ [Nd.zero], taken := s.taken ++ [false] })
  else some ((s.free.getLastD 0).toNat, { s with free := s.free.dropLast })
def Pl.lay (s : Pl) (k : Nat) (n : Nd) : Pl := { s with at_ := s.at_.set k { n with id := k }, taken := s.taken.set k true, many := s.many + 1 }
def TakeV (s : Pl) : Value := match s.slot with
  | none => .tuple #[.int .i64 0, .int .i64 7]
  | some (k, _) => .tuple #[.int .i64 (k : Int), .int .i64 0]
def Pl.take (s : Pl) (n : Nd) : Pl := match s.slot with
  | none => s
  | some (k, s1) => s1.lay k n
section
variable {w w' : World} {base g a ac t tc : Nat} {fv : Value} {F : List Nat} {s : Pl}
/-- A new row of slots is stored. -/
theorem Open.setRowA (h : Open w base g a ac t tc fv F s) {a' ac' : Nat} {l : List Nd} (hg : w.grownBy w' (some a)) (hv : Own w' base 29 5 (.slice (some ⟨a', 0, none⟩) l.length ac') l.length (nds l)) :
    Open (w'.setCell ⟨g, 1, none⟩ (.slice (some ⟨a', 0, none⟩) l.length ac')) base g a' ac' t tc fv (g :: a' :: t :: fv.ownBlock.toList) { s with at_ := l } := by
  have n2 : (Value.slice (some ⟨t, 0, none⟩) s.taken.length tc).ownBlock ≠ some g := fun e => h.gt (by simpa [Value.ownBlock] using e.symm)
  have hb1 := h.blk.grown hg (fun e => h.ga (by injection e))
  refine ⟨by have := hb1.set_ 1 (.slice (some ⟨a', 0, none⟩) l.length ac'); simpa using this, h.gb, hv.far (hv.ne_blk hb1 (by decide)) _, ?_, ?_, rfl⟩
  · exact (h.rowT.kept hg (.inr (fun e => h.at_ (by simp [Value.ownBlock] at e; exact e.symm)))).far n2 _
  · exact (h.rowF.kept hg (.inr h.fa)).far h.fg _
theorem Open.setRowT (h : Open w base g a ac t tc fv F s) {t' tc' : Nat} {l : List Bool} (hg : w.grownBy w' (some t)) (hv : Own w' base 4 1 (.slice (some ⟨t', 0, none⟩) l.length tc') l.length (bools l)) :
    Open (w'.setCell ⟨g, 2, none⟩ (.slice (some ⟨t', 0, none⟩) l.length tc')) base g a ac t' tc' fv (g :: a :: t' :: fv.ownBlock.toList) { s with taken := l } := by
  have n2 : (Value.slice (some ⟨a, 0, none⟩) s.at_.length ac).ownBlock ≠ some g := fun e => h.ga (by simpa [Value.ownBlock] using e.symm)
  have hb1 := h.blk.grown hg (fun e => h.gt (by injection e))
  refine ⟨by have := hb1.set_ 2 (.slice (some ⟨t', 0, none⟩) l.length tc'); simpa using this, h.gb, ?_, hv.far (hv.ne_blk hb1 (by decide)) _, ?_, rfl⟩
  · exact (h.rowA.kept hg (.inr (fun e => h.at_ (by simp [Value.ownBlock] at e; exact e)))).far n2 _
  · exact (h.rowF.kept hg (.inr h.ft)).far h.fg _
end
theorem Open.farX {w : World} {base g a ac t tc : Nat} {fv : Value} {F : List Nat} {s : Pl} (h : Open w base g a ac t tc fv F s) {p : Addr} (hp : p.block ∉ F) (u : Value) : Open (w.setCell p u) base g a ac t tc fv F s := by
  have hp' := hp
  rw [h.foot] at hp'
  simp only [List.mem_cons, not_or, Option.mem_toList] at hp'
  obtain ⟨p1, p2, p3, p4⟩ := hp'
  exact ⟨h.blk.far (fun e => p1 e.symm) _, h.gb, h.rowA.far (fun e => p2 (by simpa [Value.ownBlock] using e.symm)) _, h.rowT.far (fun e => p3 (by simpa [Value.ownBlock] using e.symm)) _, h.rowF.far p4 _, h.foot⟩
theorem Open.drewN {w : World} {base g a ac t tc : Nat} {fv : Value} {F : List Nat} {s : Pl} (h : Open w base g a ac t tc fv F s) (n : Nat) : Open (w.drewN n) base g a ac t tc fv F s := ⟨h.blk, h.gb, h.rowA, h.rowT, h.rowF, h.foot⟩
theorem PoolAt.drewN {w : World} {base g : Nat} {F : List Nat} {s : Pl} (h : PoolAt w base g F s) (n : Nat) : PoolAt (w.drewN n) base g F s := h
theorem cells_new (w : World) (cs : Array Value) (t : TypeId) : ∀ j u, cs.toList[j]? = some u → (w.alloc (.cells cs t)).cell? ((⟨w.heap.size, 0, none⟩ : Addr).add j) = some u := by
  intro j u hu
  have : (⟨w.heap.size, 0, none⟩ : Addr).add j = ⟨w.heap.size, j, none⟩ := by
    unfold Addr.add
    by_cases h0 : j = 0 <;> simp [h0]
  rw [this, World.cell?_alloc_new]
  simpa using hu
theorem take_nil (w : World) (n : Nd) :
    Calls Try.prog 12 #[.pointer none, n.val] w fun r w' => r = .returned (.tuple #[.int .i64 0, .int .i64 5]) ∧ Below w.heap.size w w' := by
  unfold Nd.val
  go_enter Try.func12, Try.ntmps12
  go_wp2
  go_ret2
  exact ⟨rfl, (Below.refl _ _).alloc (Nat.le_refl _) _⟩
/-- What stands between the choice of the slot and the laying of the node. -/
def Chosen (w : World) (base g : Nat) (F : List Nat) (s : Pl) (n : Nd) (v4 : Value) (wx : World) : Prop :=
  ∃ (k : Nat) (s1 : Pl) (a ac t tc : Nat) (fv : Value) (F' : List Nat), s.slot = some (k, s1) ∧ v4 = .int .i64 (k : Int) ∧ Open wx base g a ac t tc fv F' s1 ∧ Chg F F' w wx ∧
    Blk wx w.heap.size 29 #[.int .i64 n.id, .int .i64 n.var, .int .i64 n.lo, .int .i64 n.hi, .int .i64 n.refs] ∧ k < s1.at_.length ∧ k < s1.taken.length ∧ s1.at_.length ≤ 2000001 ∧ s1.many = s.many ∧ w.heap.size ∉ F'
set_option maxRecDepth 100000 in
set_option maxHeartbeats 2000000 in
theorem take_any (w : World) (base g : Nat) (F : List Nat) (s : Pl) (n : Nd) (h : PoolAt w base g F s) (hs : s.ok) (hfr : ∀ x ∈ s.free, 0 < x ∧ x < s.at_.length) (hbase : base ≤ w.heap.size) (hm1 : 0 ≤ s.many) (hm2 : s.many ≤ 2000000) :
    Calls Try.prog 12 #[.pointer (some ⟨g, 0, none⟩), n.val] w (PoolPost w base g F (TakeV s) (s.take n)) := by
  unfold Nd.val
  obtain ⟨a, ac, t, tc, fv, ho⟩ := h.toOpen hs
  obtain ⟨A, fc, hfv, hfc⟩ := ho.rowF.shape
  subst hfv
  obtain ⟨c0, c1, c2, c3, c4⟩ := ho.cell
  have Ho := Lib.hid ho
  have Hs := Lib.hid hs
  have Hfr := Lib.hid hfr
  have hgl : g < w.heap.size := ho.blk.lt
  have fl : s.free.length ≤ 2000000 := hs.2.2.2
  have al : s.at_.length ≤ 2000000 := hs.2.2.1
  clear h ho hs hfr
  obtain ⟨q, hq⟩ : ∃ q, s.free.length = q := ⟨_, rfl⟩
  rw [hq] at c3 fl hfc
  have Hq := Lib.hid hq
  clear hq
  go_enter Try.func12, Try.ntmps12
  go_upto_if 15 with fail
  go_cut [4] (fun v4 wx => Chosen w base g F s n v4 wx)
  case first =>
    by_cases hfree : s.free = []
    · obtain rfl : q = 0 := by have := Hq.out; rw [hfree] at this; exact this.symm
      by_cases hroom : s.room < s.at_.length
      · have hsl : s.slot = none := by unfold Pl.slot; rw [if_pos hfree, if_pos hroom]
        have hv : TakeV s = .tuple #[.int .i64 0, .int .i64 7] := by unfold TakeV; rw [hsl]
        have ht : s.take n = s := by unfold Pl.take; rw [hsl]
        rw [hv, ht]
        clear hv ht hsl hfree
        go_wp2_with fail
        go_quiet (fail)
        go_wp2
        go_ret2
        exact ⟨F, rfl, ((Ho.out.pool.alloc _).drewN _), ((Chg.refl F w).alloc _).drewN _⟩
      · have Hsl := Lib.hid (show s.slot = some (s.at_.length, { s with at_ := s.at_ ++ [Nd.zero], taken := s.taken ++ [false] }) from by unfold Pl.slot; rw [if_pos hfree, if_neg hroom])
        have hle : (s.at_.length : Int) ≤ s.room := by omega
        clear hfree hroom
        go_wp2_with fail
        go_quiet (fail)
        go_upto_region 9 with fail
        have ho0 : Open ((w.alloc (.cells #[.int .i64 n.id, .int .i64 n.var, .int .i64 n.lo, .int .i64 n.hi, .int .i64 n.refs] 29)).drewN nq) base g a ac t tc (.slice A s.free.length fc) F s := (Ho.out.alloc _).drewN _
        have hc0 : Chg F F w ((w.alloc (.cells #[.int .i64 n.id, .int .i64 n.var, .int .i64 n.lo, .int .i64 n.hi, .int .i64 n.refs] 29)).drewN nq) := ((Chg.refl F w).alloc _).drewN _
        have hb0 : Blk ((w.alloc (.cells #[.int .i64 n.id, .int .i64 n.var, .int .i64 n.lo, .int .i64 n.hi, .int .i64 n.refs] 29)).drewN nq) w.heap.size 29 #[.int .i64 n.id, .int .i64 n.var, .int .i64 n.lo, .int .i64 n.hi, .int .i64 n.refs] := (Blk.new w _ _).drewN _
        generalize ((w.alloc (.cells #[.int .i64 n.id, .int .i64 n.var, .int .i64 n.lo, .int .i64 n.hi, .int .i64 n.refs] 29)).drewN nq) = wz at *
        obtain ⟨i1, hi1, hz1, hs1, hy1⟩ := info_parts node_info
        obtain ⟨i2, hi2, hz2, hs2, hy2⟩ := info_parts bool_info
        obtain ⟨_, k1, k2, _, _⟩ := ho0.cell
        have hbz : base ≤ wz.heap.size := Nat.le_trans hbase hc0.size
        have Hz := Lib.hid ho0
        have Hbz := Lib.hid hb0
        have hge : (a = a) := rfl
        clear c0 c1 c2 c3 c4 ho0 hb0 hge
        go_upto_region 11 with (at_builtin; refine wpList_append_Own _ rfl (.tmp 55) (.tmp 57) _ rfl base 29 i1 (.agg #[.int .i64 0, .int .i64 0, .int .i64 0, .int .i64 0, .int .i64 0]) 5 40 Try.underlying30 hi1 hz1 hs1 hy1 rfl (by omega) (.slice (some ⟨a, 0, none⟩) s.at_.length ac) s.at_.length (nds s.at_) rfl (Hz.out.rowA.alloc _) ⟨wz.heap.size, 0, none⟩ 1 1 Nd.zero.cells rfl rfl (cells_new wz _ _) (by intro u hu; simp [Nd.cells, Nd.zero] at hu; subst hu; rfl) (by unfold maxLen; omega) (by omega) (by simp; omega) ?_; intro v1 w1 hown hgrow hat; obtain ⟨a2, ac2, rfl, _⟩ := hown.form (by omega); have hb1 := (Hz.out.alloc (.cells #[.int .i64 0, .int .i64 0, .int .i64 0, .int .i64 0, .int .i64 0] 29)).blk.grown hgrow (fun e => Hz.out.ga (by injection e)); have e1 : w1.cell? ⟨g, 1, none⟩ = _ := hb1.cell 1; have g1 := hb1.frozen 1; have Hown := Lib.hid hown; have Hgrow := Lib.hid hgrow; have Hat := Lib.hid hat; have Hbx1 := Lib.hid ((Hbz.out.alloc (.cells #[.int .i64 0, .int .i64 0, .int .i64 0, .int .i64 0, .int .i64 0] 29)).grown hgrow (fun e => by injection e with e; have := (Ho.out.rowA.lt _ rfl).2; omega)); clear hown hgrow hat hb1)
        have el : (s.at_ ++ [Nd.zero]).length = s.at_.length + 1 := by simp
        have ho1 := (Hz.out.alloc (.cells #[.int .i64 0, .int .i64 0, .int .i64 0, .int .i64 0, .int .i64 0] 29)).setRowA (a' := a2) (ac' := ac2) (l := s.at_ ++ [Nd.zero]) Hgrow.out (by rw [el]; have := Hown.out; simpa [nds, Nd.cells, Nd.zero] using this)
        rw [el] at ho1
        have hc1 : Chg F (g :: a2 :: t :: (Value.slice A s.free.length fc).ownBlock.toList) w (w1.setCell ⟨g, 1, none⟩ (.slice (some ⟨a2, 0, none⟩) (s.at_.length + 1) ac2)) := by
          refine (((hc0.alloc _).grown Hgrow.out (fun x hx => .inl (by simp only [Value.ownBlock, Option.some.injEq] at hx; rw [Ho.out.foot]; simp [hx]))).to ?_).setCell (by simp) _
          intro b hb
          simp only [List.mem_cons, Option.mem_toList] at hb
          rcases hb with rfl | rfl | rfl | hb
          · left; rw [Ho.out.foot]; simp
          · rcases Hat.out with h1 | h1
            · left; simp only [Value.ownBlock, Option.some.injEq] at h1; rw [Ho.out.foot, h1]; simp
            · right; simp only [Value.ownBlock, Option.some.injEq] at h1; rw [h1]; have := hc0.size; simp; omega
          · left; rw [Ho.out.foot]; simp
          · left; rw [Ho.out.foot]; simp [hb]
        have hbx2 := Hbx1.out.far (p := ⟨g, 1, none⟩) (by intro e; simp at e; omega) (.slice (some ⟨a2, 0, none⟩) (s.at_.length + 1) ac2)
        have ha2 : a2 ≠ w.heap.size := by
          rcases Hat.out with h1 | h1
          · simp only [Value.ownBlock, Option.some.injEq] at h1
            have h3 : a2 = a := h1
            have := (Ho.out.rowA.lt a rfl).2
            omega
          · simp only [Value.ownBlock, Option.some.injEq] at h1
            have h3 : a2 = (wz.alloc (.cells #[.int .i64 0, .int .i64 0, .int .i64 0, .int .i64 0, .int .i64 0] 29)).heap.size := h1
            have := Hbz.out.lt
            simp at h3
            omega
        generalize (w1.setCell ⟨g, 1, none⟩ (.slice (some ⟨a2, 0, none⟩) (s.at_.length + 1) ac2)) = wy at *
        obtain ⟨_, _, k2', _, _⟩ := ho1.cell
        simp only at k2'
        have hby : base ≤ wy.heap.size := Nat.le_trans hbase hc1.size
        have Hy := Lib.hid ho1
        have Hby := Lib.hid hbx2
        have tl : s.taken.length ≤ 2000000 := by have := Hs.out.1; omega
        have El := Lib.hid el
        clear k1 k2 e1 g1 ho1 hbx2 el Hbx1 Hown Hgrow Hat Hz Hbz hc0
        go_wp2_with (at_builtin; refine wpList_append_Own _ rfl (.tmp 65) (.tmp 66) _ rfl base 4 i2 (.bool false) 1 1 Try.underlying50 hi2 hz2 hs2 hy2 rfl (by omega) (.slice (some ⟨t, 0, none⟩) s.taken.length tc) s.taken.length (bools s.taken) rfl (Hy.out.rowT.alloc _) ⟨wy.heap.size, 0, none⟩ 1 1 [.bool false] rfl rfl (cell_one_new wy _ _) (by intro u hu; simp at hu; subst hu; rfl) (by unfold maxLen; omega) (by omega) (by simp; omega) ?_; intro v2 w2 hown hgrow hat; obtain ⟨t2, tc2, rfl, _⟩ := hown.form (by omega); have hb1 := (Hy.out.alloc (.cells #[.bool false] 4)).blk.grown hgrow (fun e => Hy.out.gt (by injection e)); have e1 : w2.cell? ⟨g, 2, none⟩ = _ := hb1.cell 2; have g1 := hb1.frozen 2; have Hown := Lib.hid hown; have Hgrow := Lib.hid hgrow; have Hat := Lib.hid hat; have Hbx1 := Lib.hid ((Hby.out.alloc (.cells #[.bool false] 4)).grown hgrow (fun e => by injection e with e; have := (Ho.out.rowT.lt _ rfl).2; omega)); clear hown hgrow hat hb1)
        go_meet
        have et : (s.taken ++ [false]).length = s.taken.length + 1 := by simp
        have ho2 := (Hy.out.alloc (.cells #[.bool false] 4)).setRowT (t' := t2) (tc' := tc2) (l := s.taken ++ [false]) Hgrow.out (by rw [et]; have := Hown.out; simpa [bools] using this)
        rw [et] at ho2
        have ht2 : t2 = t ∨ t2 = wy.heap.size + 1 := by
          rcases Hat.out with h1 | h1
          · simp only [Value.ownBlock, Option.some.injEq] at h1; exact .inl h1
          · simp only [Value.ownBlock, Option.some.injEq] at h1
            right
            have h3 : t2 = (wy.alloc (.cells #[.bool false] 4)).heap.size := h1
            simpa using h3
        have hc2 : Chg F (g :: a2 :: t2 :: (Value.slice A s.free.length fc).ownBlock.toList) w (w2.setCell ⟨g, 2, none⟩ (.slice (some ⟨t2, 0, none⟩) (s.taken.length + 1) tc2)) := by
          refine (((hc1.alloc _).grown Hgrow.out (fun x hx => .inl (by simp only [Value.ownBlock, Option.some.injEq] at hx; simp [← hx]))).to ?_).setCell (by simp) _
          intro b hb
          simp only [List.mem_cons, Option.mem_toList] at hb
          rcases hb with rfl | rfl | rfl | hb
          · left; simp
          · left; simp
          · rcases ht2 with rfl | h1
            · left; simp
            · right; have := hc1.size; omega
          · left; simp [hb]
        have hbx3 := Hbx1.out.far (p := ⟨g, 2, none⟩) (by intro e; simp at e; omega) (.slice (some ⟨t2, 0, none⟩) (s.taken.length + 1) tc2)
        have hlt := Hby.out.lt
        have hal := Hs.out.1
        refine ⟨s.at_.length, _, a2, ac2, t2, tc2, _, _, Hsl.out, rfl, ho2, hc2, hbx3, by show _ < (s.at_ ++ [Nd.zero]).length; rw [El.out]; omega, by show _ < (s.taken ++ [false]).length; rw [et]; omega, by show (s.at_ ++ [Nd.zero]).length ≤ _; rw [El.out]; omega, rfl, ?_⟩
        intro hm
        simp only [List.mem_cons, Option.mem_toList] at hm
        rcases hm with h1 | h1 | h1 | h1
        · omega
        · exact ha2 h1.symm
        · rcases ht2 with h2 | h2
          · have := (Ho.out.rowT.lt t rfl).2; omega
          · omega
        · have := (Ho.out.rowF.lt _ h1).2; omega
    · obtain ⟨m, hm⟩ : ∃ m, s.free.length = m + 1 := ⟨s.free.length - 1, by have : 0 < s.free.length := List.length_pos_iff.2 hfree; omega⟩
      obtain rfl : q = m + 1 := Hq.out.symm.trans hm
      have hrow := Ho.out.rowF
      obtain ⟨f, fcap, hfe, _, hfl, _, hcapm, hfcell, hffroz⟩ := hrow.form (by omega)
      injection hfe with hA _ hcc
      subst hA
      subst hcc
      have hget : s.free[m]? = some (s.free.getLastD 0) := by
        rw [List.getLastD_eq_getLast?, List.getLast?_eq_getElem?, hm]
        simp
        rw [List.getElem?_eq_getElem (by omega)]
        simp
      have hlast := hfcell m (by omega)
      rw [ints_get _ _ _ hget] at hlast
      obtain ⟨l1, l2⟩ := Hfr.out _ (List.mem_of_getElem? hget)
      have hslot : s.slot = some ((s.free.getLastD 0).toNat, { s with free := s.free.dropLast }) := by unfold Pl.slot; rw [if_neg hfree]
      generalize s.free.getLastD 0 = l at *
      have Hrow := Lib.hid hrow
      have Hslot := Lib.hid hslot
      have Hm := Lib.hid hm
      have hmi : (m : Int) ≤ (fc : Int) := by omega
      have hgf : Hid ((Value.slice (some ⟨f, 0, none⟩) s.free.length fc).ownBlock ≠ some g) := Ho.out.fg
      clear hm hslot hrow hget hfcell hffroz hfree hcapm
      have g3 := Ho.out.blk.frozen 3
      go_wp2
      go_meet
      have hdl : s.free.dropLast.length = m := by rw [List.length_dropLast, Hm.out]; rfl
      have hown2 : Own w base 3 1 (.slice (some ⟨f, 0, none⟩) m m) s.free.dropLast.length (ints s.free.dropLast) := by
        have h1 := Hrow.out
        rw [Hm.out] at h1
        have h2 := h1.shrink (k := m) (by omega)
        rw [hdl, show ints s.free.dropLast = (ints s.free).take (m * 1) from by rw [List.dropLast_eq_take, Hm.out]; simp [ints, List.map_take]]
        exact h2
      have ho2 := Ho.out.setF (l := s.free.dropLast) (World.grownBy.refl w _) hown2
      have hin : g ∈ F := by rw [Ho.out.foot]; simp
      have hfl' : ∀ b ∈ (g :: a :: t :: (Value.slice (some ⟨f, 0, none⟩) m m).ownBlock.toList), b ∈ F := by
        intro b hb; rw [Ho.out.foot]; simpa [Value.ownBlock] using hb
      have hlt : ∀ b ∈ (g :: a :: t :: (Value.slice (some ⟨f, 0, none⟩) m m).ownBlock.toList), b < w.heap.size := by
        intro b hb
        simp [Value.ownBlock] at hb
        rcases hb with rfl | rfl | rfl | rfl
        · exact hgl
        · exact (Ho.out.rowA.lt _ rfl).2
        · exact (Ho.out.rowT.lt _ rfl).2
        · exact hfl
      have hal : s.at_.length = s.taken.length := Hs.out.1
      refine ⟨l.toNat, _, a, ac, t, tc, _, _, Hslot.out, by rw [Int.toNat_of_nonneg (by omega)], ho2.alloc _, (((Chg.refl F w).setCell hin _).alloc _).to (fun b hb => .inl (hfl' b hb)), ?_, by show l.toNat < s.at_.length; omega, by show l.toNat < s.taken.length; omega, by show s.at_.length ≤ _; omega, rfl, fun hm => by have := hlt _ hm; omega⟩
      have h1 := Blk.new (w.setCell ⟨g, 3, none⟩ (.slice (some ⟨f, 0, none⟩) m m)) 29 #[.int .i64 n.id, .int .i64 n.var, .int .i64 n.lo, .int .i64 n.hi, .int .i64 n.refs]
      simpa using h1
  case rest =>
    clear Ho c0 c1 c2 c3 c4 Hfr Hq hfc
    obtain ⟨k, s1, a1, ac1, t1, tc1, fv1, F1, hsl, rfl, ho, hchg, hbx, hk, hkt, hal, hmany, hB⟩ := hcut
    obtain ⟨x0, x1, x2, x3, x4⟩ : wc.cell? ⟨w.heap.size, 0, none⟩ = some (.int .i64 n.id) ∧ wc.cell? ⟨w.heap.size, 1, none⟩ = some (.int .i64 n.var) ∧ wc.cell? ⟨w.heap.size, 2, none⟩ = some (.int .i64 n.lo) ∧ wc.cell? ⟨w.heap.size, 3, none⟩ = some (.int .i64 n.hi) ∧ wc.cell? ⟨w.heap.size, 4, none⟩ = some (.int .i64 n.refs) :=
      ⟨hbx.cell 0, hbx.cell 1, hbx.cell 2, hbx.cell 3, hbx.cell 4⟩
    have y0 := hbx.frozen 0
    have Hsl := Lib.hid hsl
    have HB := Lib.hid hB
    have Hk := Lib.hid hk
    have Hkt := Lib.hid hkt
    have Hmany := Lib.hid hmany
    have hm3 : s1.many = s.many := hmany
    have Hbx := Lib.hid hbx
    have Ho := Lib.hid ho
    clear hsl hB hmany hbx ho hk hkt
    go_upto_region 13 with fail
    go_cut [] (fun wy => Open wy base g a1 ac1 t1 tc1 fv1 F1 { s1 with at_ := s1.at_.set k { n with id := (k : Int) }, taken := s1.taken.set k true } ∧ Chg F F1 w wy)
    case first =>
      obtain ⟨d0, d1, d2, d3, d4⟩ := Ho.out.cellsA k Hk.out
      have d5 := Ho.out.cellT k Hkt.out
      obtain ⟨_, c1, c2, _, _⟩ := Ho.out.cell
      have f0 := Ho.out.rowA.frozenAt (k * 5)
      have f1 := Ho.out.rowA.frozenAt (k * 5 + 1)
      have f2 := Ho.out.rowA.frozenAt (k * 5 + 2)
      have f3 := Ho.out.rowA.frozenAt (k * 5 + 3)
      have f4 := Ho.out.rowA.frozenAt (k * 5 + 4)
      have f5 := Ho.out.rowT.frozenAt k
      have hk := Hk.out
      have hkt := Hkt.out
      generalize s1.at_[k] = nd at *
      generalize s1.taken[k] = tb at *
      have ki : (k : Int) < (s1.at_.length : Int) := by omega
      have kt : (k : Int) < (s1.taken.length : Int) := by omega
      have k0 : (0 : Int) ≤ (k : Int) := by omega
      have nat : a1 ≠ t1 := Ho.out.at_
      have hb0 := HB.out
      rw [Ho.out.foot] at hb0
      simp only [List.mem_cons, not_or] at hb0
      obtain ⟨b1, b2, b3, b4⟩ := hb0
      clear b4 hk hkt
      go_region
      go_wp2_with fail
      go_meet
      have hm : a1 ∈ F1 := by rw [Ho.out.foot]; simp
      have hn : t1 ∈ F1 := by rw [Ho.out.foot]; simp
      exact ⟨(((Ho.out.farX (p := ⟨w.heap.size, 0, none⟩) HB.out _).setA k ⟨(k : Int), n.var, n.lo, n.hi, n.refs⟩ Hk.out).setT k true).drew, ((((((((hchg.setNew (p := ⟨w.heap.size, 0, none⟩) (Nat.le_refl _) _).setCell hm _).setCell hm _).setCell hm _).setCell hm _).setCell hm _).setCell hn _).drew)⟩
    case rest =>
      obtain ⟨ho, hchg2⟩ := hcut
      obtain ⟨_, _, _, _, c4'⟩ := ho.cell
      have g4 := ho.blk.frozen 4
      simp only at c4'
      rw [hm3] at c4'
      have Ho2 := Lib.hid ho
      clear ho x0 x1 x2 x3 x4 y0 hm3
      go_wp2
      go_ret2
      have hv : TakeV s = .tuple #[.int .i64 (k : Int), .int .i64 0] := by unfold TakeV; rw [Hsl.out]
      have ht : s.take n = s1.lay k n := by unfold Pl.take; rw [Hsl.out]
      have ho3 := Ho2.out.setMany (s.many + 1)
      refine ⟨F1, by rw [hv]; rfl, ?_, hchg2.setCell (by rw [Ho2.out.foot]; simp) _⟩
      rw [ht]
      unfold Pl.lay
      rw [Hmany.out]
      exact ho3.pool
end Go.Proofs.Ytcnejokbldohlaa
