import Derived.Test.YtdhkkkhnjooioaaHb
namespace Go.Proofs.Ytdhkkkhnjooioaa
set_option linter.unusedSimpArgs false
set_option linter.unusedVariables false
open Go.RowKit
set_option linter.unusedVariables false
theorem Sat.all_le {E w : World} {I : PH} {l ms : List PH} (h : Sat E I ms w) (hl : ∀ q ∈ l, q ∈ ms) : (PH.all l).le (heapOf w) := fun b o hb => by
  obtain ⟨q, hq, h1⟩ := PH.all_some hb
  exact h.own q (hl q hq) b o h1
theorem Sat.melt {E w : World} {I m : PH} {ms : List PH} (h : Sat E (I.join m) ms w) (ho : I.off m) : Sat E I (m :: ms) w := by
  refine ⟨h.os, h.tape, h.output, fun b o hb => h.imm b o (PH.le_join I m b o hb), fun p hp => ?_, fun p hp b => ?_, List.pairwise_cons.2 ⟨fun p hp b => ?_, h.dis⟩, h.size⟩
  · rcases List.mem_cons.1 hp with rfl | hp
    · exact fun b o hb => h.imm b o (PH.le_join_right ho b o hb)
    · exact h.own p hp
  · rcases List.mem_cons.1 hp with rfl | hp
    · exact (ho b).symm
    · rcases h.sep p hp b with h1 | h1
      · exact .inl h1
      · refine .inr ?_
        cases hI : I b with
        | none => rfl
        | some o => rw [PH.le_join I m b o hI] at h1; cases h1
  · rcases h.sep p hp b with h1 | h1
    · exact .inr h1
    · refine .inl ?_
      cases hI : m b with
      | none => rfl
      | some o => rw [PH.le_join_right ho b o hI] at h1; cases h1
theorem Sat.ice {E w : World} {I m : PH} {ms : List PH} (h : Sat E I (m :: ms) w) : ∃ J : PH, I.le J ∧ m.le J ∧ Sat E J ms w ∧ ∀ w' ns, Sat E J ns w' → Sat E I (m :: ns) w' :=
  ⟨_, PH.le_join _ _, PH.le_join_right (h.off (.head _)), h.freeze, fun _ _ h' => h'.melt (h.off (.head _))⟩
def set1G (ms : List PH) (k : Nat) (OK : PH → Prop) (s : Nat) (_ : Nat → Value) (_ : PH) (ns : List PH) : Prop := if s = 0 then ns = ms else ∃ m', OK m' ∧ ns = ms.set k m'
def set2G (ms : List PH) (k1 k2 : Nat) (O1 O2 : PH → Prop) (s : Nat) (_ : Nat → Value) (_ : PH) (ns : List PH) : Prop := if s = 0 then ns = ms else if s = 1 then ∃ m1, O1 m1 ∧ ns = ms.set k1 m1 else ∃ m1 m2, O1 m1 ∧ O2 m2 ∧ ns = (ms.set k1 m1).set k2 m2
theorem zip_flat_set (l : List (Option G.Nd)) (i : Nat) (hi : i < l.length) (x : Option G.Nd) : spl (l.zipIdx.flatMap ndC) (i * 5) (ndC (x, i)) = (l.set i x).zipIdx.flatMap ndC := by
  rw [flat_set ndC_len _ i (by simpa using hi)]
  congr 1
  apply List.ext_getElem?
  intro j
  rw [List.getElem?_set, List.getElem?_zipIdx, List.getElem?_zipIdx, List.getElem?_set]
  by_cases h : i = j
  · subst h; simp [hi]
  · simp [h]
abbrev ndA (id : Nat) (n : G.Nd) : Value := .agg #[nv id, nv n.v, nv n.lo, nv n.hi, nv n.refs]
theorem taken_put : ∀ (l : List (Option G.Nd)) (i : Nat) (old n : G.Nd), l[i]? = some (some old) → (l.set i (some n)).flatMap tkC = l.flatMap tkC
  | [], _, _, _, h => by simp at h
  | a :: l, 0, old, n, h => by simp at h; subst h; simp [tkC]
  | a :: l, i + 1, old, n, h => by
    rw [zA] at h
    rw [zF, List.flatMap_cons, List.flatMap_cons, taken_put l i old n h]
theorem PlFit.set {p : G.Pl} (h : PlFit p) {id : Nat} {x : Option G.Nd} (hx : ∀ n, x = some n → Fits n) {fr : List Nat} (hfr : fr.length ≤ p.slots.length) : PlFit { p with slots := p.slots.set id x, free := fr } := by
  refine ⟨h.room, by simpa using h.pos, by simpa using h.len, by simpa using hfr, fun i a ha => ?_⟩
  rw [List.getElem?_set] at ha
  by_cases hi : id = i
  · rw [if_pos hi] at ha
    split at ha
    · injection ha with ha; exact hx a ha
    · cases ha
  · rw [if_neg hi] at ha
    exact h.nd i a ha
theorem ndA_one (id : Nat) (n : G.Nd) : ∀ u ∈ (Value.cells (ndA id n)).toList, u.oneCell' = true := by simp [Value.cells, Value.oneCell']
set_option maxRecDepth 100000 in
set_option maxHeartbeats 1000000 in
theorem pset_any (E w : World) (I m : PH) (ms : List PH) (P : Nat) (p : G.Pl) (id : Nat) (n old : G.Nd) (hn : p.nd id = some old) (hfit : Fits n) (hP : PoolAt P p m) (hS : Sat E I (m :: ms) w) :
    Calls Try.prog 51 #[.pointer (some ⟨P, 0, none⟩), ndA id n] w fun e w' => e = .returned (.int .i64 0) ∧ ∃ m', PoolAt P (p.put id n) m' ∧ Sat E I (m' :: ms) w' := by
  have hR := hP.read
  obtain ⟨hf, A, cA, T, cT, vF, mA, mT, mF, hbd, hA, hT, hF⟩ := hP
  obtain ⟨g1, g2⟩ := G.Pl.nd_some.1 hn
  have hlt := (List.getElem?_eq_some_iff.1 g2).1
  have his : p.isI (id : Int) = true := G.Pl.isI_of g1 g2
  have hput : p.put id n = { p with slots := p.slots.set id (some n) } := by unfold G.Pl.put; rw [if_pos (by rw [hn]; rfl)]
  have hmany := G.many_set_same (m := n) g2
  have hfin : ∀ m', OwnP m' 59 5 (.slice (some ⟨A, 0, none⟩) p.slots.length cA) p.slots.length (spl (p.slots.zipIdx.flatMap ndC) (id * 5) (ndC (some n, id))) → ∀ w', Sat E I (PH.one P (.cells (plV p A cA T cT vF) 112) :: m' :: mT :: mF :: ms) w' → ∃ m', PoolAt P (p.put id n) m' ∧ Sat E I (m' :: ms) w' := fun m' hO w' hS' => by
    obtain ⟨m2, hb2, hS2⟩ := Sat.pack [PH.one P (.cells (plV p A cA T cT vF) 112), m', mT, mF] hS'
    refine ⟨m2, ⟨?_, A, cA, T, cT, vF, m', mT, mF, ?_, ?_, ?_, by rw [hput]; exact hF⟩, hS2⟩
    · rw [hput]
      exact hf.set (fun _ h => by cases h; exact hfit) hf.free
    · rw [hput]
      simp only [plV, List.length_set, hmany]
      exact hb2
    · rw [hput]
      simp only [List.length_set]
      rw [← zip_flat_set _ _ hlt]
      exact hO
    · rw [hput]
      simp only [List.length_set]
      rw [taken_put _ _ _ _ g2]
      exact hT
  have Hfin := Lib.hid hfin
  have HR := Lib.hid hR
  have HO := Lib.hid hA
  clear hfin hA hT hF hput hmany hn g2
  have hS := Sat.unpack hbd hS
  have hlen := hf.len
  have hroom := hf.room
  have hall : ∀ (E' w' : World) (J : PH) (ms' : List PH), Sat E' J ms' w' → (∀ q ∈ [PH.one P (.cells (plV p A cA T cT vF) 112), mA, mT, mF], q ∈ ms') → PoolR (heapOf w') P p := fun _ _ _ _ h hl => by
    have := h.all_le hl
    rw [← hbd.1] at this
    exact HR.out.le this
  have Hall := Lib.hid hall
  clear hall
  clear hf hR hbd HR
  simp only [List.cons_append, List.nil_append] at hS
  go_enter Try.func51, Try.ntmps51
  go_wp2_with (first | (go_at_call 72; (with_reducible refine Calls.mono (is_any (Hall.out _ _ _ _ hS (by simp)) _) ?_); rintro e w9 ⟨rfl, rfl⟩; rw [his]) | ((with_reducible refine atList ?_); first | ((with_reducible refine isBoxD 3 ?_); refine bx hS rfl rfl rfl ?_; clear hS; intro X w hS; (try simp only [Act.eval, zD, zC, zA, zB, zJ, Value.cells] at hS); (try simp only [Act.put, zE, zF, zG])) | ((with_reducible refine isLoad ?_); (first | (refine ld1 0 hS rfl rfl ?ha rfl rfl rfl ?_; (case ha => first | exact ty_agg48 | exact ty_agg3)) | (refine ldN 0 hS rfl rfl ?ha rfl rfl ?hb ?_; (case ha => exact ty_agg59); (case hb => exact ty_sz59)) | ((refine' ldI1 (v := _) hS rfl rfl ?ha rfl ?hb ?_); (case ha => first | exact ty_agg48 | exact ty_agg3); (case hb => assumption)) | ((refine' ldIN (vs := _) hS rfl rfl ?ha rfl ?hc ?hb ?_); (case ha => exact ty_agg59); (case hc => assumption); (case hb => exact ty_sz59))); (try simp only [Act.put, zE, zF, zG])) | ((with_reducible refine isStore ?_); (first | (refine stN 0 hS rfl rfl rfl rfl rfl ?ha rfl rfl ?_; (case ha => exact ty_sz59))); clear hS; intro w hS; (try simp only [zF, zG, zE, Act.eval, zD, zC, zA, zB, zJ, Value.cells] at hS); (try simp only [Act.put, zE, zF, zG])) | ((with_reducible refine isBox ?_); refine bx hS rfl rfl rfl ?_; clear hS; intro X w hS; (try simp only [Act.eval, zD, zC, zA, zB, zJ, Value.cells] at hS); (try simp only [Act.put, zE, zF, zG]))))
  obtain ⟨I1, _, lX, hS1, bX⟩ := hS.ice
  obtain ⟨I2, l12, lP, hS2, bP⟩ := hS1.ice
  have iX0 : I2.at X 0 = some (nv id) := PH.at_le l12 (PH.at_le lX (at_one rfl))
  have iXc : Cells I2 X 0 [nv id, nv n.v, nv n.lo, nv n.hi, nv n.refs] := (Cells.one X #[nv id, nv n.v, nv n.lo, nv n.hi, nv n.refs] 59 (0, 0)).le (lX.trans l12)
  have iP1 : I2.at P 1 = some (.slice (some ⟨A, 0, none⟩) p.slots.length cA) := PH.at_le lP (at_one rfl)
  have HbX := Lib.hid bX
  have HbP := Lib.hid bP
  clear hS hS1 bX bP lX lP l12 Hall
  refine region_c1 [[], [0], [0, 1], [0, 1, 2], [], [4], [], [0, 1, 2, 3, 4, 5, 6], [0, 1, 2, 3, 4, 5, 6, 7]] E I2 _
    [fun v _ => v = vPt P, fun v _ => v = vPt P, fun v _ => v = .pointer (some ⟨P, 1, none⟩), fun v _ => v = .slice (some ⟨A, 0, none⟩) p.slots.length cA, fun v _ => v = .pointer (some ⟨X, 0, none⟩), fun v _ => v = nv id, fun v _ => v = ndA id n, fun v _ => v = .pointer (some ⟨A, id * 5, none⟩), fun _ _ => True] [8]
    (set1G (mA :: mT :: mF :: ms) 0 fun m' => OwnP m' 59 5 (.slice (some ⟨A, 0, none⟩) p.slots.length cA) p.slots.length (spl (p.slots.zipIdx.flatMap ndC) (id * 5) (ndC (some n, id)))) (by kernel_rfl) (by kernel_rfl) (by decide) hS2 rfl ?last (fun _ _ _ _ _ _ h => h) (fun _ _ _ _ _ _ h => h) ?plain ?step ?fin
  case last => repeat (first | exact Lasting.nil | refine Lasting.cons (fun _ _ _ _ h => h) ?_)
  case plain => (repeat' (first | exact trivial | apply And.intro)) <;> first | trivial | exact .inl rfl | (refine .inr ?_; intro s vals J bs w hstop hg hJ hS hG; clear hG; simp only [zH, zI, Given, Facts] at hg; simp only [textL, actL, dstAt, opAt, zH, zI, zA, zB, zK, if_true, Act.put, zE, zF, zG, hg]; refine ⟨?_⟩; refine wpStep_of (fun K hK => ?_); have HK := Lib.hid hK; clear hK; rw [if_pos (by rfl)]; (first | ((with_reducible refine atLoad ?_); first | ((refine' wp_ldi1 (v := _) hS hJ ?ha rfl ?hc ?_); (case ha => first | exact ty_agg48 | exact ty_agg3); (case hc => assumption)) | ((refine' wp_ldiN (vs := _) hS hJ ?ha rfl ?hc ?hb ?_); (case ha => first | exact ty_agg59); (case hc => assumption); (case hb => first | exact ty_sz59))) | (go_wp2_with (first | fail))); refine HK.out _ _ ⟨rfl, J, PH.le.refl _, hS, ?_⟩; clear HK; simp only [Facts]; simp only [outOf, zH, zI, Act.put, zE, zF, zG, zD, zC, zA, zB, zJ])
  case step =>
    refine ⟨trivial, ?_⟩
    intro vals J bs w hg hJ hS hG
    have hG : bs = _ := hG
    subst hG
    simp only [zH, zI, Given, Facts] at hg; simp only [textL, actL, dstAt, opAt, zH, zI, zA, zB, zK, if_true, Act.put, zE, zF, zG, hg]; refine ⟨?_⟩; refine wpStep_of (fun K hK => ?_); have HK := Lib.hid hK; clear hK; rw [if_pos (by rfl)]
    refine wp_stO (i := id) hS 0 rfl rfl rfl rfl HO.out rfl hlt ty_sz59 rfl (ndA_one id n) fun m' w hO' hS => ?_
    · refine HK.out _ _ ⟨rfl, J, _, PH.le.refl _, hS, trivial, m', hO', rfl⟩
  case fin =>
    intro vals J bs w hJ hg hS hG
    obtain ⟨m', hO', hns⟩ := hG
    subst hns
    have hS := hS.less hJ
    have hE := Hfin.out m' hO' w (by
      have := HbX.out _ _ (HbP.out _ _ hS)
      exact this.drop)
    have HE := Lib.hid hE
    clear hE hS hO'
    simp only [List.length_cons, List.length_nil, Nat.reduceAdd, Below_, Facts, zH, zI, true_and, and_true] at hg; simp only [List.length_cons, List.length_nil, Nat.reduceAdd, textL, actL, dstAt, opAt, zH, zI, zA, zB, zK, if_true, Act.put, zE, zF, zG, hg]; refine ⟨?_⟩
    clear hg
    go_wp2
    go_ret
    exact ⟨rfl, HE.out⟩
end Go.Proofs.Ytdhkkkhnjooioaa
