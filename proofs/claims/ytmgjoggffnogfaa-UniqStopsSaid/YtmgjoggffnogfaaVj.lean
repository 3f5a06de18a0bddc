/- The iterator of Table.Each. -/
import Derived.Test.YtmgjoggffnogfaaVi
import Derived.Test.YtmgjoggffnogfaaIter
import Derived.Test.YtmgjoggffnogfaaTail
import Derived.Shelf.Abstract
import Derived.Shelf.RegionOpen
import Derived.OwnWalkIn
import Derived.TacticsInMore
import Derived.LoopNIn
import Derived.LoopIn
import Derived.Outline
namespace Go.Proofs.Ytmgjoggffnogfaa
set_option linter.unusedSimpArgs false
set_option linter.unusedVariables false
open Go.ChangeShapes Go.WideShapes Go.ChangeAt Go.RowKit Go.Lib Go.Sort
set_option linter.unusedVariables false
attribute [local go_sem] Oper.semAt_some
theorem ty_agg53 : aggB Try.prog 53 = some true := by kernel_rfl
theorem ty_sz53 : sizeB Try.prog 53 = some 2 := by kernel_rfl
theorem ty_z53 : zeroB Try.prog 53 = some (.agg #[.int .i64 0, .int .i64 0]) := by kernel_rfl
theorem kinfo : (Try.prog.info? 53).map (fun i => (i.zero, i.size, i.bytes)) = some (some (.agg #[.int .i64 0, .int .i64 0]), 2, 16) := by kernel_rfl
def slLen : Value → Nat
  | .slice _ n _ => n
  | _ => 0
def encY (es : List En) (k : Int × Int) : Array Value := #[ekey k, .int .i64 (idE es k)]
theorem rows_perm_key {done : List (Rw (Int × Int))} {es : List En} (h : done.Perm (rows es)) : (done.map (·.k)).Perm (es.map En.key) := by
  have := h.map (·.k)
  unfold rows at this
  rw [List.map_map] at this
  exact this
theorem ownFrom_b {β : Type} {B : Nat} {J : β → World → Prop} (h : OwnFrom B J) {s : β} {W W' : World} (hj : J s W) (hb : Below W.heap.size W W') : J s W' :=
  h s W W' none hj ⟨hb.os, hb.tape, hb.output, hb.size, fun k hk _ => hb.block k hk⟩ (fun r e => by cases e)
set_option maxHeartbeats 4000000 in
theorem each1_iter (w : World) (Y g M : Nat) (es : List En) (c : Nat) (hok : MapOk (rows es) c) (hlen : es.length ≤ 1000000) (hY : w.heap[Y]? = some (.cells #[.pointer (some ⟨g, 0, none⟩)] 23 (0, 0))) (hg : w.heap[g]? = some (.cells #[.map (some M)] 50 (0, 0))) (hM : w.heap[M]? = some (mapObj ekey (rows es) c)) :
    Iter Try.prog 22 #[.pointer (some ⟨Y, 0, none⟩)] (encY es) (fun b => b = Y ∨ b = g ∨ b = M) (srtE es) w := by
  intro l J Jx W hk hJ hJx hYl h0
  have hY' := (hk.2 _ (.inl rfl)).trans hY
  have hg' := (hk.2 _ (.inr (.inl rfl))).trans hg
  have hM' := (hk.2 _ (.inr (.inr rfl))).trans hM
  have iY : (heapOf W).at Y 0 = some (.pointer (some ⟨g, 0, none⟩)) := by unfold PH.at heapOf; rw [hY']; rfl
  have iT : TbIn (heapOf W) g M es c := ⟨by unfold PH.at heapOf; rw [hg']; rfl, hM'⟩
  have IV := iT.v
  have IM := Lib.hid iT.m
  have IT := Lib.hid iT
  have HYl := Lib.hid hYl
  have H0 := Lib.hid h0
  have HJ := Lib.hid hJ
  have HJx := Lib.hid hJx
  have Hok := Lib.hid hok
  have HY := Lib.hid hY'
  have Hg := Lib.hid hg'
  have HM := Lib.hid hM'
  have Hlen := Lib.hid hlen
  clear hY hg hM hY' hg' hM' iT hYl h0 hJ hJx hok hk hlen
  have hS := Sat.start W
  refine callsIn_of_wp Try.func22 rfl trivial ?_ rfl
  simp only [Try.ntmps22, List.size_toArray, List.length_cons, List.length_nil, Nat.reduceAdd, Nat.reduceSub, Array.replicate_succ, Array.replicate_zero, List.push_toArray, List.append_toArray, List.nil_append, List.cons_append]
  refine wpIn_wide.2 ?_
  go_wp2_with (first | ((with_reducible refine isRange ?_); refine rgM hS (.inl (PH.le.refl _)) IM.out Try.underlying48 rfl rfl rfl ?_; clear hS; intro R w hS; (try simp only [Act.put, List.setIfInBounds_toArray, List.set_cons_succ, List.set_cons_zero])) | ((with_reducible refine atList ?_); first | ((with_reducible refine isGuard ?_); first | go_skip | (refine guarded_yes ?hw ?_; case hw => (simp only [Region.wanted, yielded, List.getElem?_toArray, List.getElem?_cons_succ, List.getElem?_cons_zero, Option.bind_some, beq_self_eq_true]; done)) | ((refine' guarded_cases (b := _) ?hy ?_ ?_); (case hy => (simp only [yielded, List.getElem?_toArray, List.getElem?_cons_succ, List.getElem?_cons_zero, Option.bind_some]; exact rfl)); all_goals (intro hb; (try simp only [Bool.not_true, Bool.not_false] at hb); (try simp only [hb]); (try simp only [Act.put, List.setIfInBounds_toArray, List.set_cons_succ, List.set_cons_zero]); first | ((have hf : False := by (simp at hb; done)); cases hf) | ((have hf : False := by (simp at hb; omega)); cases hf) | skip))) | ((with_reducible refine isLoad ?_); first | (refine ld1 0 hS rfl rfl ?ha rfl rfl rfl ?_; (case ha => first | exact ty_agg23 | exact ty_agg48); (try simp only [Act.put, List.setIfInBounds_toArray, List.set_cons_succ, List.set_cons_zero])) | (refine ldN 0 hS rfl rfl ?ha rfl rfl ?hb ?_; (case ha => first | exact ty_agg53); (case hb => first | exact ty_sz53); (try simp only [Act.put, List.setIfInBounds_toArray, List.set_cons_succ, List.set_cons_zero])) | ((refine' ldI1 (v := _) hS rfl rfl ?ha rfl ?hb ?_); (case ha => first | exact ty_agg23 | exact ty_agg48); (case hb => assumption); (try simp only [Act.put, List.setIfInBounds_toArray, List.set_cons_succ, List.set_cons_zero])) | ((refine' ldIN (vs := _) hS rfl rfl ?ha rfl ?hc ?hb ?_); (case ha => first | exact ty_agg53); (case hc => assumption); (case hb => first | exact ty_sz53); (try simp only [Act.put, List.setIfInBounds_toArray, List.set_cons_succ, List.set_cons_zero]))) | ((with_reducible refine isStore ?_); first | (refine st1 0 hS rfl rfl rfl rfl rfl ?ha rfl rfl ?hb ?_; (case ha => first | exact ty_sz23 | exact ty_sz48); (case hb => (simp; done)); clear hS; intro w hS; (try simp only [List.set_cons_succ, List.set_cons_zero, List.setIfInBounds_toArray, Act.eval, Array.getD_eq_getD_getElem?, List.getElem?_toArray, List.getElem?_cons_succ, List.getElem?_cons_zero, Option.getD_some, Value.cells] at hS); (try simp only [Act.put, List.setIfInBounds_toArray, List.set_cons_succ, List.set_cons_zero])) | (refine stN 0 hS rfl rfl rfl rfl rfl ?ha rfl rfl ?_; (case ha => first | exact ty_sz53); clear hS; intro w hS; (try simp only [List.set_cons_succ, List.set_cons_zero, List.setIfInBounds_toArray, Act.eval, Array.getD_eq_getD_getElem?, List.getElem?_toArray, List.getElem?_cons_succ, List.getElem?_cons_zero, Option.getD_some, Value.cells] at hS); (try simp only [Act.put, List.setIfInBounds_toArray, List.set_cons_succ, List.set_cons_zero]))) | ((with_reducible refine isBox ?_); refine bx hS rfl rfl rfl ?_; clear hS; intro X w hS; (try simp only [Act.eval, Array.getD_eq_getD_getElem?, List.getElem?_toArray, List.getElem?_cons_succ, List.getElem?_cons_zero, Option.getD_some, Value.cells] at hS); (try simp only [Act.put, List.setIfInBounds_toArray, List.set_cons_succ, List.set_cons_zero])) | ((with_reducible refine isAlloc ?_); (refine' al (z := _) hS rfl rfl ?ha ?_); (case ha => first | exact ty_z23 | exact ty_z48 | exact ty_z53); clear hS; intro X w hS; (try simp only [Act.eval, Array.getD_eq_getD_getElem?, List.getElem?_toArray, List.getElem?_cons_succ, List.getElem?_cons_zero, Option.getD_some, Value.cells] at hS); (try simp only [Act.put, List.setIfInBounds_toArray, List.set_cons_succ, List.set_cons_zero]))))
  go_loopw [3] (fun v3 wr => ∃ (done left : List (Rw (Int × Int))) (m : PH), (done ++ left).Perm (rows es) ∧ OwnP m 53 2 v3 done.length ((done.map (·.k)).flatMap encE) ∧ Sat W (heapOf W) [m, PH.one R (iterObj M c done c)] wr) (fun v3 _ => es.length - slLen v3)
  case atStart => exact ⟨[], rows es, fun _ => none, List.Perm.refl _, OwnP.nil _ _, hS.empty⟩
  case round =>
    obtain ⟨done, left, m, hperm, hO, hS⟩ := hrel
    have hlr : (rows es).length = es.length := by simp [rows]
    have hpl := hperm.length_eq
    rw [List.length_append, hlr] at hpl
    have hdl : done.length ≤ 1000000 := by have := Hlen.out; omega
    obtain ⟨A3, c3, rfl, hc3⟩ := hO.shape
    have Hperm := Lib.hid hperm
    have Hpl := Lib.hid hpl
    clear hlr hpl hperm hc3
    have d0 : (0 : Int) ≤ (done.length : Int) := by omega
    have d1 : (done.length : Int) ≤ 1000000 := by omega
    go_wp2_with (first | ((with_reducible refine isNext ?_); refine nxM hS 1 rfl (.inl (PH.le.refl _)) IM.out Hok.out Hperm.out rfl rfl rfl (fun hleft => ?_) (fun r left' w2 hlp hrl hS2 => ?_) <;> (try (simp only [List.set_cons_succ, List.set_cons_zero] at hS2; clear hS; have hS := hS2; clear hS2)) <;> (try simp only [ekey]) <;> (try simp only [Act.put, List.setIfInBounds_toArray, List.set_cons_succ, List.set_cons_zero])) | ((with_reducible refine isEntry ?_); refine enM hS (.inr (.tail _ (.head _))) (PH.one_self _ _) (.inl (PH.le.refl _)) IM.out Hok.out hrl rfl rfl rfl ?_; (try simp only [ekey]); (try simp only [Act.put, List.setIfInBounds_toArray, List.set_cons_succ, List.set_cons_zero])) | (at_builtin; (refine' apP (p := _) (m := _) (v := _) (n := _) (xs := _) (news := _) 2 (.inr (List.Mem.head _)) hS rfl rfl rfl Try.underlying59 kinfo rfl (by decide) rfl ?hown rfl ?hl ?hcl ?h1 ?h63 ?hby ?_); (case hown => assumption); (case hcl => exact Cells.one _ _ _ _); (case hl => rfl); (case h1 => rfl); (case h63 => go_light; unfold maxLen; omega); (case hby => go_light; omega); clear hS hO; intro v1 m1 w hO hS; (try simp only [List.set_cons_succ, List.set_cons_zero] at hS); (try simp only [Act.put, List.setIfInBounds_toArray, List.set_cons_succ, List.set_cons_zero])) | ((with_reducible refine atList ?_); first | ((with_reducible refine isGuard ?_); first | go_skip | (refine guarded_yes ?hw ?_; case hw => (simp only [Region.wanted, yielded, List.getElem?_toArray, List.getElem?_cons_succ, List.getElem?_cons_zero, Option.bind_some, beq_self_eq_true]; done)) | ((refine' guarded_cases (b := _) ?hy ?_ ?_); (case hy => (simp only [yielded, List.getElem?_toArray, List.getElem?_cons_succ, List.getElem?_cons_zero, Option.bind_some]; exact rfl)); all_goals (intro hb; (try simp only [Bool.not_true, Bool.not_false] at hb); (try simp only [hb]); (try simp only [Act.put, List.setIfInBounds_toArray, List.set_cons_succ, List.set_cons_zero]); first | ((have hf : False := by (simp at hb; done)); cases hf) | ((have hf : False := by (simp at hb; omega)); cases hf) | skip))) | ((with_reducible refine isLoad ?_); first | (refine ld1 0 hS rfl rfl ?ha rfl rfl rfl ?_; (case ha => first | exact ty_agg23 | exact ty_agg48); (try simp only [Act.put, List.setIfInBounds_toArray, List.set_cons_succ, List.set_cons_zero])) | (refine ld1 1 hS rfl rfl ?ha rfl rfl rfl ?_; (case ha => first | exact ty_agg23 | exact ty_agg48); (try simp only [Act.put, List.setIfInBounds_toArray, List.set_cons_succ, List.set_cons_zero])) | (refine ldN 0 hS rfl rfl ?ha rfl rfl ?hb ?_; (case ha => first | exact ty_agg53); (case hb => first | exact ty_sz53); (try simp only [Act.put, List.setIfInBounds_toArray, List.set_cons_succ, List.set_cons_zero])) | (refine ldN 1 hS rfl rfl ?ha rfl rfl ?hb ?_; (case ha => first | exact ty_agg53); (case hb => first | exact ty_sz53); (try simp only [Act.put, List.setIfInBounds_toArray, List.set_cons_succ, List.set_cons_zero])) | ((refine' ldI1 (v := _) hS rfl rfl ?ha rfl ?hb ?_); (case ha => first | exact ty_agg23 | exact ty_agg48); (case hb => assumption); (try simp only [Act.put, List.setIfInBounds_toArray, List.set_cons_succ, List.set_cons_zero])) | ((refine' ldIN (vs := _) hS rfl rfl ?ha rfl ?hc ?hb ?_); (case ha => first | exact ty_agg53); (case hc => assumption); (case hb => first | exact ty_sz53); (try simp only [Act.put, List.setIfInBounds_toArray, List.set_cons_succ, List.set_cons_zero]))) | ((with_reducible refine isStore ?_); first | (refine st1 0 hS rfl rfl rfl rfl rfl ?ha rfl rfl ?hb ?_; (case ha => first | exact ty_sz23 | exact ty_sz48); (case hb => (simp; done)); clear hS; intro w hS; (try simp only [List.set_cons_succ, List.set_cons_zero, List.setIfInBounds_toArray, Act.eval, Array.getD_eq_getD_getElem?, List.getElem?_toArray, List.getElem?_cons_succ, List.getElem?_cons_zero, Option.getD_some, Value.cells] at hS); (try simp only [Act.put, List.setIfInBounds_toArray, List.set_cons_succ, List.set_cons_zero])) | (refine st1 1 hS rfl rfl rfl rfl rfl ?ha rfl rfl ?hb ?_; (case ha => first | exact ty_sz23 | exact ty_sz48); (case hb => (simp; done)); clear hS; intro w hS; (try simp only [List.set_cons_succ, List.set_cons_zero, List.setIfInBounds_toArray, Act.eval, Array.getD_eq_getD_getElem?, List.getElem?_toArray, List.getElem?_cons_succ, List.getElem?_cons_zero, Option.getD_some, Value.cells] at hS); (try simp only [Act.put, List.setIfInBounds_toArray, List.set_cons_succ, List.set_cons_zero])) | (refine stN 0 hS rfl rfl rfl rfl rfl ?ha rfl rfl ?_; (case ha => first | exact ty_sz53); clear hS; intro w hS; (try simp only [List.set_cons_succ, List.set_cons_zero, List.setIfInBounds_toArray, Act.eval, Array.getD_eq_getD_getElem?, List.getElem?_toArray, List.getElem?_cons_succ, List.getElem?_cons_zero, Option.getD_some, Value.cells] at hS); (try simp only [Act.put, List.setIfInBounds_toArray, List.set_cons_succ, List.set_cons_zero])) | (refine stN 1 hS rfl rfl rfl rfl rfl ?ha rfl rfl ?_; (case ha => first | exact ty_sz53); clear hS; intro w hS; (try simp only [List.set_cons_succ, List.set_cons_zero, List.setIfInBounds_toArray, Act.eval, Array.getD_eq_getD_getElem?, List.getElem?_toArray, List.getElem?_cons_succ, List.getElem?_cons_zero, Option.getD_some, Value.cells] at hS); (try simp only [Act.put, List.setIfInBounds_toArray, List.set_cons_succ, List.set_cons_zero]))) | ((with_reducible refine isBox ?_); refine bx hS rfl rfl rfl ?_; clear hS; intro X w hS; (try simp only [Act.eval, Array.getD_eq_getD_getElem?, List.getElem?_toArray, List.getElem?_cons_succ, List.getElem?_cons_zero, Option.getD_some, Value.cells] at hS); (try simp only [Act.put, List.setIfInBounds_toArray, List.set_cons_succ, List.set_cons_zero])) | ((with_reducible refine isAlloc ?_); (refine' al (z := _) hS rfl rfl ?ha ?_); (case ha => first | exact ty_z23 | exact ty_z48 | exact ty_z53); clear hS; intro X w hS; (try simp only [Act.eval, Array.getD_eq_getD_getElem?, List.getElem?_toArray, List.getElem?_cons_succ, List.getElem?_cons_zero, Option.getD_some, Value.cells] at hS); (try simp only [Act.put, List.setIfInBounds_toArray, List.set_cons_succ, List.set_cons_zero])) | ((with_reducible refine isBuildSlice ?_); (refine' bsl hS ?hr ?_); (case hr => (intro w0; go_simp; rfl)); clear hS; intro XS w hS; (try simp only [Act.eval, Array.getD_eq_getD_getElem?, List.getElem?_toArray, List.getElem?_cons_succ, List.getElem?_cons_zero, Option.getD_some, Value.cells] at hS); (try simp only [Act.put, List.setIfInBounds_toArray, List.set_cons_succ, List.set_cons_zero]))))
    rotate_left
    · rename_i hO
      refine ⟨⟨done ++ [r], left', _, ?_, by simpa [encE] using hO, hS.drop.drop⟩, ?_⟩
      · have h1 := (List.Perm.append_left done hlp).symm
        rw [List.append_assoc]
        exact h1.trans Hperm.out
      · obtain ⟨A4, c4, rfl, _⟩ := hO.shape
        have := Hpl.out
        have h2 := hlp.length_eq
        simp only [List.length_cons] at h2
        simp only [slLen]
        omega
    · subst hleft
      have hp0 := Hperm.out
      rw [List.append_nil] at hp0
      have hkeys := rows_perm_key hp0
      have hkl : (done.map (·.k)).length = done.length := by simp
      have hs1 := srt_perm (es := es) hkeys
      have hcmp : ∀ W' : World, (∀ b o, wr.heap[b]? = some o → m b = none → W'.heap[b]? = some o) → ∀ x y : Int × Int, Calls Try.prog 24 (#[.agg (encE x).toArray, .agg (encE y).toArray] ++ #[.pointer (some ⟨Y, 0, none⟩)]) W' fun e w' => e = .returned (.int .i64 (cfE es x y)) ∧ ∃ q os', w' = grow (W'.drewN q) os' := by
        intro W' hW' x y
        have key : ∀ b o, W.heap[b]? = some o → W'.heap[b]? = some o := fun b o hb => by
          refine hW' b o (hS.imm b o hb) ?_
          rcases hS.sep m (.head _) b with h | h
          · exact h
          · rw [show heapOf W b = W.heap[b]? from rfl, hb] at h; cases h
        have key2 : (heapOf W).le (heapOf W') := fun b o hb => key b o hb
        exact less_any W' Y g M es c x y (PH.at_le key2 iY) (IT.out.le key2)
      have hO' : OwnP m 53 2 (.slice A3 done.length c3) (done.map (·.k)).length ((done.map (·.k)).flatMap encE) := by rw [hkl]; exact hO
      have hsort := sortFunc_S (ρ := Try.sortE_ren) Try.sortE encE_len (by omega) Try.isAgg53 Try.sizeOf53 encE_one (cfE es) (cf_swo es) (cf_tot es) 24 #[.pointer (some ⟨Y, 0, none⟩)]
        (enters_of Try.func24 (by kernel_rfl) rfl) hS 0 rfl hO' (by rw [hkl]; omega) hcmp
      rw [hs1] at hsort
      have hlen2 : done.length = es.length := by have := Hpl.out; simpa using this
      rw [hkl, hlen2] at hsort
      rw [hlen2]
      change Calls Try.prog 23 _ _ _ at hsort
      refine hsort.mono ?_
      rintro e w1 ⟨rfl, m2, hO2, hS2⟩
      simp only [List.set_cons_zero] at hS2
      have hm2 : ∀ b, m2 b ≠ none → W.heap.size ≤ b ∧ b < w1.heap.size := fun b hb => by
        obtain ⟨o, ho⟩ := Option.ne_none_iff_exists'.1 hb
        refine ⟨?_, hS2.lt (.head _) ho⟩
        rcases hS2.sep m2 (.head _) b with h | h
        · exact absurd h hb
        · rcases Nat.lt_or_ge b W.heap.size with hlt | hge
          · rw [show heapOf W b = W.heap[b]? from rfl, Array.getElem?_eq_getElem hlt] at h; cases h
          · exact hge
      have hKl : ∀ b, (b = Y ∨ b = g ∨ b = M) → b < W.heap.size := fun b hb => by
        rcases hb with rfl | rfl | rfl
        · exact (Array.getElem?_eq_some_iff.1 HY.out).1
        · exact (Array.getElem?_eq_some_iff.1 Hg.out).1
        · exact (Array.getElem?_eq_some_iff.1 HM.out).1
      have hb1 : Below W.heap.size W w1 := hS2.end_ (PH.le.refl _)
      generalize hSdef : (fun b => (b = Y ∨ b = g ∨ b = M) ∨ m2 b ≠ none) = S
      have hSiff : ∀ b, S b ↔ ((b = Y ∨ b = g ∨ b = M) ∨ m2 b ≠ none) := fun b => by rw [← hSdef]
      have hSl : ∀ b, S b → b < w1.heap.size := fun b hb => by
        rcases (hSiff b).1 hb with h | h
        · have := hKl b h; have := hb1.size; omega
        · exact (hm2 b h).2
      have hst : Stays (fun b => b = Y ∨ b = g ∨ b = M) S W w1 := ⟨fun b hb => (hSiff b).2 (.inl hb), fun b hb => ((hSiff b).1 hb).imp_right (hm2 b)⟩
      have hj1 := H0.out S w1 hb1 hst
      have hkeep : ∀ wr, Keeps S w1 wr → (heapOf wr).at Y 0 = some (.pointer (some ⟨g, 0, none⟩)) ∧ TbIn (heapOf wr) g M es c ∧ m2.le (heapOf wr) := fun wr hk => by
        have h1 : ∀ b o, (b = Y ∨ b = g ∨ b = M) → heapOf W b = some o → heapOf wr b = some o := fun b o hb ho => by
          show wr.heap[b]? = some o
          rw [hk.2 b ((hSiff b).2 (.inl hb)), hb1.block b (hKl b hb)]
          exact ho
        refine ⟨?_, ⟨?_, h1 M _ (.inr (.inr rfl)) IT.out.m⟩, fun b o hb => ?_⟩
        · unfold PH.at; rw [h1 Y _ (.inl rfl) HY.out]; rfl
        · unfold PH.at; rw [h1 g _ (.inr (.inl rfl)) Hg.out]; rfl
        · show wr.heap[b]? = some o
          rw [hk.2 b ((hSiff b).2 (.inr (by rw [hb]; simp)))]
          exact hS2.own m2 (.head _) b o hb
      have Hkeep := Lib.hid hkeep
      have Hst := Lib.hid hst
      have HSl := Lib.hid hSl
      have Hj1 := Lib.hid hj1
      have Hb1 := Lib.hid hb1
      have HO2 := Lib.hid hO2
      have hsl := srt_len es
      generalize hsrt : srtE es = srt at *
      have hn0 : (0 : Int) ≤ (es.length : Int) := by omega
      have hn1 : (es.length : Int) ≤ 1000000 := by have := Hlen.out; omega
      generalize hnn : es.length = n at *
      have Hsl := Lib.hid hsl
      have Hnn := Lib.hid hnn
      have Hsrt := Lib.hid hsrt
      have Hcg := Lib.hid hcmp
      clear hS2 hm2 hKl hSdef hSiff hSl hst hkeep hj1 hb1 hO2 hsl hnn hsrt hcmp hsort hlen2 hO' hs1 hkl hkeys hp0 hS hO iY IV hdl Hperm Hpl d0 d1
      go_wp2
      go_loopw [27] (fun v27 wr => ∃ k : Nat, k ≤ n ∧ v27 = .int .i64 (k : Int) ∧ J S (srt.take k) wr ∧ Keeps S w1 wr ∧ W.heap.size ≤ wr.heap.size) (fun v27 _ => n - (intOf v27).toNat)
      case atStart => exact ⟨0, Nat.zero_le _, rfl, Hj1.out, Keeps.refl _ _, Hb1.out.size⟩
      case round =>
        obtain ⟨k, hkn, rfl, hj, hkp, hwz⟩ := hrel
        have k0 : (0 : Int) ≤ (k : Int) := by omega
        by_cases hlt : k < n
        · obtain ⟨rY, rT, rm⟩ := Hkeep.out _ hkp
          have hn2 : 0 < n := by omega
          obtain ⟨g2, hA, hcs⟩ := HO2.out.cells hn2
          subst hA
          have hx : k < srt.length := by rw [Hsl.out]; exact hlt
          have hdrop : srt = srt.take k ++ srt[k] :: srt.drop (k + 1) := by
            rw [← List.drop_eq_getElem_cons hx, List.take_append_drop]
          have htake : srt.take (k + 1) = srt.take k ++ [srt[k]] := List.take_succ_eq_append_getElem hx
          have hcell : Cells (heapOf wr) g2 (0 + k * 2) (encE srt[k]) := by
            have h1 := (hcs.le rm).part (k * 2) 2
            have h2 : ((srt.flatMap encE).drop (k * 2)).take 2 = encE srt[k] := by
              have e1 : (srt.flatMap encE).drop (k * 2) = encE srt[k] ++ (srt.drop (k + 1)).flatMap encE := by
                conv => lhs; rw [hdrop]
                rw [List.flatMap_append, List.flatMap_cons, List.drop_append_of_le_length, List.drop_eq_nil_of_le, List.nil_append]
                · rw [flat_len encE_len, List.length_take]; have := Nat.mul_le_mul_right 2 (Nat.min_le_left k srt.length); omega
                · rw [flat_len encE_len, List.length_take, Nat.min_eq_left (by omega)]; omega
              rw [e1, List.take_append_of_le_length (by rw [encE_len]; exact Nat.le_refl _), List.take_of_length_le (by rw [encE_len]; exact Nat.le_refl _)]
            rw [h2] at h1
            exact h1
          have hid := idE_get es srt[k]
          have hxx : srt[k] = (srt[k].1, srt[k].2) := rfl
          generalize srt[k] = x at *
          obtain ⟨x1, x2⟩ := x
          have Hdrop := Lib.hid hdrop
          have Htake := Lib.hid htake
          have Hcell := Lib.hid hcell
          have Hid_ := Lib.hid hid
          have Hj := Lib.hid hj
          have Hkp := Lib.hid hkp
          have Hwz := Lib.hid hwz
          have HrY := Lib.hid rY
          have HrT := Lib.hid rT
          clear hdrop htake hcell hid hxx hj hkp hwz rY rT rm hcs hx
          have hS := Sat.start wr
          unfold encE at *
          have hc0 := Hcell.out
          rw [Nat.zero_add] at hc0
          go_wp2_with (first | ((with_reducible refine atList ?_); first | ((with_reducible refine isBoxD 6 ?_); refine bx hS rfl rfl rfl ?_; clear hS; intro X6 w hS; (try simp only [Act.eval, Array.getD_eq_getD_getElem?, List.getElem?_toArray, List.getElem?_cons_succ, List.getElem?_cons_zero, Option.getD_some, Value.cells] at hS); (try simp only [Act.put, List.setIfInBounds_toArray, List.set_cons_succ, List.set_cons_zero])) | ((with_reducible refine isAllocD 6 ?_); (refine' al (z := _) hS rfl rfl ?ha ?_); (case ha => first | exact ty_z53); clear hS; intro X6 w hS; (try simp only [Act.eval, Array.getD_eq_getD_getElem?, List.getElem?_toArray, List.getElem?_cons_succ, List.getElem?_cons_zero, Option.getD_some, Value.cells] at hS); (try simp only [Act.put, List.setIfInBounds_toArray, List.set_cons_succ, List.set_cons_zero])) | ((with_reducible refine isGuard ?_); first | go_skip | (refine guarded_yes ?hw ?_; case hw => (simp only [Region.wanted, yielded, List.getElem?_toArray, List.getElem?_cons_succ, List.getElem?_cons_zero, Option.bind_some, beq_self_eq_true]; done)) | ((refine' guarded_cases (b := _) ?hy ?_ ?_); (case hy => (simp only [yielded, List.getElem?_toArray, List.getElem?_cons_succ, List.getElem?_cons_zero, Option.bind_some]; exact rfl)); all_goals (intro hb; (try simp only [Bool.not_true, Bool.not_false] at hb); (try simp only [hb]); (try simp only [Act.put, List.setIfInBounds_toArray, List.set_cons_succ, List.set_cons_zero]); first | ((have hf : False := by (simp at hb; done)); cases hf) | ((have hf : False := by (simp at hb; omega)); cases hf) | skip))) | ((with_reducible refine isLoad ?_); first | (refine ldN 0 hS rfl rfl ?ha rfl rfl ?hb ?_; (case ha => first | exact ty_agg53); (case hb => first | exact ty_sz53); (try simp only [Act.put, List.setIfInBounds_toArray, List.set_cons_succ, List.set_cons_zero])) | (refine ldN 1 hS rfl rfl ?ha rfl rfl ?hb ?_; (case ha => first | exact ty_agg53); (case hb => first | exact ty_sz53); (try simp only [Act.put, List.setIfInBounds_toArray, List.set_cons_succ, List.set_cons_zero])) | ((refine' ldIN (vs := _) hS rfl rfl ?ha rfl ?hc ?hb ?_); (case ha => first | exact ty_agg53); (case hc => assumption); (case hb => first | exact ty_sz53); (try simp only [Act.put, List.setIfInBounds_toArray, List.set_cons_succ, List.set_cons_zero]))) | ((with_reducible refine isStore ?_); first | (refine stN 0 hS rfl rfl rfl rfl rfl ?ha rfl rfl ?_; (case ha => first | exact ty_sz53); clear hS; intro w hS; (try simp only [List.set_cons_succ, List.set_cons_zero, List.setIfInBounds_toArray, Act.eval, Array.getD_eq_getD_getElem?, List.getElem?_toArray, List.getElem?_cons_succ, List.getElem?_cons_zero, Option.getD_some, Value.cells] at hS); (try simp only [Act.put, List.setIfInBounds_toArray, List.set_cons_succ, List.set_cons_zero])) | (refine stN 1 hS rfl rfl rfl rfl rfl ?ha rfl rfl ?_; (case ha => first | exact ty_sz53); clear hS; intro w hS; (try simp only [List.set_cons_succ, List.set_cons_zero, List.setIfInBounds_toArray, Act.eval, Array.getD_eq_getD_getElem?, List.getElem?_toArray, List.getElem?_cons_succ, List.getElem?_cons_zero, Option.getD_some, Value.cells] at hS); (try simp only [Act.put, List.setIfInBounds_toArray, List.set_cons_succ, List.set_cons_zero]))) | ((with_reducible refine isBox ?_); refine bx hS rfl rfl rfl ?_; clear hS; intro X w hS; (try simp only [Act.eval, Array.getD_eq_getD_getElem?, List.getElem?_toArray, List.getElem?_cons_succ, List.getElem?_cons_zero, Option.getD_some, Value.cells] at hS); (try simp only [Act.put, List.setIfInBounds_toArray, List.set_cons_succ, List.set_cons_zero])) | ((with_reducible refine isAlloc ?_); (refine' al (z := _) hS rfl rfl ?ha ?_); (case ha => first | exact ty_z53); clear hS; intro X w hS; (try simp only [Act.eval, Array.getD_eq_getD_getElem?, List.getElem?_toArray, List.getElem?_cons_succ, List.getElem?_cons_zero, Option.getD_some, Value.cells] at hS); (try simp only [Act.put, List.setIfInBounds_toArray, List.set_cons_succ, List.set_cons_zero]))))
          have hbb : Below wr.heap.size wr w.drew := hS.drew.end_ (PH.le.refl _)
          have hjd := ownFrom_b (HJ.out S) Hj.out hbb
          obtain ⟨fn, tmps, assign, body, hy, hR⟩ := YieldAt.wide 0 (HYl.out S (srt.take k) (x1, x2) (srt.drop (k + 1)) w.drew Hdrop.out hjd)
          have gY : (heapOf w).at Y 0 = _ := PH.at_le hS.ile HrY.out
          have gT := HrT.out.le hS.ile
          have gx : Cells (heapOf w) X6 0 [.int .i64 x1, .int .i64 x2] := (Cells.one X6 #[.int .i64 x1, .int .i64 x2] 53 (0, 0)).le (hS.own _ (.head _))
          have GY := Lib.hid gY
          have GV := Lib.hid gT.v
          have GM := Lib.hid gT.m
          have Gx := Lib.hid gx
          have hi := Hid_.out
          dsimp only [encY, ekey] at hy
          generalize idE es (x1, x2) = iv at *
          have Hi := Lib.hid hi
          have HR := Lib.hid hR
          have Hbb := Lib.hid hbb
          clear hbb hjd hR gY gT gx hi Hid_ hc0
          refine (wpIn_wide (n := 0)).1 ?_
          refine wide_tail 8 (by kernel_rfl) (by kernel_rfl) ?_
          simp only [List.take_succ_cons, List.take_zero, List.drop_succ_cons, List.drop_zero]
          repeat (first
            | ((with_reducible refine stLoad ?_); first
                | (refine stl1 (v := _) (p := heapOf w) (PH.le.refl _) rfl rfl ty_agg23 rfl GY.out ?_; (try simp only [Act.put, List.setIfInBounds_toArray, List.set_cons_succ, List.set_cons_zero]))
                | (refine stl1 (v := _) (p := heapOf w) (PH.le.refl _) rfl rfl ty_agg48 rfl GV.out ?_; (try simp only [Act.put, List.setIfInBounds_toArray, List.set_cons_succ, List.set_cons_zero]))
                | (refine stlN (vs := _) (p := heapOf w) (PH.le.refl _) rfl rfl kA_agg rfl Gx.out kA_sz ?_; (try simp only [Act.put, List.setIfInBounds_toArray, List.set_cons_succ, List.set_cons_zero])))
            | ((with_reducible refine stLookup ?_); first
                | (refine stk1 (x := (x1, x2)) (p := heapOf w) (PH.le.refl _) GM.out kE Try.underlying48 ty_z3 rfl rfl rfl rfl Hi.out ?_; (try simp only [Act.put, List.setIfInBounds_toArray, List.set_cons_succ, List.set_cons_zero])))
            | still_step)
          refine wpStill_nil ?_
          gi_wp2
          refine ⟨rfl, ?_⟩
          refine HR.out.mono ?_
          clear HR hy
          rintro e W3 (⟨rfl, hJ3, hk3⟩ | ⟨rfl, hJx3, hk3⟩)
          · have Hz := Lib.hid (Nat.le_trans (Nat.le_trans Hwz.out Hbb.out.size) hk3.1)
            have Hk3 := Lib.hid ((Hkp.out.trans (Keeps.of_below Hbb.out (fun b hb => Nat.lt_of_lt_of_le (HSl.out b hb) Hkp.out.1))).trans hk3)
            have HJ3 := Lib.hid hJ3
            clear hJ3 hk3
            gi_wp2
            go_wp2
            refine ⟨⟨k + 1, by omega, by go_num, ?_, Hk3.out, Hz.out⟩, by simp [intOf]; omega⟩
            rw [Htake.out]; exact HJ3.out
          · have HJx3 := Lib.hid hJx3
            have Hz := Lib.hid (Nat.le_trans (Nat.le_trans Hwz.out Hbb.out.size) hk3.1)
            have Hk3 := Lib.hid ((Hkp.out.trans (Keeps.of_below Hbb.out (fun b hb => Nat.lt_of_lt_of_le (HSl.out b hb) Hkp.out.1))).trans hk3)
            clear hJx3 hk3
            gi_wp2
            go_wp2
            refine bodyPost_ret (results_none rfl _ _ _) rfl ?_
            refine ⟨⟨_, rfl⟩, S, ⟨Hst.out.1, fun b hb => (Hst.out.2 b hb).imp_right fun h => ⟨h.1, by have := Hk3.out.1; omega⟩⟩, .inr ⟨_, ⟨srt.drop (k + 1), ?_⟩, HJx3.out⟩⟩
            rw [List.append_assoc]
            rw [Hsrt.out]
            exact Hdrop.out.symm
        · obtain rfl : k = n := by omega
          have Hj := Lib.hid hj
          have Hkp := Lib.hid hkp
          clear hj hkp hwz
          go_wp2
          go_end0
          refine ⟨⟨_, rfl⟩, S, ?_, .inl ?_⟩
          · exact ⟨Hst.out.1, fun b hb => (Hst.out.2 b hb).imp_right fun h => ⟨h.1, by have := Hkp.out.1; omega⟩⟩
          · have := Hj.out
            rw [List.take_of_length_le (by rw [Hsl.out]; exact Nat.le_refl _)] at this
            rw [Hsrt.out]
            exact this
end Go.Proofs.Ytmgjoggffnogfaa
