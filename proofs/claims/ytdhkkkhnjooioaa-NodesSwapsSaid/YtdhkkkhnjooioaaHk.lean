import Derived.Test.YtdhkkkhnjooioaaHj
namespace Go.Proofs.Ytdhkkkhnjooioaa
set_option linter.unusedSimpArgs false
set_option linter.unusedVariables false
open Go.RowKit
set_option linter.unusedVariables false
theorem Sat.graft {E w w' : World} {I : PH} {ms ns : List PH} (h : Sat E I ms w) (h' : Sat w (heapOf w) ns w') : Sat E I (ns ++ ms) w' := by
  have off : ∀ n ∈ ns, ∀ (p : PH), p.le (heapOf w) → ∀ b, n b = none ∨ p b = none := fun n hn p hp b => by
    rcases h'.sep n hn b with h1 | h1
    · exact .inl h1
    · refine .inr ?_
      cases hpb : p b with
      | none => rfl
      | some o => rw [hp b o hpb] at h1; cases h1
  refine ⟨h'.os.trans h.os, h'.tape.trans h.tape, h'.output.trans h.output, fun b o hb => h'.imm b o (h.imm b o hb), fun p hp => ?_, fun p hp b => ?_, List.pairwise_append.2 ⟨h'.dis, h.dis, fun p hp q hq b => ?_⟩, Nat.le_trans h.size h'.size⟩
  · rcases List.mem_append.1 hp with hp | hp
    · exact h'.own p hp
    · exact fun b o hb => h'.imm b o (h.own p hp b o hb)
  · rcases List.mem_append.1 hp with hp | hp
    · exact off p hp I h.imm b
    · exact h.sep p hp b
  · exact off p hp q (h.own q hq) b
section
variable {w : World} {S : Nat} {s : G.St}
theorem sorder_any (h : StR (heapOf w) S s) {E : World} {I : PH} {ms : List PH} (hE : Sat E I ms w) : Calls Try.prog 9 #[vPt S] w fun e w' => ∃ v m, e = .returned v ∧ OwnP m 3 1 v s.vars.length (s.vars.flatMap ivC) ∧ Sat E I (m :: ms) w' := by
  obtain ⟨h0, L, P, vV, vL, vT, vC, gs, h1, h2, h3, h4, h5, h6, h7, h8, h9, h10, h11, h12, h13, h14⟩ := h
  have hn := h0.vars
  have hlen : (s.vars.flatMap ivC).length = s.vars.length * 1 := flat_length ivC_len _
  have hone : ∀ u ∈ s.vars.flatMap ivC, u.oneCell' = true := fun u hu => by
    obtain ⟨a, _, ha⟩ := List.mem_flatMap.1 hu
    simp only [ivC, List.mem_singleton] at ha
    subst ha; rfl
  obtain ⟨⟨A, c, rfl⟩, hV⟩ := h8
  have hcs : 0 < s.vars.length → ∃ X off, A = some ⟨X, off, none⟩ ∧ Cells (heapOf w) X off (s.vars.flatMap ivC) := fun hl => by
    obtain ⟨X, c', e1, e2⟩ := hV hl
    injection e1 with e1
    refine ⟨X, 0, e1, fun j v hj => ?_⟩
    rw [Nat.zero_add]
    have hfl : s.vars.flatMap ivC = s.vars.map fun n => nv n := by rw [List.flatMap_def]; unfold ivC; induction s.vars with | nil => rfl | cons a l ih => simp_all
    rw [hfl, List.getElem?_map] at hj
    cases hx : s.vars[j]? with
    | none => rw [hx] at hj; cases hj
    | some x => rw [hx] at hj; cases hj; exact e2 j x hx
  have hS := Sat.start w
  have HC := Lib.hid hcs
  have HL := Lib.hid hlen
  have H1 := Lib.hid hone
  have HE := Lib.hid hE
  clear hcs hlen hone hE h2 h3 h4 h5 h7 h9 h10 h11 h12 h13 h14 h0 hV
  generalize s.vars.flatMap ivC = xs at *
  generalize s.vars.length = n at *
  go_enter Try.func9, Try.ntmps9
  go_wp2_with (first | ((with_reducible refine isAppend ?_); (refine' apS (p := _) (m := _) (v := _) (n := _) (xs := _) (news := xs) 0 (.inl (PH.le.refl _)) hS rfl rfl rfl Try.underlying27 int_info rfl (by decide) rfl ?hown rfl HL.out HC.out H1.out ?h63 ?hby ?_); (case hown => exact OwnP.lit _ _ 1 0 #[] (by decide) rfl); (case h63 => (unfold maxLen; omega)); (case hby => omega); clear hS; intro v1 m1 w1 hO hS; have HO := Lib.hid hO; clear hO; (try simp only [zF, zG] at hS); (try simp only [Act.put, zE, zF, zG])) | ((with_reducible refine atList ?_); first | ((with_reducible refine isLoad ?_); (first | (refine ld1 0 hS rfl rfl ?ha rfl rfl rfl ?_; (case ha => first | exact ty_agg27 | exact ty_agg70)) | ((refine' ldI1 (v := _) hS rfl rfl ?ha rfl ?hb ?_); (case ha => first | exact ty_agg27 | exact ty_agg70); (case hb => assumption))); (try simp only [Act.put, zE, zF, zG])) | ((with_reducible refine isBuildSlice ?_); (refine' bsl hS ?hr ?_); (case hr => (intro w0; go_simp; rfl)); clear hS; intro XS w hS; (try simp only [Act.eval, zD, zC, zA, zB, zJ, Value.cells] at hS); (try simp only [Act.put, zE, zF, zG]))))
  go_ret
  have := HO.out
  rw [Nat.zero_add] at this
  exact ⟨_, rfl, m1, by simpa using this, HE.out.graft hS⟩
end
end Go.Proofs.Ytdhkkkhnjooioaa
