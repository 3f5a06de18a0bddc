import Derived.Test.YtdhkkkhnjooioaaJl
namespace Go.Proofs.Ytdhkkkhnjooioaa
set_option linter.unusedSimpArgs false
set_option linter.unusedVariables false
open Go.RowKit
set_option linter.unusedVariables false
theorem StR.pf {I : PH} {S : Nat} {s : G.St} (h : StR I S s) : PlFit s.pl := by obtain ⟨_, _, P, _, _, _, _, _, _, _, _, _, _, _, _, _, _, hP, _⟩ := h; exact hP.1
set_option maxRecDepth 100000 in
set_option maxHeartbeats 4000000 in
theorem value_any {w : World} {S f place steps : Nat} {s : G.St} (h : StR (heapOf w) S s) (hf : f < 4611686018427387904) (hp : place < 4611686018427387904) (hs : steps ≤ 1000) :
    Calls Try.prog 43 #[vPt S, nv f, nv place, nv steps] w fun e w' => e = .returned (.tuple #[.bool (s.valM place steps (steps + 1) f).1, .bool (s.valM place steps (steps + 1) f).2]) ∧ Below w.heap.size w w' := by
  have hS := Sat.start w
  have hpf := h.pf
  have HR := Lib.hid (fun (w' : World) (hle : (heapOf w).le (heapOf w')) => h.le hle)
  clear h
  obtain ⟨R, hr⟩ : ∃ R, R = s.valM place steps (steps + 1) f := ⟨_, rfl⟩
  rw [← hr]
  have Hr := Lib.hid hr
  clear hr
  go_enter Try.func43, Try.ntmps43
  go_wp2_with fail
  go_loopw [1, 10] (fun v1 v10 wr => ∃ (i f' : Nat), i ≤ steps + 1 ∧ v10 = .int .i64 (i : Int) ∧ v1 = nv f' ∧ f' < 4611686018427387904 ∧ R = s.valM place steps (steps + 1 - i) f' ∧ Sat w (heapOf w) [] wr) (fun _ v10 _ => (steps + 1 - intOf v10).toNat)
  case atStart => exact ⟨0, f, Nat.zero_le _, rfl, rfl, hf, Hr.out, hS⟩
  case round =>
    clear hS
    obtain ⟨i, f', hi, rfl, rfl, hf', hv, hS⟩ := hrel
    by_cases hle : i ≤ steps
    · have hli : (i : Int) ≤ (steps : Int) := by omega
      obtain ⟨k, hk⟩ : ∃ k, steps + 1 - i = k + 1 := ⟨steps - i, by omega⟩
      have hk2 : steps + 1 - (i + 1) = k := by omega
      rw [hk] at hv
      unfold G.St.valM at hv
      by_cases hc0 : f' = 0
      · subst hc0
        rw [if_pos (.inl rfl)] at hv
        have Hv := Lib.hid hv
        clear hv
        go_wp2
        go_ret2
        refine ⟨?_, hS.end_ (PH.le.refl _)⟩
        rw [Hv.out]
        rfl
      by_cases hc1 : f' = 1
      · subst hc1
        rw [if_pos (.inr rfl)] at hv
        have Hv := Lib.hid hv
        clear hv hc0
        go_wp2
        go_ret2
        refine ⟨?_, hS.end_ (PH.le.refl _)⟩
        rw [Hv.out]
        rfl
      rw [if_neg (by omega)] at hv
      have c0 : ¬ (f' : Int) = 0 := by omega
      have c1 : ¬ (f' : Int) = 1 := by omega
      have c0b : ((f' : Int) == 0) = false := by simpa using c0
      have c1b : ((f' : Int) == 1) = false := by simpa using c1
      have hR := HR.out wr hS.ile
      unfold G.St.at_ at hv
      cases hn : s.nd (f' / 2) with
      | none =>
        rw [hn] at hv
        have Hv := Lib.hid hv
        have HAt := Lib.hid (sat_none hR f' (by omega) hn)
        clear hv hn hR
        go_wp2_with (first | (go_at_call 33; (with_reducible refine Calls.mono HAt.out ?_); rintro e w2 ⟨rfl, hb⟩; replace hS := hS.below_ hb; clear hb))
        go_ret2
        refine ⟨?_, hS.end_ (PH.le.refl _)⟩
        rw [Hv.out]
        rfl
      | some n =>
        rw [hn] at hv
        simp only [Option.map_some] at hv
        have hnf := hpf.nd _ n (G.Pl.nd_some.1 hn).2
        have HAt := Lib.hid (sat_some hR f' (by omega) hn)
        have hl1 := flipIf_lt hnf.2.1 (f' % 2 == 1)
        have hl2 := flipIf_lt hnf.2.2.1 (f' % 2 == 1)
        have hv1 := hnf.1
        generalize G.flipIf n.lo (f' % 2 == 1) = lo at *
        generalize G.flipIf n.hi (f' % 2 == 1) = hi' at *
        have hv0 : ¬ (n.v : Int) < 0 := by omega
        by_cases hvs : steps ≤ n.v
        · rw [if_pos hvs] at hv
          have hvsi : (steps : Int) ≤ (n.v : Int) := by omega
          have Hv := Lib.hid hv
          clear hv hn hR hnf
          go_wp2_with (first | (go_at_call 33; (with_reducible refine Calls.mono HAt.out ?_); rintro e w2 ⟨rfl, hb⟩; replace hS := hS.below_ hb; clear hb))
          go_ret2
          refine ⟨?_, hS.end_ (PH.le.refl _)⟩
          rw [Hv.out]
          rfl
        · rw [if_neg hvs] at hv
          have hvsi : ¬ (steps : Int) ≤ (n.v : Int) := by omega
          have Hv := Lib.hid hv
          have HB := Lib.hid (fun w' => at12_any w' place n.v hp (by omega))
          clear hv hn hR hnf
          generalize hb : place.testBit n.v = b at *
          cases b with
          | true =>
            go_wp2_with (first | (go_at_call 33; (with_reducible refine Calls.mono HAt.out ?_); rintro e w2 ⟨rfl, hb⟩; replace hS := hS.below_ hb; clear hb) | (go_at_call 70; (with_reducible refine Calls.mono (HB.out _) ?_); rintro e w9 ⟨rfl, rfl⟩))
            exact ⟨⟨i + 1, hi', by omega, by go_num, rfl, hl2, by rw [Hv.out, hk2]; rfl, hS⟩, by simp [intOf]; omega⟩
          | false =>
            go_wp2_with (first | (go_at_call 33; (with_reducible refine Calls.mono HAt.out ?_); rintro e w2 ⟨rfl, hb⟩; replace hS := hS.below_ hb; clear hb) | (go_at_call 70; (with_reducible refine Calls.mono (HB.out _) ?_); rintro e w9 ⟨rfl, rfl⟩))
            exact ⟨⟨i + 1, lo, by omega, by go_num, rfl, hl1, by rw [Hv.out, hk2]; rfl, hS⟩, by simp [intOf]; omega⟩
    · have hie : i = steps + 1 := by omega
      subst hie
      have Hv := Lib.hid hv
      clear hv
      go_wp2
      go_ret2
      refine ⟨?_, hS.end_ (PH.le.refl _)⟩
      have hv2 := Hv.out
      rw [Nat.sub_self] at hv2
      rw [hv2]
      rfl
theorem boolV_info : (Try.prog.info? 4).map (fun i => (i.zero, i.size, i.bytes)) = some (some (.bool false), 1, 1) := by kernel_rfl
set_option maxRecDepth 100000 in
set_option maxHeartbeats 4000000 in
theorem table_any {E w : World} {I : PH} {ms : List PH} {S f n : Nat} {s : G.St} {t : List Bool} (hR : StR (heapOf w) S s) (hf : f < 4611686018427387904) (hn : n ≤ 12) (hl : t.length = 2 ^ n) (ht : ∀ i b, t[i]? = some b → s.valM i n (n + 1) f = (b, true)) (hS : Sat E I ms w) :
    Calls Try.prog 16 #[vPt S, nv f, nv n] w fun e w' => ∃ v m, e = .returned v ∧ OwnP m 4 1 v t.length (t.flatMap bvC) ∧ Sat E I (m :: ms) w' := by
  have hp : 2 ^ n ≤ 4096 := Nat.pow_le_pow_right (by decide) hn
  have HE := Lib.hid hS
  have HPl := Lib.hid (fun w' => places_any w' n (by omega))
  have HR := Lib.hid (fun (w' : World) (hle : (heapOf w).le (heapOf w')) => hR.le hle)
  have Ht := Lib.hid ht
  clear hS ht
  have hS := Sat.start w
  rw [← hl] at hp HPl
  generalize hN : t.length = N at *
  clear hl
  go_enter Try.func16, Try.ntmps16
  go_wp2_with (first | ((with_reducible refine isBuildSlice ?_); (refine' bsl hS ?hr ?_); (case hr => (intro w0; go_simp; rfl)); clear hS; intro XS w1 hS; (try simp only [zF, zG, zE, Act.eval, zD, zC, zA, zB, zJ, Value.cells] at hS); (try simp only [Act.put, zE, zF, zG])))
  go_loopw [7, 8] (fun v7 v8 wr => ∃ (i : Nat) (m : PH), i ≤ N ∧ v8 = .int .i64 (i : Int) ∧ OwnP m 4 1 v7 i ((t.take i).flatMap bvC) ∧ Sat w (heapOf w) [m] wr) (fun _ v8 _ => (N - intOf v8).toNat)
  case atStart => exact ⟨0, _, Nat.zero_le _, rfl, OwnP.lit XS 4 1 0 #[] (by decide) rfl, hS⟩
  case round =>
    clear hS
    obtain ⟨i, m, hi, rfl, hO, hS⟩ := hrel
    have HO := Lib.hid hO
    obtain ⟨A, c, rfl, _⟩ := hO.shape
    clear hO
    by_cases hlt : i < N
    · obtain ⟨b, hb⟩ : ∃ b, t[i]? = some b := ⟨_, List.getElem?_eq_getElem (by omega)⟩
      have hva := value_any (HR.out _ hS.ile) hf (place := i) (steps := n) (by omega) (by omega)
      rw [Ht.out i b hb] at hva
      have HV := Lib.hid hva
      have htk : t.take (i + 1) = t.take i ++ [b] := by rw [List.take_add_one, hb]; rfl
      have Htk := Lib.hid htk
      have ii : (i : Int) < (N : Int) := by omega
      clear hva hb htk
      have hbig : i ≤ 4096 := by omega
      go_wp2_with (first | (go_at_call 42; (with_reducible refine Calls.mono (HPl.out _) ?_); rintro e w9 ⟨rfl, rfl⟩) | (go_at_call 43; (with_reducible refine Calls.mono HV.out ?_); rintro e w2 ⟨rfl, hb⟩; replace hS := hS.below_ hb; clear hb) | ((with_reducible refine isAppend ?_); (refine' apP (p := _) (m := _) (v := _) (n := _) (xs := _) (news := _) 1 (.inr (List.Mem.head _)) hS rfl rfl rfl Try.underlying32 boolV_info rfl (by decide) rfl HO.out rfl ?hl ?hcl ?h1 ?h63 ?hby ?_); (case hcl => exact Cells.one _ _ _ _); (case hl => rfl); (case h1 => rfl); (case h63 => (unfold maxLen; omega)); (case hby => omega); clear hS; intro v1 m1 w hO1 hS; have HO1 := Lib.hid hO1; clear hO1; (try simp only [zF, zG] at hS); (try simp only [Act.put, zE, zF, zG])) | ((with_reducible refine isBuildSlice ?_); (refine' bsl hS ?hr ?_); (case hr => (intro w0; go_simp; rfl)); clear hS; intro XS w hS; (try simp only [zF, zG, zE, Act.eval, zD, zC, zA, zB, zJ, Value.cells] at hS); (try simp only [Act.put, zE, zF, zG])))
      refine ⟨⟨i + 1, m1, by omega, by go_num, ?_, hS.drop⟩, by simp [intOf]; omega⟩
      rw [Htk.out, List.flatMap_append]
      exact HO1.out
    · have hie : i = N := by omega
      subst hie
      go_wp2_with (first | (go_at_call 42; (with_reducible refine Calls.mono (HPl.out _) ?_); rintro e w9 ⟨rfl, rfl⟩))
      go_ret
      have h1 := HO.out
      rw [List.take_of_length_le (by omega)] at h1
      exact ⟨_, m, rfl, h1, HE.out.graft hS⟩
theorem seach_any {w : World} {S P : Nat} (h : (heapOf w).at S 1 = some (vPt P)) : Calls Try.prog 46 #[vPt S] w fun e w' => e = .returned (.func (.func 76) #[] #[.pointer (some ⟨w.heap.size, 0, none⟩)]) ∧ w' = w.alloc (.cells #[vPt P] 67) := by
  have hS := Sat.start w
  go_enter Try.func46, Try.ntmps46
  go_wp2_with (first | (go_at_call 67; (with_reducible refine Calls.mono (peach_any _ _) ?_); rintro e w1 ⟨rfl, rfl⟩) | ((with_reducible refine atList ?_); first | ((with_reducible refine isLoad ?_); (first | (refine ld1 0 hS rfl rfl ?ha rfl rfl rfl ?_; (case ha => exact ty_agg67)) | ((refine' ldI1 (v := _) hS rfl rfl ?ha rfl ?hb ?_); (case ha => exact ty_agg67); (case hb => assumption))); (try simp only [Act.put, zE, zF, zG]))))
  go_ret
  exact ⟨rfl, rfl⟩
theorem nil_each (w : World) : Calls Try.prog 46 #[.pointer none] w fun e w' => e = .returned (.func (.func 71) #[] #[]) ∧ w = w' := by
  go_enter Try.func46, Try.ntmps46
  go_wp2
  go_ret
  exact ⟨rfl, rfl⟩
end Go.Proofs.Ytdhkkkhnjooioaa
