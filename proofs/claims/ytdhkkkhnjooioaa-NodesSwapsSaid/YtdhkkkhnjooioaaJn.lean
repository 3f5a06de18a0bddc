import Derived.Test.YtdhkkkhnjooioaaJm
namespace Go.Proofs.Ytdhkkkhnjooioaa
set_option linter.unusedSimpArgs false
set_option linter.unusedVariables false
open Go.ChangeShapes Go.WideShapes Go.ChangeAt Go.RowKit Go.Shelf
set_option linter.unusedVariables false
attribute [local go_sem] Oper.semAt_some
attribute [local go_sem ↓] wpIn_at_zero wpIn_at_succ
def AD (E : World) (I : PH) (ro : List PH) (XO : Nat) (xs : List (Nat × G.Nd)) (S : Nat → Prop) (W : World) : Prop :=
  ∃ (mm : PH) (v : Value), OwnP mm 59 5 v xs.length (xs.flatMap ndR) ∧ Sat E I (ro ++ [mm, PH.one XO (.cells #[v] 48)]) W ∧ ∀ p ∈ ro ++ [mm, PH.one XO (.cells #[v] 48)], ∀ b, S b → p b = none
theorem AD.below {E : World} {I : PH} {ro : List PH} {XO : Nat} {xs : List (Nat × G.Nd)} {S : Nat → Prop} {W W' : World} (h : AD E I ro XO xs S W) (hb : Below W.heap.size W W') : AD E I ro XO xs S W' := by
  obtain ⟨mm, v, h1, h2, h3⟩ := h
  exact ⟨mm, v, h1, h2.below_ hb, h3⟩
theorem nil_iter (w : World) (K : Nat → Prop) : Iter Try.prog 71 #[] encNd K ([] : List (Nat × G.Nd)) w := by
  intro l J Jx W hk hJ hJx hY h0
  have h00 := h0 K W (Below.refl _ _) ⟨fun _ h => h, fun _ h => .inl h⟩
  have HJ := Lib.hid h00
  refine callsIn_of_wp Try.func71 rfl trivial ?_ rfl
  simp only [Try.ntmps71, List.size_toArray, List.length_cons, List.length_nil, Nat.reduceAdd, Nat.reduceSub, Array.replicate_succ, Array.replicate_zero, List.push_toArray, List.append_toArray, List.nil_append, List.cons_append]
  gi_wp2
  go_end0
  exact ⟨⟨_, rfl⟩, K, ⟨fun _ h => h, fun _ h => .inl h⟩, .inl HJ.out⟩

set_option maxRecDepth 100000 in
set_option maxHeartbeats 4000000 in
theorem sall_any {E w : World} {I : PH} {ms : List PH} {S : Nat} {s : G.St} (most : Nat) (hR : StR I S s) (hmo : most ≤ 1000000) (hS : Sat E I ms w) :
    Calls Try.prog 25 #[vPt S, nv most] w fun e w' => ∃ v mo, e = .returned v ∧ OwnP mo 59 5 v ((s.pl.all).take most).length (((s.pl.all).take most).flatMap ndR) ∧ Sat E I (mo :: ms) w' := by
  refine (callsIn_wide (n := 0)).1 ?_
  refine callsIn_of_wp_marks (n := 0) Try.func25 rfl trivial ?_ rfl
  simp only [Try.ntmps25, List.size_toArray, List.length_cons, List.length_nil, Nat.reduceAdd, Nat.reduceSub, Array.replicate_succ, Array.replicate_zero, List.push_toArray, List.append_toArray, List.nil_append, List.cons_append]
  refine wpIn_wide.2 ?_
  have hnf : ∀ (W : World) (a : Array Value), (binOp BinOp.eql 84 (Value.func (Fn.func 76) #[] a) Value.nilFunc).run Try.prog W = .ok (.bool false) W := fun _ _ => by kernel_rfl
  have hpf := hR.pf
  have hal : s.pl.all.length ≤ 1048577 := by
    unfold G.Pl.all
    rw [G.length_nodesFrom]
    exact Nat.le_trans (G.many_le _) (by have := hpf.len; have := hpf.room; omega)
  obtain ⟨h0, L, P, vV, vL, vT, vC, gs, i0, i1, i2, i3, i4, h6, h7, h8, h9, hP, hC, hgs, h13, h14⟩ := hR
  clear h0 i0 i2 i3 i4 h6 h7 h8 h9 hC hgs h13 h14 hpf
  have HE1 := Lib.hid (fun (w' : World) (hle : I.le (heapOf w')) => seach_any (PH.at_le hle i1))
  go_wp2_with (first | (go_at_call 46; (with_reducible refine Calls.mono (HE1.out _ hS.ile) ?_); rintro e w1 ⟨rfl, rfl⟩; have hS2 := hS.alloc (.cells #[vPt P] 67); clear hS; have hS := hS2; clear hS2; generalize (World.heap w).size = Y at *; generalize World.alloc w _ = w1 at *) | ((with_reducible refine isBuildSlice ?_); (refine' bsl hS ?hr ?_); (case hr => (intro w0; go_simp; rfl)); clear hS; intro XS w hS; (try simp only [zF, zG, zE, Act.eval, zD, zC, zA, zB, zJ, Value.cells] at hS); (try simp only [Act.put, zE, zF, zG])) | ((with_reducible refine atList ?_); first | ((with_reducible refine isBoxD 3 ?_); refine bx hS rfl rfl rfl ?_; clear hS; intro X3 w hS; (try simp only [Act.eval, zD, zC, zA, zB, zJ, Value.cells] at hS); (try simp only [Act.put, zE, zF, zG])) | ((with_reducible refine isAllocD 3 ?_); (refine' al (z := _) hS rfl rfl ?ha ?_); (case ha => exact ty_z48); clear hS; intro X3 w hS; (try simp only [Act.eval, zD, zC, zA, zB, zJ, Value.cells] at hS); (try simp only [Act.put, zE, zF, zG])) | ((with_reducible refine isBoxD 5 ?_); refine bx hS rfl rfl rfl ?_; clear hS; intro XO w hS; (try simp only [Act.eval, zD, zC, zA, zB, zJ, Value.cells] at hS); (try simp only [Act.put, zE, zF, zG])) | ((with_reducible refine isAllocD 5 ?_); (refine' al (z := _) hS rfl rfl ?ha ?_); (case ha => exact ty_z48); clear hS; intro XO w hS; (try simp only [Act.eval, zD, zC, zA, zB, zJ, Value.cells] at hS); (try simp only [Act.put, zE, zF, zG])) | ((with_reducible refine isLoad ?_); (first | (refine ld1 0 hS rfl rfl ?ha rfl rfl rfl ?_; (case ha => first | exact ty_agg48 | exact ty_agg3)) | (refine ld1 1 hS rfl rfl ?ha rfl rfl rfl ?_; (case ha => first | exact ty_agg48 | exact ty_agg3)) | (refine ld1 2 hS rfl rfl ?ha rfl rfl rfl ?_; (case ha => first | exact ty_agg48 | exact ty_agg3)) | ((refine' ldI1 (v := _) hS rfl rfl ?ha rfl ?hb ?_); (case ha => first | exact ty_agg48 | exact ty_agg3); (case hb => assumption))); (try simp only [Act.put, zE, zF, zG])) | ((with_reducible refine isStore ?_); (first | (refine st1 0 hS rfl rfl rfl rfl rfl ?ha rfl rfl ?hb ?_; (case ha => exact ty_sz48); (case hb => (simp; done))) | (refine st1 1 hS rfl rfl rfl rfl rfl ?ha rfl rfl ?hb ?_; (case ha => exact ty_sz48); (case hb => (simp; done))) | (refine st1 2 hS rfl rfl rfl rfl rfl ?ha rfl rfl ?hb ?_; (case ha => exact ty_sz48); (case hb => (simp; done)))); clear hS; intro w hS; (try simp only [zF, zG, zE, Act.eval, zD, zC, zA, zB, zJ, Value.cells] at hS); (try simp only [Act.put, zE, zF, zG])) | ((with_reducible refine isBox ?_); refine bx hS rfl rfl rfl ?_; clear hS; intro X w hS; (try simp only [Act.eval, zD, zC, zA, zB, zJ, Value.cells] at hS); (try simp only [Act.put, zE, zF, zG])) | ((with_reducible refine isAlloc ?_); (refine' al (z := _) hS rfl rfl ?ha ?_); (case ha => exact ty_z48); clear hS; intro X w hS; (try simp only [Act.eval, zD, zC, zA, zB, zJ, Value.cells] at hS); (try simp only [Act.put, zE, zF, zG]))))
  have hS1 : Sat E I (PH.one Y (.cells #[vPt P] 67) :: PH.one X3 (.cells #[nv most] 3) :: PH.one XO (.cells #[.slice (some ⟨XS, 0, none⟩) 0 0] 48) :: PH.one XS (.cells #[] 59) :: ms) w1 := hS.perm (List.Perm.cons _ (List.perm_middle (l₁ := [_, _]) (a := PH.one X3 (.cells #[nv most] 3))))
  clear hS
  obtain ⟨J1, l1, lY, hS2, bY⟩ := hS1.ice
  obtain ⟨J2, l2, lX3, hS3, bX3⟩ := hS2.ice
  have hPR := (hP.le l1).le l2
  have hIY : J2.at Y 0 = some (vPt P) := PH.at_le (lY.trans l2) (at_one rfl)
  have hIX : J2.at X3 0 = some (nv most) := PH.at_le lX3 (at_one rfl)
  have hback : ∀ ns w', Sat E J2 ns w' → Sat E I ns w' := fun ns w' h => (bY _ _ (bX3 _ _ h).drop).drop
  have Hback := Lib.hid hback
  have hSt : Sat E J2 (ms ++ [PH.one XS (.cells #[] 59), PH.one XO (.cells #[.slice (some ⟨XS, 0, none⟩) 0 0] 48)]) w1 := hS3.perm ((List.Perm.swap _ _ _).trans (List.perm_append_comm (l₁ := [_, _])))
  have hit := peach1_iter w1 J2 P Y s.pl hSt.ile hIY hPR
  have hIlt : ∀ b o, J2 b = some o → b < w1.heap.size := fun b o hb => hSt.ilt hb
  have hrolt : ∀ p ∈ ms, ∀ b o, p b = some o → b < w1.heap.size := fun p hp b o hb => hSt.lt (List.mem_append_left _ hp) hb
  clear hS1 hS2 hS3 bY bX3 l1 l2 lY lX3 hback hP hPR hIY i1 HE1
  generalize hxl : s.pl.all = xs at *
  refine (wpIn_wide (n := 0)).1 ?_
  refine rangeFunc_law (K := Kof J2) (gf := 76) (lb := #[Value.pointer (some { block := Y, off := 0 })]) (w0 := w1) rfl (enters_of Try.func76 (by kernel_rfl) rfl)
    hit (Keeps.refl _ _) (fun b hb => Kof.lt hSt.ile hb) ?hps
    (fun S pre W' => pre.length ≤ most ∧ AD E J2 ms XO pre S W')
    (fun S cd _ W' => cd = .exit 0 ∧ AD E J2 ms XO (xs.take most) S W') ?hI ?hIx ?start
    (fun x a' W' => ∃ Bx, W'.heap[Bx]? = some (.cells (ndR x).toArray 59) ∧ a' = ⟨#[vPt S, nv most, undef, Value.pointer (some { block := X3, off := 0 }), Value.slice none 0 0, Value.pointer (some { block := XO, off := 0 }), Value.func (Fn.func 76) #[] #[Value.pointer (some { block := Y, off := 0 })], .pointer (some ⟨Bx, 0, none⟩), Value.slice (some { block := XS, off := 0 }) 0 0, vPt S, Value.func (Fn.func 76) #[] #[Value.pointer (some { block := Y, off := 0 })], Value.func (Fn.func 76) #[] #[Value.pointer (some { block := Y, off := 0 })], Value.bool false, undef, Value.func (Fn.func 76) #[] #[Value.pointer (some { block := Y, off := 0 })], ndA x.1 x.2, undef, undef, undef, undef, undef, undef, undef, undef, undef], []⟩) ?hAx ?assign ?body ?done ?stop
  case hps => exact fun _ => rfl
  case hI =>
    rintro S pre A B row ⟨h0, mm, v, h1, h2, h3⟩ hg hr
    refine ⟨h0, mm, v, h1, h2.turn hg hr (fun b o hb => .inl (hIlt b o hb)) (fun p hp b o hb => ?_), h3⟩
    rcases List.mem_append.1 hp with hp | hp
    · exact .inl (hrolt p hp b o hb)
    · simp only [List.mem_cons, List.not_mem_nil, or_false] at hp
      rcases hp with rfl | rfl
      · exact .inr (h1.isCells b o hb)
      · exact .inr (PH.one_isCells b o hb)
  case hIx =>
    rintro S cd pre A B row ⟨h0, mm, v, h1, h2, h3⟩ hg hr
    refine ⟨h0, mm, v, h1, h2.turn hg hr (fun b o hb => .inl (hIlt b o hb)) (fun p hp b o hb => ?_), h3⟩
    rcases List.mem_append.1 hp with hp | hp
    · exact .inl (hrolt p hp b o hb)
    · simp only [List.mem_cons, List.not_mem_nil, or_false] at hp
      rcases hp with rfl | rfl
      · exact .inr (h1.isCells b o hb)
      · exact .inr (PH.one_isCells b o hb)
  case start =>
    intro S W' hb hst
    refine ⟨Nat.zero_le _, _, _, OwnP.lit XS 59 5 0 #[] (by decide) rfl, hSt.below_ hb, fun p hp b hSb => ?_⟩
    cases hpb : p b with
    | none => rfl
    | some o =>
      exfalso
      rcases hst.2 b hSb with h | h
      · rcases hSt.sep p hp b with h4 | h4
        · rw [hpb] at h4; cases h4
        · exact h h4
      · have := hSt.lt hp hpb; omega
  case hAx =>
    rintro x a' s X Y' row ⟨Bx, h1, h2⟩ hg hr
    refine ⟨Bx, (hg.block Bx (Array.getElem?_eq_some_iff.1 h1).1 fun e => ?_).trans h1, h2⟩
    obtain ⟨o, ho, hc⟩ := (hr Bx e.symm).2
    rw [h1] at ho; cases ho; cases hc
  case assign =>
    intro l' S pre x suf W' K' hxs hSl hKS hi hK
    have HK := Lib.hid hK
    have Hi := Lib.hid hi
    clear hK hi
    obtain ⟨xi, xn⟩ := x
    unfold encNd ndA
    gi_wp2
    refine HK.out _ _ ((Keeps.refl S W').alloc hSl _) ⟨Hi.out.1, Hi.out.2.below ((Below.refl _ _).alloc (Nat.le_refl _) _)⟩ ⟨_, World.alloc_heap_new W' _, ?_⟩
    rfl
  case body =>
    rintro l' S9 pre x suf a' W' hxs hSl hKS ⟨hpl, mm, v, hO, hSr, hap⟩ ⟨Bx, hbx, rfl⟩
    obtain ⟨I1, hI1, hS9, hfull⟩ := hSr.full
    obtain ⟨xi, xn⟩ := x
    have hpre : pre.length < 1048577 := by have := congrArg List.length hxs; rw [List.length_append, List.length_cons] at this; omega
    have cb : ∀ j u, (ndR (xi, xn))[j]? = some u → W'.cell? ⟨Bx, j, none⟩ = some u := fun j u hj => (cell_of_row W' Bx j _ _ (0, 0) hbx).trans (by simpa using hj)
    obtain ⟨p, hp, hpb⟩ := hS9.find hfull Bx
    have hcells : Cells p Bx 0 (ndR (xi, xn)) := fun j u hj => by rw [Nat.zero_add]; exact PH.at_of_cell hpb (cb j u hj)
    have hp2 := src_perm' hp (List.perm_append_comm (l₁ := ms))
    have hS := hS9.perm (List.perm_append_comm (l₁ := ms))
    simp only [List.cons_append, List.nil_append] at hS hp2
    have q3 : I1.at X3 0 = some (nv most) := PH.at_le hI1 hIX
    have p0 : (0 : Int) ≤ (pre.length : Int) := by omega
    have p1 : (pre.length : Int) ≤ 1048577 := by omega
    obtain ⟨A0, c0, rfl, hc0⟩ := hO.shape
    have Hxs := Lib.hid hxs
    have Hfull := Lib.hid hfull
    have Hap := Lib.hid hap
    have Hpl := Lib.hid hpl
    have HSr := Lib.hid hSr
    have HI1 := Lib.hid hI1
    have Hcells := Lib.hid hcells
    have Hp := Lib.hid hp2
    clear hxs hfull hap hpl hSr hI1 hcells hp hp2 hpb cb hbx hc0 hS9 hit hSt
    by_cases hge : most ≤ pre.length
    · have HO := Lib.hid hO
      clear hO
      have hgi : (most : Int) ≤ (pre.length : Int) := by omega
      gi_wp2_with (first | ((with_reducible refine ratList ?_); first | ((with_reducible refine risLoad ?_); (first | (refine wp_k1 0 hS rfl ?ha rfl rfl rfl ?_; (case ha => first | exact ty_agg48 | exact ty_agg3)) | (refine wp_k1 1 hS rfl ?ha rfl rfl rfl ?_; (case ha => first | exact ty_agg48 | exact ty_agg3)) | ((refine' wp_i1 (v := _) hS rfl ?ha rfl ?hb ?_); (case ha => first | exact ty_agg48 | exact ty_agg3); (case hb => assumption))); (try simp only [Act.put, zE, zF, zG])) | ((with_reducible refine risStore ?_); (first | (refine wp_st1 hS 0 rfl rfl rfl rfl ?ha rfl rfl ?hb ?_; (case ha => first | exact ty_sz48 | exact ty_sz3); (case hb => (simp; done))) | (refine wp_st1 hS 1 rfl rfl rfl rfl ?ha rfl rfl ?hb ?_; (case ha => first | exact ty_sz48 | exact ty_sz3); (case hb => (simp; done)))); clear hS; intro w hS; (try simp only [zF, zG, zE, Act.eval, zD, zC, zA, zB, zJ, Value.cells] at hS); (try simp only [Act.put, zE, zF, zG])) | ((with_reducible refine risBox ?_); refine wp_bx hS rfl rfl ?_; clear hS; intro X w hS; (try simp only [Act.eval, zD, zC, zA, zB, zJ, Value.cells] at hS); (try simp only [Act.put, zE, zF, zG])) | ((with_reducible refine risAlloc ?_); (refine' wp_al (z := _) hS rfl ?ha ?_); (case ha => first | exact ty_z48 | exact ty_z3); clear hS; intro X w hS; (try simp only [Act.eval, zD, zC, zA, zB, zJ, Value.cells] at hS); (try simp only [Act.put, zE, zF, zG])) | ((with_reducible refine risBuildSlice ?_); (refine' wp_bsl hS ?hr ?_); (case hr => (intro w0; go_simp; rfl)); clear hS; intro XS w hS; (try simp only [Act.eval, zD, zC, zA, zB, zJ, Value.cells] at hS); (try simp only [Act.put, zE, zF, zG]))))
      have hpm : pre.length = most := by have := Hpl.out; omega
      have : xs.take most = pre := by rw [Hxs.out, ← hpm]; simp
      refine ⟨Keeps.refl _ _, rfl, ?_⟩
      rw [this]
      exact ⟨_, _, HO.out, HSr.out, Hap.out⟩
    · have hlt : ¬ (most : Int) ≤ (pre.length : Int) := by omega
      have hlen' : pre.length + 1 ≤ most := by omega
      have Hl := Lib.hid hlen'
      clear hge hlen'
      gi_wp2_with (first | ((with_reducible refine risLoad ?_); (refine wp_ldN (hS.src Hp.out) rfl ty_agg59 rfl Hcells.out ty_sz59 ?_); (try simp only [Act.put, zE, zF, zG])) | ((with_reducible refine risAppend ?_); (refine' wp_apP (p := _) (m := _) (v := _) (n := _) (xs := _) (news := _) hS 1 rfl (.inr (List.Mem.head _)) rfl Try.underlying48 node_info rfl (by decide) rfl ?hown rfl ?hl ?hcl ?h1 ?h63 ?hby ?_); (case hown => assumption); (case hcl => exact Cells.one _ _ _ _); (case hl => rfl); (case h1 => rfl); (case h63 => go_light; unfold maxLen; omega); (case hby => go_light; omega); clear hS hO; intro v1 m1 w hO hS; refine Veil.out ?_; obtain ⟨A1, c1, rfl, _⟩ := OwnP.shape hO; refine ⟨?_⟩; (try simp only [zF, zG] at hS); (try simp only [Act.put, zE, zF, zG])) | ((with_reducible refine ratList ?_); first | ((with_reducible refine risLoad ?_); (first | (refine wp_k1 0 hS rfl ?ha rfl rfl rfl ?_; (case ha => first | exact ty_agg48 | exact ty_agg3)) | (refine wp_k1 1 hS rfl ?ha rfl rfl rfl ?_; (case ha => first | exact ty_agg48 | exact ty_agg3)) | (refine wp_k1 2 hS rfl ?ha rfl rfl rfl ?_; (case ha => first | exact ty_agg48 | exact ty_agg3)) | ((refine' wp_i1 (v := _) hS rfl ?ha rfl ?hb ?_); (case ha => first | exact ty_agg48 | exact ty_agg3); (case hb => assumption))); (try simp only [Act.put, zE, zF, zG])) | ((with_reducible refine risStore ?_); (first | (refine wp_st1 hS 0 rfl rfl rfl rfl ?ha rfl rfl ?hb ?_; (case ha => first | exact ty_sz48 | exact ty_sz3); (case hb => (simp; done))) | (refine wp_st1 hS 1 rfl rfl rfl rfl ?ha rfl rfl ?hb ?_; (case ha => first | exact ty_sz48 | exact ty_sz3); (case hb => (simp; done))) | (refine wp_st1 hS 2 rfl rfl rfl rfl ?ha rfl rfl ?hb ?_; (case ha => first | exact ty_sz48 | exact ty_sz3); (case hb => (simp; done)))); clear hS; intro w hS; (try simp only [zF, zG, zE, Act.eval, zD, zC, zA, zB, zJ, Value.cells] at hS); (try simp only [Act.put, zE, zF, zG])) | ((with_reducible refine risBox ?_); refine wp_bx hS rfl rfl ?_; clear hS; intro X w hS; (try simp only [Act.eval, zD, zC, zA, zB, zJ, Value.cells] at hS); (try simp only [Act.put, zE, zF, zG])) | ((with_reducible refine risAlloc ?_); (refine' wp_al (z := _) hS rfl ?ha ?_); (case ha => first | exact ty_z48 | exact ty_z3); clear hS; intro X w hS; (try simp only [Act.eval, zD, zC, zA, zB, zJ, Value.cells] at hS); (try simp only [Act.put, zE, zF, zG])) | ((with_reducible refine risBuildSlice ?_); (refine' wp_bsl hS ?hr ?_); (case hr => (intro w0; go_simp; rfl)); clear hS; intro XS w hS; (try simp only [Act.eval, zD, zC, zA, zB, zJ, Value.cells] at hS); (try simp only [Act.put, zE, zF, zG]))))
      have hS2 := hS.drop.perm (List.perm_append_comm (l₁ := [m1, PH.one XO (.cells #[.slice A1 (pre.length + 1) c1] 48)]) (l₂ := ms))
      obtain ⟨hk, hap'⟩ := Sat.keeps Hfull.out hSl Hap.out (PH.le.refl _) hS2
      refine ⟨hk, by rw [List.length_append]; exact Hl.out, m1, .slice A1 (pre.length + 1) c1, ?_, (HSr.out.unbase hS2).less HI1.out, hap'⟩
      have hO2 : OwnP m1 59 5 (.slice A1 (pre.length + 1) c1) (pre.length + 1) (pre.flatMap ndR ++ ndR (xi, xn)) := hO
      rw [List.length_append, List.flatMap_append]
      simpa using hO2
  case done =>
    rintro D S9 W3 hD hSS ⟨hpl, mm, v, hO, hSr, hap⟩ hd
    have hS := hSr.perm (List.perm_append_comm (l₁ := ms))
    simp only [List.cons_append, List.nil_append] at hS
    obtain ⟨A0, c0, rfl, _⟩ := hO.shape
    have HO := Lib.hid hO
    have HSr := Lib.hid hSr
    clear hO hSr hap
    go_wp2_with (first | ((with_reducible refine atList ?_); first | ((with_reducible refine isLoad ?_); (first | (refine ld1 0 hS rfl rfl ?ha rfl rfl rfl ?_; (case ha => exact ty_agg48)) | (refine ld1 1 hS rfl rfl ?ha rfl rfl rfl ?_; (case ha => exact ty_agg48)) | ((refine' ldI1 (v := _) hS rfl rfl ?ha rfl ?hb ?_); (case ha => exact ty_agg48); (case hb => assumption))); (try simp only [Act.put, zE, zF, zG])) | ((with_reducible refine isStore ?_); (first | (refine st1 0 hS rfl rfl rfl rfl rfl ?ha rfl rfl ?hb ?_; (case ha => exact ty_sz48); (case hb => (simp; done))) | (refine st1 1 hS rfl rfl rfl rfl rfl ?ha rfl rfl ?hb ?_; (case ha => exact ty_sz48); (case hb => (simp; done)))); clear hS; intro w hS; (try simp only [zF, zG, zE, Act.eval, zD, zC, zA, zB, zJ, Value.cells] at hS); (try simp only [Act.put, zE, zF, zG])) | ((with_reducible refine isBox ?_); refine bx hS rfl rfl rfl ?_; clear hS; intro X w hS; (try simp only [Act.eval, zD, zC, zA, zB, zJ, Value.cells] at hS); (try simp only [Act.put, zE, zF, zG])) | ((with_reducible refine isAlloc ?_); (refine' al (z := _) hS rfl rfl ?ha ?_); (case ha => exact ty_z48); clear hS; intro X w hS; (try simp only [Act.eval, zD, zC, zA, zB, zJ, Value.cells] at hS); (try simp only [Act.put, zE, zF, zG]))))
    have hT : Sat E J2 (ms ++ [mm, PH.one XO (.cells #[.slice A0 xs.length c0] 48)]) (W3.putObj D (.deferred none)) := by
      refine HSr.out.turn (B := w1.heap.size) (grownBy_putObj' W3 D _) (fun r e => by cases e; exact ⟨hD, _, hd, rfl⟩) (fun b o hb => .inl (hIlt b o hb)) (fun p hp b o hb => ?_)
      rcases List.mem_append.1 hp with hp | hp
      · exact .inl (hrolt p hp b o hb)
      · simp only [List.mem_cons, List.not_mem_nil, or_false] at hp
        rcases hp with rfl | rfl
        · exact .inr (HO.out.isCells b o hb)
        · exact .inr (PH.one_isCells b o hb)
    have hF := (hT.perm (List.perm_append_comm (l₁ := ms)))
    have hG := Hback.out _ _ (hF.sub (List.Sublist.cons_cons mm (List.Sublist.cons _ (List.Sublist.refl ms))))
    clear hF hT hS
    refine ⟨by simp, .inl ⟨_, _, rfl, run_takeDeferred hd, ?_⟩⟩
    refine ⟨_, (results_tmp Try.results25 _ _ _), _, mm, rfl, ?_, hG⟩
    rw [hxl]
    rw [List.take_of_length_le hpl]
    exact HO.out
  case stop =>
    rintro D S9 cd pre W3 hD hSS hpre ⟨rfl, mm, v, hO, hSr, hap⟩ hd
    have hS := hSr.perm (List.perm_append_comm (l₁ := ms))
    simp only [List.cons_append, List.nil_append] at hS
    generalize htk : xs.take most = tk at *
    obtain ⟨A0, c0, rfl, _⟩ := hO.shape
    have HO := Lib.hid hO
    have HSr := Lib.hid hSr
    clear hO hSr hap
    refine wpIn_wide.2 ?_
    go_wp2_with (first | ((with_reducible refine atList ?_); first | ((with_reducible refine isLoad ?_); (first | (refine ld1 0 hS rfl rfl ?ha rfl rfl rfl ?_; (case ha => exact ty_agg48)) | (refine ld1 1 hS rfl rfl ?ha rfl rfl rfl ?_; (case ha => exact ty_agg48)) | ((refine' ldI1 (v := _) hS rfl rfl ?ha rfl ?hb ?_); (case ha => exact ty_agg48); (case hb => assumption))); (try simp only [Act.put, zE, zF, zG])) | ((with_reducible refine isStore ?_); (first | (refine st1 0 hS rfl rfl rfl rfl rfl ?ha rfl rfl ?hb ?_; (case ha => exact ty_sz48); (case hb => (simp; done))) | (refine st1 1 hS rfl rfl rfl rfl rfl ?ha rfl rfl ?hb ?_; (case ha => exact ty_sz48); (case hb => (simp; done)))); clear hS; intro w hS; (try simp only [zF, zG, zE, Act.eval, zD, zC, zA, zB, zJ, Value.cells] at hS); (try simp only [Act.put, zE, zF, zG])) | ((with_reducible refine isBox ?_); refine bx hS rfl rfl rfl ?_; clear hS; intro X w hS; (try simp only [Act.eval, zD, zC, zA, zB, zJ, Value.cells] at hS); (try simp only [Act.put, zE, zF, zG])) | ((with_reducible refine isAlloc ?_); (refine' al (z := _) hS rfl rfl ?ha ?_); (case ha => exact ty_z48); clear hS; intro X w hS; (try simp only [Act.eval, zD, zC, zA, zB, zJ, Value.cells] at hS); (try simp only [Act.put, zE, zF, zG]))))
    have hT : Sat E J2 (ms ++ [mm, PH.one XO (.cells #[.slice A0 tk.length c0] 48)]) (W3.putObj D (.deferred none)) := by
      refine HSr.out.turn (B := w1.heap.size) (grownBy_putObj' W3 D _) (fun r e => by cases e; exact ⟨hD, _, hd, rfl⟩) (fun b o hb => .inl (hIlt b o hb)) (fun p hp b o hb => ?_)
      rcases List.mem_append.1 hp with hp | hp
      · exact .inl (hrolt p hp b o hb)
      · simp only [List.mem_cons, List.not_mem_nil, or_false] at hp
        rcases hp with rfl | rfl
        · exact .inr (HO.out.isCells b o hb)
        · exact .inr (PH.one_isCells b o hb)
    have hF := (hT.perm (List.perm_append_comm (l₁ := ms)))
    have hG := Hback.out _ _ (hF.sub (List.Sublist.cons_cons mm (List.Sublist.cons _ (List.Sublist.refl ms))))
    clear hF hT hS
    refine ⟨by simp, .inl ⟨_, _, rfl, run_takeDeferred hd, ?_⟩⟩
    refine ⟨_, (results_tmp Try.results25 _ _ _), _, mm, rfl, ?_, hG⟩
    rw [hxl, htk]
    skip
    exact HO.out

set_option maxRecDepth 100000 in
set_option maxHeartbeats 4000000 in
theorem nilall_any {E w : World} {I : PH} {ms : List PH} (most : Nat) (hmo : most ≤ 1000000) (hS : Sat E I ms w) :
    Calls Try.prog 25 #[.pointer none, nv most] w fun e w' => ∃ v mo, e = .returned v ∧ OwnP mo 59 5 v ((([] : List (Nat × G.Nd))).take most).length (((([] : List (Nat × G.Nd))).take most).flatMap ndR) ∧ Sat E I (mo :: ms) w' := by
  refine (callsIn_wide (n := 0)).1 ?_
  refine callsIn_of_wp_marks (n := 0) Try.func25 rfl trivial ?_ rfl
  simp only [Try.ntmps25, List.size_toArray, List.length_cons, List.length_nil, Nat.reduceAdd, Nat.reduceSub, Array.replicate_succ, Array.replicate_zero, List.push_toArray, List.append_toArray, List.nil_append, List.cons_append]
  refine wpIn_wide.2 ?_
  have hnf : ∀ (W : World) (a : Array Value), (binOp BinOp.eql 84 (Value.func (Fn.func 71) #[] a) Value.nilFunc).run Try.prog W = .ok (.bool false) W := fun _ _ => by kernel_rfl
  go_wp2_with (first | (go_at_call 46; (with_reducible refine Calls.mono (nil_each _) ?_); rintro e w1 ⟨rfl, rfl⟩) | ((with_reducible refine isBuildSlice ?_); (refine' bsl hS ?hr ?_); (case hr => (intro w0; go_simp; rfl)); clear hS; intro XS w hS; (try simp only [zF, zG, zE, Act.eval, zD, zC, zA, zB, zJ, Value.cells] at hS); (try simp only [Act.put, zE, zF, zG])) | ((with_reducible refine atList ?_); first | ((with_reducible refine isBoxD 3 ?_); refine bx hS rfl rfl rfl ?_; clear hS; intro X3 w hS; (try simp only [Act.eval, zD, zC, zA, zB, zJ, Value.cells] at hS); (try simp only [Act.put, zE, zF, zG])) | ((with_reducible refine isAllocD 3 ?_); (refine' al (z := _) hS rfl rfl ?ha ?_); (case ha => exact ty_z48); clear hS; intro X3 w hS; (try simp only [Act.eval, zD, zC, zA, zB, zJ, Value.cells] at hS); (try simp only [Act.put, zE, zF, zG])) | ((with_reducible refine isBoxD 5 ?_); refine bx hS rfl rfl rfl ?_; clear hS; intro XO w hS; (try simp only [Act.eval, zD, zC, zA, zB, zJ, Value.cells] at hS); (try simp only [Act.put, zE, zF, zG])) | ((with_reducible refine isAllocD 5 ?_); (refine' al (z := _) hS rfl rfl ?ha ?_); (case ha => exact ty_z48); clear hS; intro XO w hS; (try simp only [Act.eval, zD, zC, zA, zB, zJ, Value.cells] at hS); (try simp only [Act.put, zE, zF, zG])) | ((with_reducible refine isLoad ?_); (first | (refine ld1 0 hS rfl rfl ?ha rfl rfl rfl ?_; (case ha => first | exact ty_agg48 | exact ty_agg3)) | (refine ld1 1 hS rfl rfl ?ha rfl rfl rfl ?_; (case ha => first | exact ty_agg48 | exact ty_agg3)) | (refine ld1 2 hS rfl rfl ?ha rfl rfl rfl ?_; (case ha => first | exact ty_agg48 | exact ty_agg3)) | ((refine' ldI1 (v := _) hS rfl rfl ?ha rfl ?hb ?_); (case ha => first | exact ty_agg48 | exact ty_agg3); (case hb => assumption))); (try simp only [Act.put, zE, zF, zG])) | ((with_reducible refine isStore ?_); (first | (refine st1 0 hS rfl rfl rfl rfl rfl ?ha rfl rfl ?hb ?_; (case ha => exact ty_sz48); (case hb => (simp; done))) | (refine st1 1 hS rfl rfl rfl rfl rfl ?ha rfl rfl ?hb ?_; (case ha => exact ty_sz48); (case hb => (simp; done))) | (refine st1 2 hS rfl rfl rfl rfl rfl ?ha rfl rfl ?hb ?_; (case ha => exact ty_sz48); (case hb => (simp; done)))); clear hS; intro w hS; (try simp only [zF, zG, zE, Act.eval, zD, zC, zA, zB, zJ, Value.cells] at hS); (try simp only [Act.put, zE, zF, zG])) | ((with_reducible refine isBox ?_); refine bx hS rfl rfl rfl ?_; clear hS; intro X w hS; (try simp only [Act.eval, zD, zC, zA, zB, zJ, Value.cells] at hS); (try simp only [Act.put, zE, zF, zG])) | ((with_reducible refine isAlloc ?_); (refine' al (z := _) hS rfl rfl ?ha ?_); (case ha => exact ty_z48); clear hS; intro X w hS; (try simp only [Act.eval, zD, zC, zA, zB, zJ, Value.cells] at hS); (try simp only [Act.put, zE, zF, zG]))))
  have hS1 : Sat E I (PH.one X3 (.cells #[nv most] 3) :: PH.one XO (.cells #[.slice (some ⟨XS, 0, none⟩) 0 0] 48) :: PH.one XS (.cells #[] 59) :: ms) w := hS.perm (List.perm_middle (l₁ := [_, _]) (a := PH.one X3 (.cells #[nv most] 3)))
  clear hS
  obtain ⟨J2, l2, lX3, hS2, bX3⟩ := hS1.ice
  have hIX : J2.at X3 0 = some (nv most) := PH.at_le lX3 (at_one rfl)
  have hle := l2
  have hback : ∀ ns w', Sat E J2 ns w' → Sat E I ns w' := fun ns w' h => (bX3 _ _ h).drop
  have Hback := Lib.hid hback
  have hSt : Sat E J2 (ms ++ [PH.one XS (.cells #[] 59), PH.one XO (.cells #[.slice (some ⟨XS, 0, none⟩) 0 0] 48)]) w := hS2.perm ((List.Perm.swap _ _ _).trans (List.perm_append_comm (l₁ := [_, _])))
  have hit := nil_iter w (K := Kof J2)
  generalize hw1 : w = w1 at *
  have hIlt : ∀ b o, J2 b = some o → b < w1.heap.size := fun b o hb => hSt.ilt hb
  have hrolt : ∀ p ∈ ms, ∀ b o, p b = some o → b < w1.heap.size := fun p hp b o hb => hSt.lt (List.mem_append_left _ hp) hb
  have hal : ([] : List (Nat × G.Nd)).length ≤ 1048577 := by decide
  clear hS1 hS2 bX3 l2 lX3 hle hback
  refine (wpIn_wide (n := 0)).1 ?_
  refine rangeFunc_law (K := Kof J2) (gf := 71) (lb := #[]) (w0 := w1) rfl (enters_of Try.func71 (by kernel_rfl) rfl)
    hit (Keeps.refl _ _) (fun b hb => Kof.lt hSt.ile hb) ?hps
    (fun S pre W' => pre.length ≤ most ∧ AD E J2 ms XO pre S W')
    (fun S cd _ W' => cd = .exit 0 ∧ AD E J2 ms XO (([] : List (Nat × G.Nd)).take most) S W') ?hI ?hIx ?start
    (fun x a' W' => ∃ Bx, W'.heap[Bx]? = some (.cells (ndR x).toArray 59) ∧ a' = ⟨#[.pointer none, nv most, undef, Value.pointer (some { block := X3, off := 0 }), Value.slice none 0 0, Value.pointer (some { block := XO, off := 0 }), Value.func (Fn.func 71) #[] #[], .pointer (some ⟨Bx, 0, none⟩), Value.slice (some { block := XS, off := 0 }) 0 0, .pointer none, Value.func (Fn.func 71) #[] #[], Value.func (Fn.func 71) #[] #[], Value.bool false, undef, Value.func (Fn.func 71) #[] #[], ndA x.1 x.2, undef, undef, undef, undef, undef, undef, undef, undef, undef], []⟩) ?hAx ?assign ?body ?done ?stop
  case hps => exact fun _ => rfl
  case hI =>
    rintro S pre A B row ⟨h0, mm, v, h1, h2, h3⟩ hg hr
    refine ⟨h0, mm, v, h1, h2.turn hg hr (fun b o hb => .inl (hIlt b o hb)) (fun p hp b o hb => ?_), h3⟩
    rcases List.mem_append.1 hp with hp | hp
    · exact .inl (hrolt p hp b o hb)
    · simp only [List.mem_cons, List.not_mem_nil, or_false] at hp
      rcases hp with rfl | rfl
      · exact .inr (h1.isCells b o hb)
      · exact .inr (PH.one_isCells b o hb)
  case hIx =>
    rintro S cd pre A B row ⟨h0, mm, v, h1, h2, h3⟩ hg hr
    refine ⟨h0, mm, v, h1, h2.turn hg hr (fun b o hb => .inl (hIlt b o hb)) (fun p hp b o hb => ?_), h3⟩
    rcases List.mem_append.1 hp with hp | hp
    · exact .inl (hrolt p hp b o hb)
    · simp only [List.mem_cons, List.not_mem_nil, or_false] at hp
      rcases hp with rfl | rfl
      · exact .inr (h1.isCells b o hb)
      · exact .inr (PH.one_isCells b o hb)
  case start =>
    intro S W' hb hst
    refine ⟨Nat.zero_le _, _, _, OwnP.lit XS 59 5 0 #[] (by decide) rfl, hSt.below_ hb, fun p hp b hSb => ?_⟩
    cases hpb : p b with
    | none => rfl
    | some o =>
      exfalso
      rcases hst.2 b hSb with h | h
      · rcases hSt.sep p hp b with h4 | h4
        · rw [hpb] at h4; cases h4
        · exact h h4
      · have := hSt.lt hp hpb; omega
  case hAx =>
    rintro x a' s X Y' row ⟨Bx, h1, h2⟩ hg hr
    refine ⟨Bx, (hg.block Bx (Array.getElem?_eq_some_iff.1 h1).1 fun e => ?_).trans h1, h2⟩
    obtain ⟨o, ho, hc⟩ := (hr Bx e.symm).2
    rw [h1] at ho; cases ho; cases hc
  case assign =>
    intro l' S pre x suf W' K' hxs hSl hKS hi hK
    have HK := Lib.hid hK
    have Hi := Lib.hid hi
    clear hK hi
    obtain ⟨xi, xn⟩ := x
    unfold encNd ndA
    gi_wp2
    refine HK.out _ _ ((Keeps.refl S W').alloc hSl _) ⟨Hi.out.1, Hi.out.2.below ((Below.refl _ _).alloc (Nat.le_refl _) _)⟩ ⟨_, World.alloc_heap_new W' _, ?_⟩
    rfl
  case body =>
    rintro l' S9 pre x suf a' W' hxs hSl hKS ⟨hpl, mm, v, hO, hSr, hap⟩ ⟨Bx, hbx, rfl⟩
    obtain ⟨I1, hI1, hS9, hfull⟩ := hSr.full
    obtain ⟨xi, xn⟩ := x
    have hpre : pre.length < 1048577 := by have := congrArg List.length hxs; rw [List.length_append, List.length_cons] at this; omega
    have cb : ∀ j u, (ndR (xi, xn))[j]? = some u → W'.cell? ⟨Bx, j, none⟩ = some u := fun j u hj => (cell_of_row W' Bx j _ _ (0, 0) hbx).trans (by simpa using hj)
    obtain ⟨p, hp, hpb⟩ := hS9.find hfull Bx
    have hcells : Cells p Bx 0 (ndR (xi, xn)) := fun j u hj => by rw [Nat.zero_add]; exact PH.at_of_cell hpb (cb j u hj)
    have hp2 := src_perm' hp (List.perm_append_comm (l₁ := ms))
    have hS := hS9.perm (List.perm_append_comm (l₁ := ms))
    simp only [List.cons_append, List.nil_append] at hS hp2
    have q3 : I1.at X3 0 = some (nv most) := PH.at_le hI1 hIX
    have p0 : (0 : Int) ≤ (pre.length : Int) := by omega
    have p1 : (pre.length : Int) ≤ 1048577 := by omega
    obtain ⟨A0, c0, rfl, hc0⟩ := hO.shape
    have Hxs := Lib.hid hxs
    have Hfull := Lib.hid hfull
    have Hap := Lib.hid hap
    have Hpl := Lib.hid hpl
    have HSr := Lib.hid hSr
    have HI1 := Lib.hid hI1
    have Hcells := Lib.hid hcells
    have Hp := Lib.hid hp2
    clear hxs hfull hap hpl hSr hI1 hcells hp hp2 hpb cb hbx hc0 hS9 hit hSt
    by_cases hge : most ≤ pre.length
    · have HO := Lib.hid hO
      clear hO
      have hgi : (most : Int) ≤ (pre.length : Int) := by omega
      gi_wp2_with (first | ((with_reducible refine ratList ?_); first | ((with_reducible refine risLoad ?_); (first | (refine wp_k1 0 hS rfl ?ha rfl rfl rfl ?_; (case ha => first | exact ty_agg48 | exact ty_agg3)) | (refine wp_k1 1 hS rfl ?ha rfl rfl rfl ?_; (case ha => first | exact ty_agg48 | exact ty_agg3)) | ((refine' wp_i1 (v := _) hS rfl ?ha rfl ?hb ?_); (case ha => first | exact ty_agg48 | exact ty_agg3); (case hb => assumption))); (try simp only [Act.put, zE, zF, zG])) | ((with_reducible refine risStore ?_); (first | (refine wp_st1 hS 0 rfl rfl rfl rfl ?ha rfl rfl ?hb ?_; (case ha => first | exact ty_sz48 | exact ty_sz3); (case hb => (simp; done))) | (refine wp_st1 hS 1 rfl rfl rfl rfl ?ha rfl rfl ?hb ?_; (case ha => first | exact ty_sz48 | exact ty_sz3); (case hb => (simp; done)))); clear hS; intro w hS; (try simp only [zF, zG, zE, Act.eval, zD, zC, zA, zB, zJ, Value.cells] at hS); (try simp only [Act.put, zE, zF, zG])) | ((with_reducible refine risBox ?_); refine wp_bx hS rfl rfl ?_; clear hS; intro X w hS; (try simp only [Act.eval, zD, zC, zA, zB, zJ, Value.cells] at hS); (try simp only [Act.put, zE, zF, zG])) | ((with_reducible refine risAlloc ?_); (refine' wp_al (z := _) hS rfl ?ha ?_); (case ha => first | exact ty_z48 | exact ty_z3); clear hS; intro X w hS; (try simp only [Act.eval, zD, zC, zA, zB, zJ, Value.cells] at hS); (try simp only [Act.put, zE, zF, zG])) | ((with_reducible refine risBuildSlice ?_); (refine' wp_bsl hS ?hr ?_); (case hr => (intro w0; go_simp; rfl)); clear hS; intro XS w hS; (try simp only [Act.eval, zD, zC, zA, zB, zJ, Value.cells] at hS); (try simp only [Act.put, zE, zF, zG]))))
      have hpm : pre.length = most := by have := Hpl.out; omega
      have : ([] : List (Nat × G.Nd)).take most = pre := by rw [Hxs.out, ← hpm]; simp
      refine ⟨Keeps.refl _ _, rfl, ?_⟩
      rw [this]
      exact ⟨_, _, HO.out, HSr.out, Hap.out⟩
    · have hlt : ¬ (most : Int) ≤ (pre.length : Int) := by omega
      have hlen' : pre.length + 1 ≤ most := by omega
      have Hl := Lib.hid hlen'
      clear hge hlen'
      gi_wp2_with (first | ((with_reducible refine risLoad ?_); (refine wp_ldN (hS.src Hp.out) rfl ty_agg59 rfl Hcells.out ty_sz59 ?_); (try simp only [Act.put, zE, zF, zG])) | ((with_reducible refine risAppend ?_); (refine' wp_apP (p := _) (m := _) (v := _) (n := _) (xs := _) (news := _) hS 1 rfl (.inr (List.Mem.head _)) rfl Try.underlying48 node_info rfl (by decide) rfl ?hown rfl ?hl ?hcl ?h1 ?h63 ?hby ?_); (case hown => assumption); (case hcl => exact Cells.one _ _ _ _); (case hl => rfl); (case h1 => rfl); (case h63 => go_light; unfold maxLen; omega); (case hby => go_light; omega); clear hS hO; intro v1 m1 w hO hS; refine Veil.out ?_; obtain ⟨A1, c1, rfl, _⟩ := OwnP.shape hO; refine ⟨?_⟩; (try simp only [zF, zG] at hS); (try simp only [Act.put, zE, zF, zG])) | ((with_reducible refine ratList ?_); first | ((with_reducible refine risLoad ?_); (first | (refine wp_k1 0 hS rfl ?ha rfl rfl rfl ?_; (case ha => first | exact ty_agg48 | exact ty_agg3)) | (refine wp_k1 1 hS rfl ?ha rfl rfl rfl ?_; (case ha => first | exact ty_agg48 | exact ty_agg3)) | (refine wp_k1 2 hS rfl ?ha rfl rfl rfl ?_; (case ha => first | exact ty_agg48 | exact ty_agg3)) | ((refine' wp_i1 (v := _) hS rfl ?ha rfl ?hb ?_); (case ha => first | exact ty_agg48 | exact ty_agg3); (case hb => assumption))); (try simp only [Act.put, zE, zF, zG])) | ((with_reducible refine risStore ?_); (first | (refine wp_st1 hS 0 rfl rfl rfl rfl ?ha rfl rfl ?hb ?_; (case ha => first | exact ty_sz48 | exact ty_sz3); (case hb => (simp; done))) | (refine wp_st1 hS 1 rfl rfl rfl rfl ?ha rfl rfl ?hb ?_; (case ha => first | exact ty_sz48 | exact ty_sz3); (case hb => (simp; done))) | (refine wp_st1 hS 2 rfl rfl rfl rfl ?ha rfl rfl ?hb ?_; (case ha => first | exact ty_sz48 | exact ty_sz3); (case hb => (simp; done)))); clear hS; intro w hS; (try simp only [zF, zG, zE, Act.eval, zD, zC, zA, zB, zJ, Value.cells] at hS); (try simp only [Act.put, zE, zF, zG])) | ((with_reducible refine risBox ?_); refine wp_bx hS rfl rfl ?_; clear hS; intro X w hS; (try simp only [Act.eval, zD, zC, zA, zB, zJ, Value.cells] at hS); (try simp only [Act.put, zE, zF, zG])) | ((with_reducible refine risAlloc ?_); (refine' wp_al (z := _) hS rfl ?ha ?_); (case ha => first | exact ty_z48 | exact ty_z3); clear hS; intro X w hS; (try simp only [Act.eval, zD, zC, zA, zB, zJ, Value.cells] at hS); (try simp only [Act.put, zE, zF, zG])) | ((with_reducible refine risBuildSlice ?_); (refine' wp_bsl hS ?hr ?_); (case hr => (intro w0; go_simp; rfl)); clear hS; intro XS w hS; (try simp only [Act.eval, zD, zC, zA, zB, zJ, Value.cells] at hS); (try simp only [Act.put, zE, zF, zG]))))
      have hS2 := hS.drop.perm (List.perm_append_comm (l₁ := [m1, PH.one XO (.cells #[.slice A1 (pre.length + 1) c1] 48)]) (l₂ := ms))
      obtain ⟨hk, hap'⟩ := Sat.keeps Hfull.out hSl Hap.out (PH.le.refl _) hS2
      refine ⟨hk, by rw [List.length_append]; exact Hl.out, m1, .slice A1 (pre.length + 1) c1, ?_, (HSr.out.unbase hS2).less HI1.out, hap'⟩
      have hO2 : OwnP m1 59 5 (.slice A1 (pre.length + 1) c1) (pre.length + 1) (pre.flatMap ndR ++ ndR (xi, xn)) := hO
      rw [List.length_append, List.flatMap_append]
      simpa using hO2
  case done =>
    rintro D S9 W3 hD hSS ⟨hpl, mm, v, hO, hSr, hap⟩ hd
    have hS := hSr.perm (List.perm_append_comm (l₁ := ms))
    simp only [List.cons_append, List.nil_append] at hS
    obtain ⟨A0, c0, rfl, _⟩ := hO.shape
    have HO := Lib.hid hO
    have HSr := Lib.hid hSr
    clear hO hSr hap
    go_wp2_with (first | ((with_reducible refine atList ?_); first | ((with_reducible refine isLoad ?_); (first | (refine ld1 0 hS rfl rfl ?ha rfl rfl rfl ?_; (case ha => exact ty_agg48)) | (refine ld1 1 hS rfl rfl ?ha rfl rfl rfl ?_; (case ha => exact ty_agg48)) | ((refine' ldI1 (v := _) hS rfl rfl ?ha rfl ?hb ?_); (case ha => exact ty_agg48); (case hb => assumption))); (try simp only [Act.put, zE, zF, zG])) | ((with_reducible refine isStore ?_); (first | (refine st1 0 hS rfl rfl rfl rfl rfl ?ha rfl rfl ?hb ?_; (case ha => exact ty_sz48); (case hb => (simp; done))) | (refine st1 1 hS rfl rfl rfl rfl rfl ?ha rfl rfl ?hb ?_; (case ha => exact ty_sz48); (case hb => (simp; done)))); clear hS; intro w hS; (try simp only [zF, zG, zE, Act.eval, zD, zC, zA, zB, zJ, Value.cells] at hS); (try simp only [Act.put, zE, zF, zG])) | ((with_reducible refine isBox ?_); refine bx hS rfl rfl rfl ?_; clear hS; intro X w hS; (try simp only [Act.eval, zD, zC, zA, zB, zJ, Value.cells] at hS); (try simp only [Act.put, zE, zF, zG])) | ((with_reducible refine isAlloc ?_); (refine' al (z := _) hS rfl rfl ?ha ?_); (case ha => exact ty_z48); clear hS; intro X w hS; (try simp only [Act.eval, zD, zC, zA, zB, zJ, Value.cells] at hS); (try simp only [Act.put, zE, zF, zG]))))
    have hT : Sat E J2 (ms ++ [mm, PH.one XO (.cells #[.slice A0 ([] : List (Nat × G.Nd)).length c0] 48)]) (W3.putObj D (.deferred none)) := by
      refine HSr.out.turn (B := w1.heap.size) (grownBy_putObj' W3 D _) (fun r e => by cases e; exact ⟨hD, _, hd, rfl⟩) (fun b o hb => .inl (hIlt b o hb)) (fun p hp b o hb => ?_)
      rcases List.mem_append.1 hp with hp | hp
      · exact .inl (hrolt p hp b o hb)
      · simp only [List.mem_cons, List.not_mem_nil, or_false] at hp
        rcases hp with rfl | rfl
        · exact .inr (HO.out.isCells b o hb)
        · exact .inr (PH.one_isCells b o hb)
    have hF := (hT.perm (List.perm_append_comm (l₁ := ms)))
    have hG := Hback.out _ _ (hF.sub (List.Sublist.cons_cons mm (List.Sublist.cons _ (List.Sublist.refl ms))))
    clear hF hT hS
    refine ⟨by simp, .inl ⟨_, _, rfl, run_takeDeferred hd, ?_⟩⟩
    refine ⟨_, (results_tmp Try.results25 _ _ _), _, mm, rfl, ?_, hG⟩
    skip
    rw [List.take_of_length_le hpl]
    exact HO.out
  case stop =>
    rintro D S9 cd pre W3 hD hSS hpre ⟨rfl, mm, v, hO, hSr, hap⟩ hd
    have hS := hSr.perm (List.perm_append_comm (l₁ := ms))
    simp only [List.cons_append, List.nil_append] at hS
    generalize htk : ([] : List (Nat × G.Nd)).take most = tk at *
    obtain ⟨A0, c0, rfl, _⟩ := hO.shape
    have HO := Lib.hid hO
    have HSr := Lib.hid hSr
    clear hO hSr hap
    refine wpIn_wide.2 ?_
    go_wp2_with (first | ((with_reducible refine atList ?_); first | ((with_reducible refine isLoad ?_); (first | (refine ld1 0 hS rfl rfl ?ha rfl rfl rfl ?_; (case ha => exact ty_agg48)) | (refine ld1 1 hS rfl rfl ?ha rfl rfl rfl ?_; (case ha => exact ty_agg48)) | ((refine' ldI1 (v := _) hS rfl rfl ?ha rfl ?hb ?_); (case ha => exact ty_agg48); (case hb => assumption))); (try simp only [Act.put, zE, zF, zG])) | ((with_reducible refine isStore ?_); (first | (refine st1 0 hS rfl rfl rfl rfl rfl ?ha rfl rfl ?hb ?_; (case ha => exact ty_sz48); (case hb => (simp; done))) | (refine st1 1 hS rfl rfl rfl rfl rfl ?ha rfl rfl ?hb ?_; (case ha => exact ty_sz48); (case hb => (simp; done)))); clear hS; intro w hS; (try simp only [zF, zG, zE, Act.eval, zD, zC, zA, zB, zJ, Value.cells] at hS); (try simp only [Act.put, zE, zF, zG])) | ((with_reducible refine isBox ?_); refine bx hS rfl rfl rfl ?_; clear hS; intro X w hS; (try simp only [Act.eval, zD, zC, zA, zB, zJ, Value.cells] at hS); (try simp only [Act.put, zE, zF, zG])) | ((with_reducible refine isAlloc ?_); (refine' al (z := _) hS rfl rfl ?ha ?_); (case ha => exact ty_z48); clear hS; intro X w hS; (try simp only [Act.eval, zD, zC, zA, zB, zJ, Value.cells] at hS); (try simp only [Act.put, zE, zF, zG]))))
    have hT : Sat E J2 (ms ++ [mm, PH.one XO (.cells #[.slice A0 tk.length c0] 48)]) (W3.putObj D (.deferred none)) := by
      refine HSr.out.turn (B := w1.heap.size) (grownBy_putObj' W3 D _) (fun r e => by cases e; exact ⟨hD, _, hd, rfl⟩) (fun b o hb => .inl (hIlt b o hb)) (fun p hp b o hb => ?_)
      rcases List.mem_append.1 hp with hp | hp
      · exact .inl (hrolt p hp b o hb)
      · simp only [List.mem_cons, List.not_mem_nil, or_false] at hp
        rcases hp with rfl | rfl
        · exact .inr (HO.out.isCells b o hb)
        · exact .inr (PH.one_isCells b o hb)
    have hF := (hT.perm (List.perm_append_comm (l₁ := ms)))
    have hG := Hback.out _ _ (hF.sub (List.Sublist.cons_cons mm (List.Sublist.cons _ (List.Sublist.refl ms))))
    clear hF hT hS
    refine ⟨by simp, .inl ⟨_, _, rfl, run_takeDeferred hd, ?_⟩⟩
    refine ⟨_, (results_tmp Try.results25 _ _ _), _, mm, rfl, ?_, hG⟩
    skip
    rw [htk]
    exact HO.out
end Go.Proofs.Ytdhkkkhnjooioaa
