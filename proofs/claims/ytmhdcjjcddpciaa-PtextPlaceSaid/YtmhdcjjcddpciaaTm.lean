/- ptext: the reader's expr, a bracket: its regions. -/
import Derived.Test.YtmhdcjjcddpciaaTl
import Derived.Test.YtmhdcjjcddpciaaSk
namespace Go.Proofs.Ytmhdcjjcddpciaa
set_option linter.unusedSimpArgs false
set_option linter.unusedVariables false
open Go.RowKit
theorem index_sign (c : Nat) (hc : c < 256) (h : signOp (some c) ≠ 0) : Lib.indexByte (⟨#[32, 32, 32, 32, 33, 38, 124, 94, 62, 61, 63]⟩ : ByteArray).data.toList ((c : Int)).toNat.toUInt8 = signOp (some c) := by
  by_cases h1 : c = 33 ∨ c = 38 ∨ c = 124 ∨ c = 94 ∨ c = 62 ∨ c = 61 ∨ c = 63
  · rcases h1 with rfl | rfl | rfl | rfl | rfl | rfl | rfl <;> decide
  · exfalso
    apply h
    simp only [not_or] at h1
    obtain ⟨h1, h2, h3, h4, h5, h6, h7⟩ := h1
    unfold signOp
    split <;> simp_all
theorem hasB_signs (o : Option Nat) : hasB (lst ⟨#[33, 38, 124, 94, 62, 61, 63]⟩) o = decide (signOp o ≠ 0) := by
  rw [show lst ⟨#[33, 38, 124, 94, 62, 61, 63]⟩ = [33, 38, 124, 94, 62, 61, 63] by decide]
  cases o with
  | none => rfl
  | some c =>
    by_cases h : c = 33 ∨ c = 38 ∨ c = 124 ∨ c = 94 ∨ c = 62 ∨ c = 61 ∨ c = 63
    · rcases h with rfl | rfl | rfl | rfl | rfl | rfl | rfl <;> decide
    · simp only [not_or] at h
      obtain ⟨h1, h2, h3, h4, h5, h6, h7⟩ := h
      have e : signOp (some c) = 0 := by
        unfold signOp
        split <;> simp_all
      rw [e]
      simp [hasB, h1, h2, h3, h4, h5, h6, h7]
theorem wp_bsl {P : Program} {a : Act} {w E : World} {K : Act → World → Prop} {Q : Exit → Act → World → Prop} {I : PH} {ms : List PH} {dst : Option Tmp} {type : TypeId} {pos : String} {after : Array Edge} {g : Option (Nat × Bool)} {T : TypeId} {n : Nat} {parts : Array (Nat × Operand)}
    (hS : Sat E I ms w) {cs : Array Value} {e : TypeId} (hr : ∀ w : World, (Instr.buildSlice T n (parts.map fun (i, x) => (i, a.eval x))).run P w = .ok (.slice (some ⟨w.heap.size, 0, none⟩) n n) (w.alloc (.cells cs e)))
    (h : ∀ X w', Sat E I (PH.one X (.cells cs e) :: ms) w' → K (a.put dst (.slice (some ⟨X, 0, none⟩) n n)) w') : Oper.wp P ⟨dst, .buildSlice T n parts, type, pos, after, g⟩ a w K Q := by
  unfold Oper.wp execOp
  simp only [Sem.run_bind, hr, Result.andThen_ok, Sem.run_pure]
  exact h _ _ (hS.alloc _)
theorem wp_bslK {P : Program} {a : Act} {w E : World} {K : Act → World → Prop} {Q : Exit → Act → World → Prop} {I : PH} {ms : List PH} {dst : Option Tmp} {type : TypeId} {pos : String} {after : Array Edge} {g : Option (Nat × Bool)} {T : TypeId} {n : Nat} {parts : Array (Nat × Operand)}
    (hS : Sat E I ms w) {cs : Array Value} {e : TypeId} (hr : ∀ w : World, (Instr.buildSlice T n (parts.map fun (i, x) => (i, a.eval x))).run P w = .ok (.slice (some ⟨w.heap.size, 0, none⟩) n n) (w.alloc (.cells cs e)))
    (h : ∀ X J w', I.le J → Cells J X 0 cs.toList → Sat E J ms w' → K (a.put dst (.slice (some ⟨X, 0, none⟩) n n)) w') : Oper.wp P ⟨dst, .buildSlice T n parts, type, pos, after, g⟩ a w K Q :=
  wp_bsl hS hr fun X w' hS' => by
    obtain ⟨J, hJ, hX, hS2⟩ := hS'.frz
    exact h X J w' hJ ((Cells.one X cs e (0, 0)).le hX) hS2
set_option maxHeartbeats 2000000 in
set_option maxRecDepth 100000 in
/-- A further operand, where its reading fails. -/
theorem kids_none (E : World) (J2 m : PH) (ms : List PH) (R XE XG : Nat) (s : ByteArray) (b b' : Nat) (op : Int) (A : Option Addr) (c : Nat) (ts : List Tr) (w : World) (Q : Exit → Act → World → Prop) (x1 x2 x4 x5 x6 x7 x8 x9 x10 x11 x12 x13 x14 x15 x16 x17 x18 x19 x20 x21 x22 x23 x24 x25 x26 x27 x28 x29 x30 x31 x32 x33 x34 x35 x36 x37 x38 x39 x40 x41 x42 x43 x44 x45 x46 x47 x48 x49 x50 x51 x52 x53 x54 x55 x56 x57 x58 x59 x60 x61 x62 x63 x64 x65 x66 x67 x68 x69 x70 x71 x72 x73 x74 x75 x76 : Value) (dfs : List Deferred)
    (hS : Sat E J2 (PH.one R (.cells #[.string s, .int .i64 ((b : Int) + 1)] 44) :: m :: PH.one XE (.cells #[.int .i64 op, .int .i64 0, .slice A ts.length c] 25) :: PH.one XG (.cells #[.int .i64 0, .int .i64 0, .slice none 0 0] 25) :: ms) w)
    (RCN : Hid (∀ (J' : PH) (ms' : List PH) w', Sat E J' (rd R s ((b : Int) + 1) :: ms') w' → Calls Try.prog 15 #[.pointer (some ⟨R, 0, none⟩)] w' fun e w' => e = .panicked [{ v := .iface 41 (.int .i64 (b' : Int)), recovered := false }] ∧ ∃ J2, J'.le J2 ∧ Sat E J2 (rd R s (b' : Int) :: ms') w'))
    (hq : ∀ (a' : Act) w' (J' : PH), a'.defers = dfs → J2.le J' → Sat E J' (rd R s (b' : Int) :: m :: PH.one XE (.cells #[.int .i64 op, .int .i64 0, .slice A ts.length c] 25) :: PH.one XG (.cells #[.int .i64 0, .int .i64 0, .slice none 0 0] 25) :: ms) w' → Q (.panic [{ v := .iface 41 (.int .i64 (b' : Int)), recovered := false }]) a' w') :
    (Code.region 17 (opsOf Try.f15 17).toArray true).wp Try.prog Q ⟨#[.pointer (some ⟨R, 0, none⟩), x1, x2, .pointer (some ⟨XE, 0, none⟩), x4, x5, x6, x7, x8, x9, x10, x11, x12, x13, x14, x15, x16, x17, x18, x19, x20, x21, x22, x23, x24, x25, x26, x27, x28, x29, x30, x31, x32, x33, x34, x35, x36, x37, x38, x39, x40, x41, x42, x43, x44, x45, x46, x47, x48, x49, x50, x51, x52, x53, x54, x55, x56, x57, x58, x59, x60, x61, x62, x63, x64, x65, x66, x67, x68, x69, x70, x71, x72, x73, x74, x75, x76], dfs⟩ w := by
  have hl : opsOf Try.f15 17 = opsOf Try.f15 17 := rfl
  conv at hl => rhs; simp [opsOf, Try.f15, regionIn]
  rw [hl]
  clear hl
  have HMX := Lib.hid (show PH.one XE (.cells #[.int .i64 op, .int .i64 0, .slice A ts.length c] 25) ∈ ([] ++ (PH.one R (.cells #[.string s, .int .i64 ((b : Int) + 1)] 44) :: m :: PH.one XE (.cells #[.int .i64 op, .int .i64 0, .slice A ts.length c] 25) :: PH.one XG (.cells #[.int .i64 0, .int .i64 0, .slice none 0 0] 25) :: ms)) from by simp)
  refine region_ogZ (fun ch w' => ch = [{ v := .iface 41 (.int .i64 (b' : Int)), recovered := false }] ∧ ∃ J', J2.le J' ∧ Sat E J' (rd R s (b' : Int) :: m :: PH.one XE (.cells #[.int .i64 op, .int .i64 0, .slice A ts.length c] 25) :: PH.one XG (.cells #[.int .i64 0, .int .i64 0, .slice none 0 0] 25) :: ms) w') [[], [0], [], [2], [2, 3], [0, 1, 2, 3, 4], [0, 1, 2, 3, 4, 5], [0, 1, 2, 3, 4, 5, 6]] E J2 [] _ (Facts [fun v _ => v = .pointer (some ⟨XE, 2, none⟩), fun v _ => v = .slice A ts.length c, fun v _ => v = .pointer (some ⟨R, 0, none⟩), fun _ _ => False, fun _ _ => True, fun _ _ => True, fun _ _ => True, fun _ _ => True]) (fun _ _ _ ns => ns = PH.one R (.cells #[.string s, .int .i64 ((b : Int) + 1)] 44) :: m :: PH.one XE (.cells #[.int .i64 op, .int .i64 0, .slice A ts.length c] 25) :: PH.one XG (.cells #[.int .i64 0, .int .i64 0, .slice none 0 0] 25) :: ms) (by kernel_rfl) (by kernel_rfl) hS rfl ?mono ?step ?hZ ?fin
  case mono =>
    refine fun i v I J hJ => Facts.lasting ?_ i v I J hJ
    repeat (first | exact Lasting.nil | refine Lasting.cons (fun _ _ _ _ h => h) ?_)
  case step =>
    intro i hi L vals J ns w' hLi hdown hanc hJ hS hns
    subst hns
    have hi8 : i = 0 ∨ i = 1 ∨ i = 2 ∨ i = 3 ∨ 4 ≤ i := by omega
    rcases hi8 with rfl | rfl | rfl | rfl | hi4
    · simp only [textL, actL, dstAt, opAt, List.getD_cons_succ, List.getD_cons_zero, List.getElem?_cons_succ, List.getElem?_cons_zero, Option.bind_some, if_true, Act.put, List.setIfInBounds_toArray, List.set_cons_succ, List.set_cons_zero]; refine wpStepZ_of (fun K hK => ?_); have HK := Lib.hid hK; clear hK; rw [if_pos (by rfl)]
      go_wp2_with fail
      refine HK.out _ _ ⟨rfl, J, _, PH.le.refl _, hS, ?_, rfl⟩
      simp only [Facts, outOf, List.getD_cons_succ, List.getD_cons_zero, Act.put, List.setIfInBounds_toArray, List.set_cons_succ, List.set_cons_zero, Array.getD_eq_getD_getElem?, List.getElem?_toArray, List.getElem?_cons_succ, List.getElem?_cons_zero, Option.getD_some]
    · have h0 := (hanc 0 (by decide)).2
      simp only [Facts, List.getD_cons_succ, List.getD_cons_zero] at h0
      simp only [textL, actL, dstAt, opAt, List.getD_cons_succ, List.getD_cons_zero, List.getElem?_cons_succ, List.getElem?_cons_zero, Option.bind_some, if_true, Act.put, List.setIfInBounds_toArray, List.set_cons_succ, List.set_cons_zero, h0]; refine wpStepZ_of (fun K hK => ?_); have HK := Lib.hid hK; clear hK; rw [if_pos (by rfl)]
      (with_reducible refine atLoad ?_)
      refine wp_ldo1 hS HMX.out ty_agg23 rfl rfl ?_
      refine HK.out _ _ ⟨rfl, J, _, PH.le.refl _, hS, ?_, rfl⟩
      simp only [Facts, outOf, List.getD_cons_succ, List.getD_cons_zero, Act.put, List.setIfInBounds_toArray, List.set_cons_succ, List.set_cons_zero, Array.getD_eq_getD_getElem?, List.getElem?_toArray, List.getElem?_cons_succ, List.getElem?_cons_zero, Option.getD_some]
    · simp only [textL, actL, dstAt, opAt, List.getD_cons_succ, List.getD_cons_zero, List.getElem?_cons_succ, List.getElem?_cons_zero, Option.bind_some, if_true, Act.put, List.setIfInBounds_toArray, List.set_cons_succ, List.set_cons_zero]; refine wpStepZ_of (fun K hK => ?_); have HK := Lib.hid hK; clear hK; rw [if_pos (by rfl)]
      go_wp2_with fail
      refine HK.out _ _ ⟨rfl, J, _, PH.le.refl _, hS, ?_, rfl⟩
      simp only [Facts, outOf, List.getD_cons_succ, List.getD_cons_zero, Act.put, List.setIfInBounds_toArray, List.set_cons_succ, List.set_cons_zero, Array.getD_eq_getD_getElem?, List.getElem?_toArray, List.getElem?_cons_succ, List.getElem?_cons_zero, Option.getD_some]
    · have h2 := (hanc 2 (by decide)).2
      simp only [Facts, List.getD_cons_succ, List.getD_cons_zero] at h2
      simp only [textL, actL, dstAt, opAt, List.getD_cons_succ, List.getD_cons_zero, List.getElem?_cons_succ, List.getElem?_cons_zero, Option.bind_some, if_true, Act.put, List.setIfInBounds_toArray, List.set_cons_succ, List.set_cons_zero, h2]; refine wpStepZ_of (fun K hK => ?_); have HK := Lib.hid hK; clear hK; rw [if_pos (by rfl)]
      go_wp2_with (first | (go_at_call 15; (refine Calls.mono (RCN.out _ _ _ hS) ?_); clear hS; rintro e w ⟨rfl, J3, hJ3, hS⟩))
      exact ⟨rfl, J3, hJ.trans hJ3, hS⟩
    · have hf : False := by
        have h4 : i = 4 ∨ i = 5 ∨ i = 6 ∨ i = 7 := by simp at hi; omega
        rcases h4 with rfl | rfl | rfl | rfl <;> exact (hanc 3 (by decide)).2
      cases hf
  case hZ =>
    rintro c' a' w' hd ⟨rfl, J', hJ', hS'⟩
    exact hq a' w' J' hd hJ' hS'
  case fin =>
    intro vals J ns w' hJ hD hS hL
    have hf : False := hD 3 (by decide)
    cases hf
set_option maxHeartbeats 4000000 in
set_option maxRecDepth 100000 in
/-- A further operand, where it is read: it is appended. -/
theorem kids_some (E : World) (J2 m : PH) (ms : List PH) (R XE XG : Nat) (s : ByteArray) (b b' : Nat) (op : Int) (A : Option Addr) (c : Nat) (ts : List Tr) (pt : PT) (w : World) (Q : Exit → Act → World → Prop) (x1 x2 x4 x5 x6 x7 x8 x9 x10 x11 x12 x13 x14 x15 x16 x17 x18 x19 x20 x21 x22 x23 x24 x25 x26 x27 x28 x29 x30 x31 x32 x33 x34 x35 x36 x37 x38 x39 x40 x41 x42 x43 x44 x45 x46 x47 x48 x49 x50 x51 x52 x53 x54 x55 x56 x57 x58 x59 x60 x61 x62 x63 x64 x65 x66 x67 x68 x69 x70 x71 x72 x73 x74 x75 x76 : Value) (dfs : List Deferred)
    (htb : ts.length ≤ b) (hb66 : (b : Int) ≤ 66000) (HO : Hid (OwnP m 25 3 (.slice A ts.length c) ts.length (ts.flatMap Tr.cells)))
    (hS : Sat E J2 (PH.one R (.cells #[.string s, .int .i64 ((b : Int) + 1)] 44) :: m :: PH.one XE (.cells #[.int .i64 op, .int .i64 0, .slice A ts.length c] 25) :: PH.one XG (.cells #[.int .i64 0, .int .i64 0, .slice none 0 0] 25) :: ms) w)
    (RCN : Hid (∀ (J' : PH) (ms' : List PH) w', Sat E J' (rd R s ((b : Int) + 1) :: ms') w' → Calls Try.prog 15 #[.pointer (some ⟨R, 0, none⟩)] w' fun e w' => ∃ (t : Tr) (J2 : PH), e = .returned (.agg #[.int .i64 t.op, .int .i64 t.var, .slice t.A t.kids.length t.cap]) ∧ J'.le J2 ∧ In J2 t ∧ t.pure = pt ∧ Sat E J2 (rd R s (b' : Int) :: ms') w'))
    (hq : ∀ (vals : Nat → Value) w' (J mR : PH) (t : Tr) (A' : Option Addr) (c' : Nat), vals 0 = .pointer (some ⟨XE, 2, none⟩) → vals 1 = .slice A ts.length c → vals 2 = .pointer (some ⟨R, 0, none⟩) → vals 5 = .slice A' (ts.length + 1) c' → vals 6 = .pointer (some ⟨XE, 2, none⟩) → J2.le J → In J t → t.pure = pt →
      OwnP mR 25 3 (.slice A' (ts.length + 1) c') (ts.length + 1) (ts.flatMap Tr.cells ++ t.cells) →
      Sat E J (rd R s (b' : Int) :: mR :: PH.one XE (.cells #[.int .i64 op, .int .i64 0, .slice A' (ts.length + 1) c'] 25) :: PH.one XG (.cells #[.int .i64 0, .int .i64 0, .slice none 0 0] 25) :: ms) w' →
      Q .normal (textL (opsOf Try.f15 17) vals ⟨#[.pointer (some ⟨R, 0, none⟩), x1, x2, .pointer (some ⟨XE, 0, none⟩), x4, x5, x6, x7, x8, x9, x10, x11, x12, x13, x14, x15, x16, x17, x18, x19, x20, x21, x22, x23, x24, x25, x26, x27, x28, x29, x30, x31, x32, x33, x34, x35, x36, x37, x38, x39, x40, x41, x42, x43, x44, x45, x46, x47, x48, x49, x50, x51, x52, x53, x54, x55, x56, x57, x58, x59, x60, x61, x62, x63, x64, x65, x66, x67, x68, x69, x70, x71, x72, x73, x74, x75, x76], dfs⟩ 8) w') :
    (Code.region 17 (opsOf Try.f15 17).toArray true).wp Try.prog Q ⟨#[.pointer (some ⟨R, 0, none⟩), x1, x2, .pointer (some ⟨XE, 0, none⟩), x4, x5, x6, x7, x8, x9, x10, x11, x12, x13, x14, x15, x16, x17, x18, x19, x20, x21, x22, x23, x24, x25, x26, x27, x28, x29, x30, x31, x32, x33, x34, x35, x36, x37, x38, x39, x40, x41, x42, x43, x44, x45, x46, x47, x48, x49, x50, x51, x52, x53, x54, x55, x56, x57, x58, x59, x60, x61, x62, x63, x64, x65, x66, x67, x68, x69, x70, x71, x72, x73, x74, x75, x76], dfs⟩ w := by
  have hl : opsOf Try.f15 17 = opsOf Try.f15 17 := rfl
  conv at hl => rhs; simp [opsOf, Try.f15, regionIn]
  rw [hl] at hq ⊢
  clear hl
  refine region_ogZ (fun _ _ => False) [[], [0], [], [2], [2, 3], [0, 1, 2, 3, 4], [0, 1, 2, 3, 4, 5], [0, 1, 2, 3, 4, 5, 6]] E J2 [] _ (Facts [fun v _ => v = .pointer (some ⟨XE, 2, none⟩), fun v _ => v = .slice A ts.length c, fun v _ => v = .pointer (some ⟨R, 0, none⟩), fun v J => ∃ t, v = .agg #[.int .i64 t.op, .int .i64 t.var, .slice t.A t.kids.length t.cap] ∧ In J t ∧ t.pure = pt, fun v J => ∃ t X', v = .slice (some ⟨X', 0, none⟩) 1 1 ∧ Cells J X' 0 t.cells ∧ In J t ∧ t.pure = pt, fun v _ => ∃ A' c', v = .slice A' (ts.length + 1) c', fun v _ => v = .pointer (some ⟨XE, 2, none⟩), fun _ _ => True]) (fun L vals J ns => ∃ mR : PH, ns = PH.one R (.cells #[.string s, .int .i64 (if L 3 = true then (b' : Int) else (b : Int) + 1)] 44) :: mR :: PH.one XE (.cells #[.int .i64 op, .int .i64 0, if L 7 = true then vals 5 else .slice A ts.length c] 25) :: PH.one XG (.cells #[.int .i64 0, .int .i64 0, .slice none 0 0] 25) :: ms ∧ (if L 5 = true then ∃ t, In J t ∧ t.pure = pt ∧ OwnP mR 25 3 (vals 5) (ts.length + 1) (ts.flatMap Tr.cells ++ t.cells) else OwnP mR 25 3 (.slice A ts.length c) ts.length (ts.flatMap Tr.cells))) (by kernel_rfl) (by kernel_rfl) hS ⟨m, by simp, by simpa using HO.out⟩ ?mono ?step (fun _ _ _ _ h => h.elim) ?fin
  case mono =>
    refine fun i v I J hJ => Facts.lasting ?_ i v I J hJ
    repeat (first | exact Lasting.nil | refine Lasting.cons (fun _ _ _ _ h => h) ?_ | refine Lasting.cons (fun _ _ _ hJ ⟨t, h1, h2, h3⟩ => ⟨t, h1, h2.le hJ, h3⟩) ?_ | refine Lasting.cons (fun _ _ _ hJ ⟨t, X', h1, h2, h3, h4⟩ => ⟨t, X', h1, h2.le hJ, h3.le hJ, h4⟩) ?_)
  case step =>
    intro i hi L vals J ns w' hLi hdown hanc hJ hS hns
    obtain ⟨mR, rfl, hR⟩ := hns
    have hi8 : i = 0 ∨ i = 1 ∨ i = 2 ∨ i = 3 ∨ i = 4 ∨ i = 5 ∨ i = 6 ∨ i = 7 := by simp at hi; omega
    rcases hi8 with rfl | rfl | rfl | rfl | rfl | rfl | rfl | rfl
    · simp only [textL, actL, dstAt, opAt, List.getD_cons_succ, List.getD_cons_zero, List.getElem?_cons_succ, List.getElem?_cons_zero, Option.bind_some, if_true, Act.put, List.setIfInBounds_toArray, List.set_cons_succ, List.set_cons_zero]; refine wpStepZ_of (fun K hK => ?_); have HK1 := Lib.hid hK; clear hK; rw [if_pos (by rfl)]
      go_wp2_with fail
      refine HK1.out _ _ ⟨rfl, J, _, PH.le.refl _, hS, ?_, ?_⟩
      · simp only [Facts, outOf, List.getD_cons_succ, List.getD_cons_zero, Act.put, List.setIfInBounds_toArray, List.set_cons_succ, List.set_cons_zero, Array.getD_eq_getD_getElem?, List.getElem?_toArray, List.getElem?_cons_succ, List.getElem?_cons_zero, Option.getD_some]
      · exact ⟨mR, by simp [upd], by simpa [upd] using hR⟩
    · have h0 := (hanc 0 (by decide)).2
      simp only [Facts, List.getD_cons_succ, List.getD_cons_zero] at h0
      have l7 : L 7 = false := by
        cases h : L 7 with
        | false => rfl
        | true => have := hdown 7 (by decide) h 1 (by decide); rw [hLi] at this; cases this
      rw [l7] at hS
      simp only [Bool.false_eq_true, if_false] at hS
      simp only [textL, actL, dstAt, opAt, List.getD_cons_succ, List.getD_cons_zero, List.getElem?_cons_succ, List.getElem?_cons_zero, Option.bind_some, if_true, Act.put, List.setIfInBounds_toArray, List.set_cons_succ, List.set_cons_zero, h0]; refine wpStepZ_of (fun K hK => ?_); have HK1 := Lib.hid hK; clear hK; rw [if_pos (by rfl)]
      (with_reducible refine atLoad ?_)
      refine wp_ldo1 (X := XE) (c := #[.int .i64 op, .int .i64 0, .slice A ts.length c]) hS (List.mem_of_getElem? (i := 2) rfl) ty_agg23 rfl rfl ?_
      refine HK1.out _ _ ⟨rfl, J, _, PH.le.refl _, hS, ?_, ?_⟩
      · simp only [Facts, outOf, List.getD_cons_succ, List.getD_cons_zero, Act.put, List.setIfInBounds_toArray, List.set_cons_succ, List.set_cons_zero, Array.getD_eq_getD_getElem?, List.getElem?_toArray, List.getElem?_cons_succ, List.getElem?_cons_zero, Option.getD_some]
      · exact ⟨mR, by simp [upd, l7], by simpa [upd] using hR⟩
    · simp only [textL, actL, dstAt, opAt, List.getD_cons_succ, List.getD_cons_zero, List.getElem?_cons_succ, List.getElem?_cons_zero, Option.bind_some, if_true, Act.put, List.setIfInBounds_toArray, List.set_cons_succ, List.set_cons_zero]; refine wpStepZ_of (fun K hK => ?_); have HK1 := Lib.hid hK; clear hK; rw [if_pos (by rfl)]
      go_wp2_with fail
      refine HK1.out _ _ ⟨rfl, J, _, PH.le.refl _, hS, ?_, ?_⟩
      · simp only [Facts, outOf, List.getD_cons_succ, List.getD_cons_zero, Act.put, List.setIfInBounds_toArray, List.set_cons_succ, List.set_cons_zero, Array.getD_eq_getD_getElem?, List.getElem?_toArray, List.getElem?_cons_succ, List.getElem?_cons_zero, Option.getD_some]
      · exact ⟨mR, by simp [upd], by simpa [upd] using hR⟩
    · have h2 := (hanc 2 (by decide)).2
      simp only [Facts, List.getD_cons_succ, List.getD_cons_zero] at h2
      have l4 : L 4 = false := by
        cases h : L 4 with
        | false => rfl
        | true => have := hdown 4 (by decide) h 3 (by decide); rw [hLi] at this; cases this
      have l5 : L 5 = false := by
        cases h : L 5 with
        | false => rfl
        | true => have := hdown 5 (by decide) h 3 (by decide); rw [hLi] at this; cases this
      have l7 : L 7 = false := by
        cases h : L 7 with
        | false => rfl
        | true => have := hdown 7 (by decide) h 3 (by decide); rw [hLi] at this; cases this
      rw [hLi] at hS
      simp only [l7, Bool.false_eq_true, if_false, List.nil_append] at hS
      simp only [l5, Bool.false_eq_true, if_false] at hR
      simp only [textL, actL, dstAt, opAt, List.getD_cons_succ, List.getD_cons_zero, List.getElem?_cons_succ, List.getElem?_cons_zero, Option.bind_some, if_true, Act.put, List.setIfInBounds_toArray, List.set_cons_succ, List.set_cons_zero, h2]; refine wpStepZ_of (fun K hK => ?_); have HK1 := Lib.hid hK; clear hK; rw [if_pos (by rfl)]
      go_wp2_with (first | (go_at_call 15; (refine Calls.mono (RCN.out _ _ _ hS) ?_); clear hS; rintro e w ⟨t, J3, rfl, hJ3, htin, htp, hS⟩))
      refine HK1.out _ _ ⟨rfl, J3, _, hJ3, hS, ?_, ?_⟩
      · simp only [Facts, outOf, List.getD_cons_succ, List.getD_cons_zero, Act.put, List.setIfInBounds_toArray, List.set_cons_succ, List.set_cons_zero, Array.getD_eq_getD_getElem?, List.getElem?_toArray, List.getElem?_cons_succ, List.getElem?_cons_zero, Option.getD_some]
        exact ⟨t, rfl, htin, htp⟩
      · exact ⟨mR, by simp [upd, l7, rd], by simpa [upd, l5] using hR⟩
    · have l5 : L 5 = false := by
        cases h : L 5 with
        | false => rfl
        | true => have := hdown 5 (by decide) h 4 (by decide); rw [hLi] at this; cases this
      have l7 : L 7 = false := by
        cases h : L 7 with
        | false => rfl
        | true => have := hdown 7 (by decide) h 4 (by decide); rw [hLi] at this; cases this
      refine Veil0.out ?_
      obtain ⟨t, h3, hti, htp⟩ : ∃ t : Tr, vals 3 = .agg #[.int .i64 t.op, .int .i64 t.var, .slice t.A t.kids.length t.cap] ∧ In J t ∧ t.pure = pt := (hanc 3 (by decide)).2
      refine ⟨?_⟩
      simp only [l5, Bool.false_eq_true, if_false] at hR
      simp only [textL, actL, dstAt, opAt, List.getD_cons_succ, List.getD_cons_zero, List.getElem?_cons_succ, List.getElem?_cons_zero, Option.bind_some, if_true, Act.put, List.setIfInBounds_toArray, List.set_cons_succ, List.set_cons_zero, h3]; refine wpStepZ_of (fun K hK => ?_); have HK1 := Lib.hid hK; clear hK; rw [if_pos (by rfl)]
      (refine' wp_bslK hS ?hr ?_); (case hr => (intro w0; go_simp; try rfl))
      clear hS
      intro X' J3 w hJ3 hX hS
      refine HK1.out _ _ ⟨rfl, J3, _, hJ3, hS, ?_, ?_⟩
      · simp only [Facts, outOf, List.getD_cons_succ, List.getD_cons_zero, Act.put, List.setIfInBounds_toArray, List.set_cons_succ, List.set_cons_zero, Array.getD_eq_getD_getElem?, List.getElem?_toArray, List.getElem?_cons_succ, List.getElem?_cons_zero, Option.getD_some]
        exact ⟨t, X', rfl, hX, hti.le hJ3, htp⟩
      · exact ⟨mR, by simp [upd], by simpa [upd, l5] using hR⟩
    · have l7 : L 7 = false := by
        cases h : L 7 with
        | false => rfl
        | true => have := hdown 7 (by decide) h 5 (by decide); rw [hLi] at this; cases this
      refine Veil0.out ?_
      obtain ⟨t, X', h4, hX, hti, htp⟩ : ∃ (t : Tr) (X' : Nat), vals 4 = .slice (some ⟨X', 0, none⟩) 1 1 ∧ Cells J X' 0 t.cells ∧ In J t ∧ t.pure = pt := (hanc 4 (by decide)).2
      refine ⟨?_⟩
      have h1 : vals 1 = .slice A ts.length c := (hanc 1 (by decide)).2
      simp only [hLi, Bool.false_eq_true, if_false] at hR
      simp only [textL, actL, dstAt, opAt, List.getD_cons_succ, List.getD_cons_zero, List.getElem?_cons_succ, List.getElem?_cons_zero, Option.bind_some, if_true, Act.put, List.setIfInBounds_toArray, List.set_cons_succ, List.set_cons_zero, h1, h4]; refine wpStepZ_of (fun K hK => ?_); have HK1 := Lib.hid hK; clear hK; rw [if_pos (by rfl)]
      (refine' wp_apP (p := _) (m := _) (v := _) (n := _) (xs := _) (news := _) hS 1 rfl (.inl (PH.le.refl _)) rfl Try.underlying23 expr_info rfl (by decide) rfl hR rfl ?hl hX ?h1 ?h63 ?hby ?_)
      (case hl => rfl)
      (case h1 => rfl)
      (case h63 => (have := htb; unfold maxLen; omega))
      (case hby => (have := htb; omega))
      clear hS
      intro v1 m1 w hO2 hS
      obtain ⟨A', c', rfl, hc'⟩ := hO2.shape
      refine HK1.out _ _ ⟨rfl, J, _, PH.le.refl _, hS, ?_, ?_⟩
      · simp only [Facts, outOf, List.getD_cons_succ, List.getD_cons_zero, Act.put, List.setIfInBounds_toArray, List.set_cons_succ, List.set_cons_zero, Array.getD_eq_getD_getElem?, List.getElem?_toArray, List.getElem?_cons_succ, List.getElem?_cons_zero, Option.getD_some]
        exact ⟨A', c', rfl⟩
      · refine ⟨m1, by simp [upd, l7], ?_⟩
        rw [upd_self, if_pos rfl, upd_self]
        exact ⟨t, hti, htp, hO2⟩
    · simp only [textL, actL, dstAt, opAt, List.getD_cons_succ, List.getD_cons_zero, List.getElem?_cons_succ, List.getElem?_cons_zero, Option.bind_some, if_true, Act.put, List.setIfInBounds_toArray, List.set_cons_succ, List.set_cons_zero]; refine wpStepZ_of (fun K hK => ?_); have HK1 := Lib.hid hK; clear hK; rw [if_pos (by rfl)]
      go_wp2_with fail
      refine HK1.out _ _ ⟨rfl, J, _, PH.le.refl _, hS, ?_, ?_⟩
      · simp only [Facts, outOf, List.getD_cons_succ, List.getD_cons_zero, Act.put, List.setIfInBounds_toArray, List.set_cons_succ, List.set_cons_zero, Array.getD_eq_getD_getElem?, List.getElem?_toArray, List.getElem?_cons_succ, List.getElem?_cons_zero, Option.getD_some]
      · exact ⟨mR, by simp [upd], by simpa [upd] using hR⟩
    · refine Veil0.out ?_
      obtain ⟨A', c', h5⟩ : ∃ A' c', vals 5 = .slice A' (ts.length + 1) c' := (hanc 5 (by decide)).2
      refine ⟨?_⟩
      have h6 : vals 6 = .pointer (some ⟨XE, 2, none⟩) := (hanc 6 (by decide)).2
      simp only [hLi, Bool.false_eq_true, if_false] at hS
      simp only [textL, actL, dstAt, opAt, List.getD_cons_succ, List.getD_cons_zero, List.getElem?_cons_succ, List.getElem?_cons_zero, Option.bind_some, if_true, Act.put, List.setIfInBounds_toArray, List.set_cons_succ, List.set_cons_zero, h5, h6]; refine wpStepZ_of (fun K hK => ?_); have HK1 := Lib.hid hK; clear hK; rw [if_pos (by rfl)]
      (refine' wp_st1 (v := .slice A' (ts.length + 1) c') hS 2 rfl rfl rfl rfl ty_sz23 rfl rfl ?hlt ?_)
      (case hlt => simp)
      clear hS
      intro w hS
      refine HK1.out _ _ ⟨rfl, J, _, PH.le.refl _, hS, ?_, ?_⟩
      · simp only [Facts, outOf, List.getD_cons_succ, List.getD_cons_zero, Act.put, List.setIfInBounds_toArray, List.set_cons_succ, List.set_cons_zero, Array.getD_eq_getD_getElem?, List.getElem?_toArray, List.getElem?_cons_succ, List.getElem?_cons_zero, Option.getD_some]
      · exact ⟨mR, by simp [upd, h5], by simpa [upd] using hR⟩
  case fin =>
    intro vals J ns w hJ hD hS hL
    obtain ⟨L, hL, mR, rfl, hR⟩ := hL
    have h0 : vals 0 = .pointer (some ⟨XE, 2, none⟩) := hD 0 (by decide)
    have h1 : vals 1 = .slice A ts.length c := hD 1 (by decide)
    have h2 : vals 2 = .pointer (some ⟨R, 0, none⟩) := hD 2 (by decide)
    obtain ⟨A', c', h5⟩ : ∃ A' c', vals 5 = .slice A' (ts.length + 1) c' := hD 5 (by decide)
    have h6 : vals 6 = .pointer (some ⟨XE, 2, none⟩) := hD 6 (by decide)
    simp only [hL 3 (by decide), hL 7 (by decide), hL 5 (by decide), if_true, h5, List.nil_append] at hS hR
    obtain ⟨t, hti, htp, hO2⟩ := hR
    exact hq vals w J mR t A' c' h0 h1 h2 h5 h6 hJ hti htp hO2 hS
end Go.Proofs.Ytmhdcjjcddpciaa
