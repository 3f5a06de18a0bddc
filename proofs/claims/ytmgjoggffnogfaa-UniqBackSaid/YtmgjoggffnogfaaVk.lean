/- The law's told: the entries that Each hands over, at most so many. -/
import Derived.Test.YtmgjoggffnogfaaVj
import Derived.Test.YtmgjoggffnogfaaSm
namespace Go.Proofs.Ytmgjoggffnogfaa
set_option linter.unusedSimpArgs false
set_option linter.unusedVariables false
open Go.ChangeShapes Go.WideShapes Go.ChangeAt Go.RowKit Go.Lib Go.Sort
set_option linter.unusedVariables false
attribute [local go_sem] Oper.semAt_some
attribute [local go_sem ↓] wpIn_at_zero wpIn_at_succ
theorem ty_agg26 : aggB Try.prog 26 = some false := by kernel_rfl
theorem ty_sz26 : sizeB Try.prog 26 = some 1 := by kernel_rfl
theorem ty_z26 : zeroB Try.prog 26 = some (.slice none 0 0) := by kernel_rfl
theorem ty_agg38 : aggB Try.prog 38 = some true := by kernel_rfl
theorem ty_sz38 : sizeB Try.prog 38 = some 3 := by kernel_rfl
theorem ty_z38 : zeroB Try.prog 38 = some (.agg #[.int .i64 0, .int .i64 0, .int .i64 0]) := by kernel_rfl
theorem einfo : (Try.prog.info? 38).map (fun i => (i.zero, i.size, i.bytes)) = some (some (.agg #[.int .i64 0, .int .i64 0, .int .i64 0]), 3, 24) := by kernel_rfl
theorem Sat.thaw {E w : World} {I m : PH} {ms : List PH} (h : Sat E (I.join m) ms w) (ho : I.off m) : Sat E I (m :: ms) w := by
  refine ⟨h.os, h.tape, h.output, fun b o hb => h.imm b o (PH.le_join I m b o hb), fun p hp => ?_, fun p hp b => ?_, List.pairwise_cons.2 ⟨fun p hp b => ?_, h.dis⟩, h.size⟩
  · rcases List.mem_cons.1 hp with rfl | hp
    · exact fun b o hb => h.imm b o (PH.le_join_right ho b o hb)
    · exact h.own p hp
  · rcases List.mem_cons.1 hp with rfl | hp
    · exact (ho b).symm
    · rcases h.sep p hp b with h1 | h1
      · exact .inl h1
      · refine .inr ?_
        cases hI : I b with
        | none => rfl
        | some o => rw [PH.le_join I m b o hI] at h1; cases h1
  · rcases h.sep p hp b with h1 | h1
    · exact .inr h1
    · refine .inl ?_
      cases hI : m b with
      | none => rfl
      | some o => rw [PH.le_join_right ho b o hI] at h1; cases h1
theorem each_any (w : World) (p : Option Addr) :
    Calls Try.prog 20 #[.pointer p] w fun e w' => e = .returned (.func (.func 22) #[] #[.pointer (some ⟨w.heap.size, 0, none⟩)]) ∧ w' = w.alloc (.cells #[.pointer p] 23) := by
  go_enter Try.func20, Try.ntmps20
  go_wp2
  go_ret
  exact ⟨rfl, rfl⟩
/-- An entry's cells. -/
def encN (es : List En) (k : Int × Int) : List Value := [.int .i64 k.1, .int .i64 k.2, .int .i64 (idE es k)]
theorem encN_len (es : List En) (x : Int × Int) : (encN es x).length = 3 := rfl
/-- What is known between two rounds: the row of results, its variable. -/
def TD (es : List En) (E : World) (I : PH) (ro : List PH) (XO : Nat) (xs : List (Int × Int)) (S : Nat → Prop) (W : World) : Prop :=
  ∃ (mm : PH) (v : Value), OwnP mm 38 3 v xs.length (xs.flatMap (encN es)) ∧ Sat E I (ro ++ [mm, PH.one XO (.cells #[v] 26)]) W ∧ ∀ p ∈ ro ++ [mm, PH.one XO (.cells #[v] 26)], ∀ b, S b → p b = none
theorem TD.below {es : List En} {E : World} {I : PH} {ro : List PH} {XO : Nat} {xs : List (Int × Int)} {S : Nat → Prop} {W W' : World} (h : TD es E I ro XO xs S W) (hb : Below W.heap.size W W') : TD es E I ro XO xs S W' := by
  obtain ⟨mm, v, h1, h2, h3⟩ := h
  exact ⟨mm, v, h1, h2.below_ hb, h3⟩
theorem TD.snoc {es : List En} {E : World} {I I1 : PH} {ro : List PH} {XO : Nat} {xs : List (Int × Int)} {S : Nat → Prop} {W W' : World} {x : Int × Int} {mm m1 : PH} {v v1 : Value} (hSr : Sat E I (ro ++ [mm, PH.one XO (.cells #[v] 26)]) W) (hI1 : I.le I1)
    (hO : OwnP m1 38 3 v1 (xs.length + 1) (xs.flatMap (encN es) ++ encN es x)) (hS : Sat W I1 (ro ++ [m1, PH.one XO (.cells #[v1] 26)]) W') (hap : ∀ p ∈ ro ++ [m1, PH.one XO (.cells #[v1] 26)], ∀ b, S b → p b = none) : TD es E I ro XO (xs ++ [x]) S W' :=
  ⟨m1, v1, by rw [List.length_append, List.flatMap_append]; simpa using hO, (hSr.unbase hS).less hI1, hap⟩
theorem src_perm' {I : PH} {ms ns : List PH} {p : PH} (h : Src I ms p) (hp : ms.Perm ns) : Src I ns p := h.of fun _ hm => hp.mem_iff.1 hm
set_option maxHeartbeats 2000000 in
theorem told_in (E w : World) (I : PH) (ms : List PH) (g M : Nat) (es : List En) (c : Nat) (most : Int) (hok : MapOk (rows es) c) (hlen : es.length ≤ 100000) (hg : I g = some (.cells #[.map (some M)] 50 (0, 0))) (hM : I M = some (mapObj ekey (rows es) c)) (hS : Sat E I ms w) :
    Calls Try.prog 13 #[.pointer (some ⟨g, 0, none⟩), .int .i64 most] w fun e w' => ∃ v mo, e = .returned (.tuple #[v, .bool true]) ∧ OwnP mo 38 3 v ((srtE es).take most.toNat).length (((srtE es).take most.toNat).flatMap (encN es)) ∧ Sat E I (mo :: ms) w' := by
  refine (callsIn_wide (n := 0)).1 ?_
  refine callsIn_of_wp_marks (n := 0) Try.func13 rfl trivial ?_ rfl
  simp only [Try.ntmps13, List.size_toArray, List.length_cons, List.length_nil, Nat.reduceAdd, Nat.reduceSub, Array.replicate_succ, Array.replicate_zero, List.push_toArray, List.append_toArray, List.nil_append, List.cons_append]
  refine wpIn_wide.2 ?_
  have Hok := Lib.hid hok
  have Hlen := Lib.hid hlen
  have Hg := Lib.hid hg
  have HM := Lib.hid hM
  clear hok hlen hg hM
  have hnf : ∀ (W : World) (a : Array Value), (binOp BinOp.eql 55 (Value.func (Fn.func 22) #[] a) Value.nilFunc).run Try.prog W = .ok (.bool false) W := fun _ _ => by kernel_rfl
  go_wp2_with (first | ((with_reducible refine atList ?_); first | ((with_reducible refine isBoxD 3 ?_); refine bx hS rfl rfl rfl ?_; clear hS; intro X3 w hS; (try simp only [Act.eval, Array.getD_eq_getD_getElem?, List.getElem?_toArray, List.getElem?_cons_succ, List.getElem?_cons_zero, Option.getD_some, Value.cells] at hS); (try simp only [Act.put, List.setIfInBounds_toArray, List.set_cons_succ, List.set_cons_zero])) | ((with_reducible refine isAllocD 3 ?_); (refine' al (z := _) hS rfl rfl ?ha ?_); (case ha => first | exact ty_z26 | exact ty_z3); clear hS; intro X3 w hS; (try simp only [Act.eval, Array.getD_eq_getD_getElem?, List.getElem?_toArray, List.getElem?_cons_succ, List.getElem?_cons_zero, Option.getD_some, Value.cells] at hS); (try simp only [Act.put, List.setIfInBounds_toArray, List.set_cons_succ, List.set_cons_zero])) | ((with_reducible refine isBoxD 7 ?_); refine bx hS rfl rfl rfl ?_; clear hS; intro XO w hS; (try simp only [Act.eval, Array.getD_eq_getD_getElem?, List.getElem?_toArray, List.getElem?_cons_succ, List.getElem?_cons_zero, Option.getD_some, Value.cells] at hS); (try simp only [Act.put, List.setIfInBounds_toArray, List.set_cons_succ, List.set_cons_zero])) | ((with_reducible refine isAllocD 7 ?_); (refine' al (z := _) hS rfl rfl ?ha ?_); (case ha => first | exact ty_z26 | exact ty_z3); clear hS; intro XO w hS; (try simp only [Act.eval, Array.getD_eq_getD_getElem?, List.getElem?_toArray, List.getElem?_cons_succ, List.getElem?_cons_zero, Option.getD_some, Value.cells] at hS); (try simp only [Act.put, List.setIfInBounds_toArray, List.set_cons_succ, List.set_cons_zero])) | ((with_reducible refine isGuard ?_); first | go_skip | (refine guarded_yes ?hw ?_; case hw => (simp only [Region.wanted, yielded, List.getElem?_toArray, List.getElem?_cons_succ, List.getElem?_cons_zero, Option.bind_some, beq_self_eq_true]; done)) | ((refine' guarded_cases (b := _) ?hy ?_ ?_); (case hy => (simp only [yielded, List.getElem?_toArray, List.getElem?_cons_succ, List.getElem?_cons_zero, Option.bind_some]; exact rfl)); all_goals (intro hb; (try simp only [Bool.not_true, Bool.not_false] at hb); (try simp only [hb]); (try simp only [Act.put, List.setIfInBounds_toArray, List.set_cons_succ, List.set_cons_zero]); first | ((have hf : False := by (simp at hb; done)); cases hf) | ((have hf : False := by (simp at hb; omega)); cases hf) | skip))) | ((with_reducible refine isLoad ?_); first | (refine ld1 0 hS rfl rfl ?ha rfl rfl rfl ?_; (case ha => first | exact ty_agg26 | exact ty_agg3); (try simp only [Act.put, List.setIfInBounds_toArray, List.set_cons_succ, List.set_cons_zero])) | (refine ld1 1 hS rfl rfl ?ha rfl rfl rfl ?_; (case ha => first | exact ty_agg26 | exact ty_agg3); (try simp only [Act.put, List.setIfInBounds_toArray, List.set_cons_succ, List.set_cons_zero])) | (refine ld1 2 hS rfl rfl ?ha rfl rfl rfl ?_; (case ha => first | exact ty_agg26 | exact ty_agg3); (try simp only [Act.put, List.setIfInBounds_toArray, List.set_cons_succ, List.set_cons_zero])) | ((refine' ldI1 (v := _) hS rfl rfl ?ha rfl ?hb ?_); (case ha => first | exact ty_agg26 | exact ty_agg3); (case hb => assumption); (try simp only [Act.put, List.setIfInBounds_toArray, List.set_cons_succ, List.set_cons_zero]))) | ((with_reducible refine isStore ?_); first | (refine st1 0 hS rfl rfl rfl rfl rfl ?ha rfl rfl ?hb ?_; (case ha => first | exact ty_sz26 | exact ty_sz3); (case hb => (simp; done)); clear hS; intro w hS; (try simp only [List.set_cons_succ, List.set_cons_zero, List.setIfInBounds_toArray, Act.eval, Array.getD_eq_getD_getElem?, List.getElem?_toArray, List.getElem?_cons_succ, List.getElem?_cons_zero, Option.getD_some, Value.cells] at hS); (try simp only [Act.put, List.setIfInBounds_toArray, List.set_cons_succ, List.set_cons_zero])) | (refine st1 1 hS rfl rfl rfl rfl rfl ?ha rfl rfl ?hb ?_; (case ha => first | exact ty_sz26 | exact ty_sz3); (case hb => (simp; done)); clear hS; intro w hS; (try simp only [List.set_cons_succ, List.set_cons_zero, List.setIfInBounds_toArray, Act.eval, Array.getD_eq_getD_getElem?, List.getElem?_toArray, List.getElem?_cons_succ, List.getElem?_cons_zero, Option.getD_some, Value.cells] at hS); (try simp only [Act.put, List.setIfInBounds_toArray, List.set_cons_succ, List.set_cons_zero])) | (refine st1 2 hS rfl rfl rfl rfl rfl ?ha rfl rfl ?hb ?_; (case ha => first | exact ty_sz26 | exact ty_sz3); (case hb => (simp; done)); clear hS; intro w hS; (try simp only [List.set_cons_succ, List.set_cons_zero, List.setIfInBounds_toArray, Act.eval, Array.getD_eq_getD_getElem?, List.getElem?_toArray, List.getElem?_cons_succ, List.getElem?_cons_zero, Option.getD_some, Value.cells] at hS); (try simp only [Act.put, List.setIfInBounds_toArray, List.set_cons_succ, List.set_cons_zero]))) | ((with_reducible refine isBox ?_); refine bx hS rfl rfl rfl ?_; clear hS; intro X w hS; (try simp only [Act.eval, Array.getD_eq_getD_getElem?, List.getElem?_toArray, List.getElem?_cons_succ, List.getElem?_cons_zero, Option.getD_some, Value.cells] at hS); (try simp only [Act.put, List.setIfInBounds_toArray, List.set_cons_succ, List.set_cons_zero])) | ((with_reducible refine isAlloc ?_); (refine' al (z := _) hS rfl rfl ?ha ?_); (case ha => first | exact ty_z26 | exact ty_z3); clear hS; intro X w hS; (try simp only [Act.eval, Array.getD_eq_getD_getElem?, List.getElem?_toArray, List.getElem?_cons_succ, List.getElem?_cons_zero, Option.getD_some, Value.cells] at hS); (try simp only [Act.put, List.setIfInBounds_toArray, List.set_cons_succ, List.set_cons_zero]))) | (go_at_call 20; ((with_reducible refine Calls.mono (each_any _ _) ?_); rintro e w1 ⟨rfl, rfl⟩; have hS2 := hS.alloc (.cells #[.pointer (some ⟨g, 0, none⟩)] 23); clear hS; have hS := hS2; clear hS2; generalize (World.heap w).size = Y at *; generalize World.alloc w _ = w1 at *)))
  have hYlt := hS.lt (.tail _ (.head _)) (PH.one_self Y _)
  have hY := hS.own _ (.tail _ (.head _)) Y _ (PH.one_self Y _)
  have hgl := hS.ilt Hg.out
  have hMl := hS.ilt HM.out
  have hit := each1_iter w Y g M es c Hok.out (by have := Hlen.out; omega) hY (hS.imm g _ Hg.out) (hS.imm M _ HM.out)
  have hS1 := (hS.perm (List.Perm.swap _ _ _)).freeze
  have hoff : I.off (PH.one Y (.cells #[.pointer (some ⟨g, 0, none⟩)] 23)) := hS.off (.tail _ (.head _))
  have hIi : I.le (I.join (PH.one Y (.cells #[.pointer (some ⟨g, 0, none⟩)] 23))) := PH.le_join _ _
  have hIK : ∀ b, (b = Y ∨ b = g ∨ b = M) → (I.join (PH.one Y (.cells #[.pointer (some ⟨g, 0, none⟩)] 23))) b ≠ none := by
    rintro b (rfl | rfl | rfl)
    · rw [PH.le_join_right hoff b _ (PH.one_self b _)]; simp
    · rw [hIi _ _ Hg.out]; simp
    · rw [hIi _ _ HM.out]; simp
  generalize hI0 : I.join (PH.one Y (.cells #[.pointer (some ⟨g, 0, none⟩)] 23)) = I0 at *
  have hS2 : Sat E I0 ((PH.one X3 (.cells #[.int .i64 most] 3) :: ms) ++ [fun _ => none, PH.one XO (.cells #[.slice none 0 0] 26)]) w :=
    (hS1.empty.perm (List.perm_append_comm (l₁ := [_, _])))
  have hIlt : ∀ b o, I0 b = some o → b < w.heap.size := fun b o hb => hS2.ilt hb
  have hXO : XO < w.heap.size := hS1.lt (.head _) (PH.one_self XO _)
  have hX3in : PH.one X3 (.cells #[.int .i64 most] 3) ∈ (PH.one X3 (.cells #[.int .i64 most] 3) :: ms) := .head _
  generalize hro : (PH.one X3 (.cells #[.int .i64 most] 3) :: ms) = ro at *
  have hrolt : ∀ p ∈ ro, ∀ b o, p b = some o → b < w.heap.size := fun p hp b o hb => hS2.lt (List.mem_append_left _ hp) hb
  have hsl := srt_len es
  generalize hsrt : srtE es = srt at *
  clear hS hS1 hI0 hY
  refine (wpIn_wide (n := 0)).1 ?_
  refine rangeFunc_law (K := fun b => b = Y ∨ b = g ∨ b = M) (gf := 22) (lb := #[.pointer (some ⟨Y, 0, none⟩)]) (w0 := w) rfl (enters_of Try.func22 (by kernel_rfl) rfl)
    hit (Keeps.refl _ _) (by rintro b (rfl | rfl | rfl) <;> assumption) (fun _ => rfl)
    (fun S pre W' => pre.length ≤ most.toNat ∧ TD es E I0 ro XO pre S W')
    (fun S cd _ W' => cd = .exit 0 ∧ TD es E I0 ro XO (srt.take most.toNat) S W') ?hI ?hIx ?start
    (fun x a' W' => ∃ Bx, W'.heap[Bx]? = some (.cells #[.int .i64 x.1, .int .i64 x.2] 53) ∧ a' = ⟨#[Value.pointer (some { block := g, off := 0 }), Value.int IntKind.i64 most, undef,
          Value.pointer (some { block := X3, off := 0 }), Value.slice none 0 0, Value.bool false,
          Value.func (Fn.func 22) #[] #[Value.pointer (some { block := Y, off := 0 })],
          Value.pointer (some { block := XO, off := 0 }), .pointer (some ⟨Bx, 0, none⟩), .int .i64 (idE es x), Value.pointer (some { block := g, off := 0 }),
          Value.func (Fn.func 22) #[] #[Value.pointer (some { block := Y, off := 0 })],
          Value.func (Fn.func 22) #[] #[Value.pointer (some { block := Y, off := 0 })], Value.bool false,
          Value.func (Fn.func 22) #[] #[Value.pointer (some { block := Y, off := 0 })], ekey x, .int .i64 (idE es x), undef, undef,
          undef, undef, undef, undef, undef, undef, undef, undef, undef, undef, undef, undef], []⟩) ?hAx ?assign ?body ?done ?stop
  case hI =>
    rintro S pre A B row ⟨h0, mm, v, h1, h2, h3⟩ hg hr
    refine ⟨h0, mm, v, h1, h2.turn hg hr (fun b o hb => .inl (hIlt b o hb)) (fun p hp b o hb => ?_), h3⟩
    rcases List.mem_append.1 hp with hp | hp
    · exact .inl (hrolt p hp b o hb)
    · simp only [List.mem_cons, List.not_mem_nil, or_false] at hp
      rcases hp with rfl | rfl
      · exact .inr (h1.isCells b o hb)
      · exact .inr (PH.one_isCells b o hb)
  case hIx =>
    rintro S cd pre A B row ⟨h0, mm, v, h1, h2, h3⟩ hg hr
    refine ⟨h0, mm, v, h1, h2.turn hg hr (fun b o hb => .inl (hIlt b o hb)) (fun p hp b o hb => ?_), h3⟩
    rcases List.mem_append.1 hp with hp | hp
    · exact .inl (hrolt p hp b o hb)
    · simp only [List.mem_cons, List.not_mem_nil, or_false] at hp
      rcases hp with rfl | rfl
      · exact .inr (h1.isCells b o hb)
      · exact .inr (PH.one_isCells b o hb)
  case start =>
    intro S W' hb hst
    refine ⟨Nat.zero_le _, fun _ => none, .slice none 0 0, OwnP.nil _ _, hS2.below_ hb, fun p hp b hSb => ?_⟩
    cases hpb : p b with
    | none => rfl
    | some o =>
      exfalso
      rcases hst.2 b hSb with h | h
      · rcases hS2.sep p hp b with h4 | h4
        · rw [hpb] at h4; cases h4
        · exact hIK b h h4
      · have := hS2.lt hp hpb; omega
  case hAx =>
    rintro x a' s X Y' row ⟨Bx, h1, h2⟩ hg hr
    refine ⟨Bx, (hg.block Bx (Array.getElem?_eq_some_iff.1 h1).1 fun e => ?_).trans h1, h2⟩
    obtain ⟨o, ho, hc⟩ := (hr Bx e.symm).2
    rw [h1] at ho; cases ho; cases hc
  case assign =>
    intro l' S pre x suf W' K' hxs hSl hKS hi hK
    have HK := Lib.hid hK
    have Hi := Lib.hid hi
    clear hK hi
    obtain ⟨x1, x2⟩ := x
    unfold encY ekey
    generalize hiv : idE es (x1, x2) = iv at *
    gi_wp2
    refine HK.out _ _ ((Keeps.refl S W').alloc hSl _) ⟨Hi.out.1, Hi.out.2.below ((Below.refl _ _).alloc (Nat.le_refl _) _)⟩ ⟨_, World.alloc_heap_new W' _, ?_⟩
    rfl
  case body =>
    rintro l' S pre x suf a' W' hxs hSl hKS ⟨hpl, mm, v, hO, hSr, hap⟩ ⟨Bx, hbx, rfl⟩
    obtain ⟨I1, hI1, hS3, hfull⟩ := hSr.full
    obtain ⟨p, hp, hpb⟩ := hS3.find hfull Bx
    have hb0 : p.at Bx 0 = some (.int .i64 x.1) := by unfold PH.at; rw [hpb _ hbx]; rfl
    have hb1 : p.at Bx 1 = some (.int .i64 x.2) := by unfold PH.at; rw [hpb _ hbx]; rfl
    have hp2 := src_perm' hp (List.perm_append_comm (l₁ := ro))
    have hS := hS3.perm (List.perm_append_comm (l₁ := ro))
    have hpre : pre.length < es.length := by rw [← hsl, hxs]; simp
    have p0 : (0 : Int) ≤ (pre.length : Int) := by omega
    have p1 : (pre.length : Int) ≤ 100000 := by have := Hlen.out; omega
    obtain ⟨A0, c0, rfl, hc0⟩ := hO.shape
    obtain ⟨x1, x2⟩ := x
    unfold ekey
    have Hxs := Lib.hid hxs
    have Hfull := Lib.hid hfull
    have Hap := Lib.hid hap
    have Hpl := Lib.hid hpl
    have HSr := Lib.hid hSr
    have HB0 := Lib.hid hb0
    have HB1 := Lib.hid hb1
    have Hp := Lib.hid hp2
    have HI1 := Lib.hid hI1
    rw [← hro] at hS Hp
    simp only [List.cons_append, List.nil_append] at hS Hp
    generalize hiv : idE es (x1, x2) = iv at *
    have Hiv := Lib.hid hiv
    clear hxs hfull hap hpl hSr hb0 hb1 hp hp2 hpb hbx hI1 hS3 hiv hc0 hsrt
    by_cases hge : most ≤ (pre.length : Int)
    · have HO := Lib.hid hO
      clear hO
      gi_wp2_with (first | ((with_reducible refine ratList ?_); first | ((with_reducible refine risLoad ?_); first | (refine wp_k1 0 hS rfl ?ha rfl rfl rfl ?_; (case ha => first | exact ty_agg26 | exact ty_agg3); (try simp only [Act.put, List.setIfInBounds_toArray, List.set_cons_succ, List.set_cons_zero])) | (refine wp_k1 1 hS rfl ?ha rfl rfl rfl ?_; (case ha => first | exact ty_agg26 | exact ty_agg3); (try simp only [Act.put, List.setIfInBounds_toArray, List.set_cons_succ, List.set_cons_zero])) | (refine wp_k1 2 hS rfl ?ha rfl rfl rfl ?_; (case ha => first | exact ty_agg26 | exact ty_agg3); (try simp only [Act.put, List.setIfInBounds_toArray, List.set_cons_succ, List.set_cons_zero])) | ((refine' wp_i1 (v := _) hS rfl ?ha rfl ?hb ?_); (case ha => first | exact ty_agg26 | exact ty_agg3); (case hb => assumption); (try simp only [Act.put, List.setIfInBounds_toArray, List.set_cons_succ, List.set_cons_zero]))) | ((with_reducible refine risStore ?_); first | (refine wp_st1 hS 0 rfl rfl rfl rfl ?ha rfl rfl ?hb ?_; (case ha => first | exact ty_sz26 | exact ty_sz3); (case hb => (simp; done)); clear hS; intro w hS; (try simp only [List.set_cons_succ, List.set_cons_zero, List.setIfInBounds_toArray, Act.eval, Array.getD_eq_getD_getElem?, List.getElem?_toArray, List.getElem?_cons_succ, List.getElem?_cons_zero, Option.getD_some, Value.cells] at hS); (try simp only [Act.put, List.setIfInBounds_toArray, List.set_cons_succ, List.set_cons_zero])) | (refine wp_st1 hS 1 rfl rfl rfl rfl ?ha rfl rfl ?hb ?_; (case ha => first | exact ty_sz26 | exact ty_sz3); (case hb => (simp; done)); clear hS; intro w hS; (try simp only [List.set_cons_succ, List.set_cons_zero, List.setIfInBounds_toArray, Act.eval, Array.getD_eq_getD_getElem?, List.getElem?_toArray, List.getElem?_cons_succ, List.getElem?_cons_zero, Option.getD_some, Value.cells] at hS); (try simp only [Act.put, List.setIfInBounds_toArray, List.set_cons_succ, List.set_cons_zero])) | (refine wp_st1 hS 2 rfl rfl rfl rfl ?ha rfl rfl ?hb ?_; (case ha => first | exact ty_sz26 | exact ty_sz3); (case hb => (simp; done)); clear hS; intro w hS; (try simp only [List.set_cons_succ, List.set_cons_zero, List.setIfInBounds_toArray, Act.eval, Array.getD_eq_getD_getElem?, List.getElem?_toArray, List.getElem?_cons_succ, List.getElem?_cons_zero, Option.getD_some, Value.cells] at hS); (try simp only [Act.put, List.setIfInBounds_toArray, List.set_cons_succ, List.set_cons_zero]))) | ((with_reducible refine risBox ?_); refine wp_bx hS rfl rfl ?_; clear hS; intro X w hS; (try simp only [Act.eval, Array.getD_eq_getD_getElem?, List.getElem?_toArray, List.getElem?_cons_succ, List.getElem?_cons_zero, Option.getD_some, Value.cells] at hS); (try simp only [Act.put, List.setIfInBounds_toArray, List.set_cons_succ, List.set_cons_zero])) | ((with_reducible refine risAlloc ?_); (refine' wp_al (z := _) hS rfl ?ha ?_); (case ha => first | exact ty_z26 | exact ty_z3); clear hS; intro X w hS; (try simp only [Act.eval, Array.getD_eq_getD_getElem?, List.getElem?_toArray, List.getElem?_cons_succ, List.getElem?_cons_zero, Option.getD_some, Value.cells] at hS); (try simp only [Act.put, List.setIfInBounds_toArray, List.set_cons_succ, List.set_cons_zero])) | ((with_reducible refine risBuildSlice ?_); (refine' wp_bsl hS ?hr ?_); (case hr => (intro w0; go_simp; rfl)); clear hS; intro XS w hS; (try simp only [Act.eval, Array.getD_eq_getD_getElem?, List.getElem?_toArray, List.getElem?_cons_succ, List.getElem?_cons_zero, Option.getD_some, Value.cells] at hS); (try simp only [Act.put, List.setIfInBounds_toArray, List.set_cons_succ, List.set_cons_zero]))))
      have hpm : pre.length = most.toNat := by have := Hpl.out; omega
      have : srt.take most.toNat = pre := by rw [Hxs.out, ← hpm]; simp
      refine ⟨Keeps.refl _ _, rfl, ?_⟩
      rw [this]
      exact ⟨_, _, HO.out, HSr.out, Hap.out⟩
    · have hlt : (pre.length : Int) < most := by omega
      have hlen' : pre.length + 1 ≤ most.toNat := by omega
      have Hl := Lib.hid hlen'
      clear hge hlen'
      gi_wp2_with (first | ((with_reducible refine risLoad ?_); first | (refine wp_ld1 (hS.src Hp.out) rfl ty_agg36 rfl HB0.out ?_; (try simp only [Act.put, List.setIfInBounds_toArray, List.set_cons_succ, List.set_cons_zero])) | (refine wp_ld1 (hS.src Hp.out) rfl ty_agg36 rfl HB1.out ?_; (try simp only [Act.put, List.setIfInBounds_toArray, List.set_cons_succ, List.set_cons_zero]))) | ((with_reducible refine risAppend ?_); (refine' wp_apP (p := _) (m := _) (v := _) (n := _) (xs := _) (news := _) hS 1 rfl (.inr (List.Mem.head _)) rfl Try.underlying26 einfo rfl (by decide) rfl ?hown rfl ?hl ?hcl ?h1 ?h63 ?hby ?_); (case hown => assumption); (case hcl => exact Cells.one _ _ _ _); (case hl => rfl); (case h1 => rfl); (case h63 => go_light; unfold maxLen; omega); (case hby => go_light; omega); clear hS hO; intro v1 m1 w hO hS; refine Veil.out ?_; obtain ⟨A1, c1, rfl, _⟩ := OwnP.shape hO; refine ⟨?_⟩; (try simp only [List.set_cons_succ, List.set_cons_zero] at hS); (try simp only [Act.put, List.setIfInBounds_toArray, List.set_cons_succ, List.set_cons_zero])) | ((with_reducible refine ratList ?_); first | ((with_reducible refine risLoad ?_); first | (refine wp_k1 0 hS rfl ?ha rfl rfl rfl ?_; (case ha => first | exact ty_agg26 | exact ty_agg3); (try simp only [Act.put, List.setIfInBounds_toArray, List.set_cons_succ, List.set_cons_zero])) | (refine wp_k1 1 hS rfl ?ha rfl rfl rfl ?_; (case ha => first | exact ty_agg26 | exact ty_agg3); (try simp only [Act.put, List.setIfInBounds_toArray, List.set_cons_succ, List.set_cons_zero])) | (refine wp_k1 2 hS rfl ?ha rfl rfl rfl ?_; (case ha => first | exact ty_agg26 | exact ty_agg3); (try simp only [Act.put, List.setIfInBounds_toArray, List.set_cons_succ, List.set_cons_zero])) | ((refine' wp_i1 (v := _) hS rfl ?ha rfl ?hb ?_); (case ha => first | exact ty_agg26 | exact ty_agg3); (case hb => assumption); (try simp only [Act.put, List.setIfInBounds_toArray, List.set_cons_succ, List.set_cons_zero]))) | ((with_reducible refine risStore ?_); first | (refine wp_st1 hS 0 rfl rfl rfl rfl ?ha rfl rfl ?hb ?_; (case ha => first | exact ty_sz26 | exact ty_sz3); (case hb => (simp; done)); clear hS; intro w hS; (try simp only [List.set_cons_succ, List.set_cons_zero, List.setIfInBounds_toArray, Act.eval, Array.getD_eq_getD_getElem?, List.getElem?_toArray, List.getElem?_cons_succ, List.getElem?_cons_zero, Option.getD_some, Value.cells] at hS); (try simp only [Act.put, List.setIfInBounds_toArray, List.set_cons_succ, List.set_cons_zero])) | (refine wp_st1 hS 1 rfl rfl rfl rfl ?ha rfl rfl ?hb ?_; (case ha => first | exact ty_sz26 | exact ty_sz3); (case hb => (simp; done)); clear hS; intro w hS; (try simp only [List.set_cons_succ, List.set_cons_zero, List.setIfInBounds_toArray, Act.eval, Array.getD_eq_getD_getElem?, List.getElem?_toArray, List.getElem?_cons_succ, List.getElem?_cons_zero, Option.getD_some, Value.cells] at hS); (try simp only [Act.put, List.setIfInBounds_toArray, List.set_cons_succ, List.set_cons_zero])) | (refine wp_st1 hS 2 rfl rfl rfl rfl ?ha rfl rfl ?hb ?_; (case ha => first | exact ty_sz26 | exact ty_sz3); (case hb => (simp; done)); clear hS; intro w hS; (try simp only [List.set_cons_succ, List.set_cons_zero, List.setIfInBounds_toArray, Act.eval, Array.getD_eq_getD_getElem?, List.getElem?_toArray, List.getElem?_cons_succ, List.getElem?_cons_zero, Option.getD_some, Value.cells] at hS); (try simp only [Act.put, List.setIfInBounds_toArray, List.set_cons_succ, List.set_cons_zero]))) | ((with_reducible refine risBox ?_); refine wp_bx hS rfl rfl ?_; clear hS; intro X w hS; (try simp only [Act.eval, Array.getD_eq_getD_getElem?, List.getElem?_toArray, List.getElem?_cons_succ, List.getElem?_cons_zero, Option.getD_some, Value.cells] at hS); (try simp only [Act.put, List.setIfInBounds_toArray, List.set_cons_succ, List.set_cons_zero])) | ((with_reducible refine risAlloc ?_); (refine' wp_al (z := _) hS rfl ?ha ?_); (case ha => first | exact ty_z26 | exact ty_z3); clear hS; intro X w hS; (try simp only [Act.eval, Array.getD_eq_getD_getElem?, List.getElem?_toArray, List.getElem?_cons_succ, List.getElem?_cons_zero, Option.getD_some, Value.cells] at hS); (try simp only [Act.put, List.setIfInBounds_toArray, List.set_cons_succ, List.set_cons_zero])) | ((with_reducible refine risBuildSlice ?_); (refine' wp_bsl hS ?hr ?_); (case hr => (intro w0; go_simp; rfl)); clear hS; intro XS w hS; (try simp only [Act.eval, Array.getD_eq_getD_getElem?, List.getElem?_toArray, List.getElem?_cons_succ, List.getElem?_cons_zero, Option.getD_some, Value.cells] at hS); (try simp only [Act.put, List.setIfInBounds_toArray, List.set_cons_succ, List.set_cons_zero]))))
      have hS2 := hS.drop.perm (List.perm_append_comm (l₁ := [m1, PH.one XO (.cells #[.slice A1 (pre.length + 1) c1] 26)]) (l₂ := PH.one X3 (.cells #[.int .i64 most] 3) :: ms))
      rw [hro] at hS2
      obtain ⟨hk, hap'⟩ := Sat.keeps Hfull.out hSl Hap.out (PH.le.refl _) hS2
      refine ⟨hk, by rw [List.length_append]; exact Hl.out, ?_⟩
      have hsn := Hiv.out
      subst hsn
      exact TD.snoc HSr.out HI1.out hO hS2 hap'
  case done =>
    rintro D S W3 hD hSS ⟨hpl, mm, v, hO, hSr, hap⟩ hd
    have hS := hSr.perm (List.perm_append_comm (l₁ := ro))
    simp only [List.cons_append, List.nil_append] at hS
    obtain ⟨A0, c0, rfl, _⟩ := hO.shape
    have HO := Lib.hid hO
    have HSr := Lib.hid hSr
    clear hO hSr hap
    go_wp2_with (first | ((with_reducible refine atList ?_); first | ((with_reducible refine isGuard ?_); first | go_skip | (refine guarded_yes ?hw ?_; case hw => (simp only [Region.wanted, yielded, List.getElem?_toArray, List.getElem?_cons_succ, List.getElem?_cons_zero, Option.bind_some, beq_self_eq_true]; done)) | ((refine' guarded_cases (b := _) ?hy ?_ ?_); (case hy => (simp only [yielded, List.getElem?_toArray, List.getElem?_cons_succ, List.getElem?_cons_zero, Option.bind_some]; exact rfl)); all_goals (intro hb; (try simp only [Bool.not_true, Bool.not_false] at hb); (try simp only [hb]); (try simp only [Act.put, List.setIfInBounds_toArray, List.set_cons_succ, List.set_cons_zero]); first | ((have hf : False := by (simp at hb; done)); cases hf) | ((have hf : False := by (simp at hb; omega)); cases hf) | skip))) | ((with_reducible refine isLoad ?_); first | (refine ld1 0 hS rfl rfl ?ha rfl rfl rfl ?_; (case ha => first | exact ty_agg26); (try simp only [Act.put, List.setIfInBounds_toArray, List.set_cons_succ, List.set_cons_zero])) | (refine ld1 1 hS rfl rfl ?ha rfl rfl rfl ?_; (case ha => first | exact ty_agg26); (try simp only [Act.put, List.setIfInBounds_toArray, List.set_cons_succ, List.set_cons_zero])) | ((refine' ldI1 (v := _) hS rfl rfl ?ha rfl ?hb ?_); (case ha => first | exact ty_agg26); (case hb => assumption); (try simp only [Act.put, List.setIfInBounds_toArray, List.set_cons_succ, List.set_cons_zero]))) | ((with_reducible refine isStore ?_); first | (refine st1 0 hS rfl rfl rfl rfl rfl ?ha rfl rfl ?hb ?_; (case ha => first | exact ty_sz26); (case hb => (simp; done)); clear hS; intro w hS; (try simp only [List.set_cons_succ, List.set_cons_zero, List.setIfInBounds_toArray, Act.eval, Array.getD_eq_getD_getElem?, List.getElem?_toArray, List.getElem?_cons_succ, List.getElem?_cons_zero, Option.getD_some, Value.cells] at hS); (try simp only [Act.put, List.setIfInBounds_toArray, List.set_cons_succ, List.set_cons_zero])) | (refine st1 1 hS rfl rfl rfl rfl rfl ?ha rfl rfl ?hb ?_; (case ha => first | exact ty_sz26); (case hb => (simp; done)); clear hS; intro w hS; (try simp only [List.set_cons_succ, List.set_cons_zero, List.setIfInBounds_toArray, Act.eval, Array.getD_eq_getD_getElem?, List.getElem?_toArray, List.getElem?_cons_succ, List.getElem?_cons_zero, Option.getD_some, Value.cells] at hS); (try simp only [Act.put, List.setIfInBounds_toArray, List.set_cons_succ, List.set_cons_zero]))) | ((with_reducible refine isBox ?_); refine bx hS rfl rfl rfl ?_; clear hS; intro X w hS; (try simp only [Act.eval, Array.getD_eq_getD_getElem?, List.getElem?_toArray, List.getElem?_cons_succ, List.getElem?_cons_zero, Option.getD_some, Value.cells] at hS); (try simp only [Act.put, List.setIfInBounds_toArray, List.set_cons_succ, List.set_cons_zero])) | ((with_reducible refine isAlloc ?_); (refine' al (z := _) hS rfl rfl ?ha ?_); (case ha => first | exact ty_z26); clear hS; intro X w hS; (try simp only [Act.eval, Array.getD_eq_getD_getElem?, List.getElem?_toArray, List.getElem?_cons_succ, List.getElem?_cons_zero, Option.getD_some, Value.cells] at hS); (try simp only [Act.put, List.setIfInBounds_toArray, List.set_cons_succ, List.set_cons_zero]))))
    have hT : Sat E I0 (ro ++ [mm, PH.one XO (.cells #[.slice A0 srt.length c0] 26)]) (W3.putObj D (.deferred none)) := by
      refine HSr.out.turn (B := w.heap.size) (grownBy_putObj' W3 D _) (fun r e => by cases e; exact ⟨hD, _, hd, rfl⟩) (fun b o hb => .inl (hIlt b o hb)) (fun p hp b o hb => ?_)
      rcases List.mem_append.1 hp with hp | hp
      · exact .inl (hrolt p hp b o hb)
      · simp only [List.mem_cons, List.not_mem_nil, or_false] at hp
        rcases hp with rfl | rfl
        · exact .inr (HO.out.isCells b o hb)
        · exact .inr (PH.one_isCells b o hb)
    have hF := ((hT.less hIi).perm (List.perm_append_comm (l₁ := ro)))
    rw [← hro] at hF
    have hG := hF.sub (List.Sublist.cons_cons mm (List.Sublist.cons _ (List.Sublist.cons _ (List.Sublist.refl ms))))
    clear hF hT hS
    refine ⟨by simp, .inl ⟨_, _, rfl, run_takeDeferred hd, ?_⟩⟩
    refine ⟨_, (results_tmp2 Try.results13 _ _ _), _, mm, rfl, ?_, hG⟩
    rw [hsrt, List.take_of_length_le hpl]
    exact HO.out
  case stop =>
    rintro D S cd pre W3 hD hSS hpre ⟨rfl, mm, v, hO, hSr, hap⟩ hd
    have hS := hSr.perm (List.perm_append_comm (l₁ := ro))
    simp only [List.cons_append, List.nil_append] at hS
    obtain ⟨A0, c0, rfl, _⟩ := hO.shape
    have HO := Lib.hid hO
    have HSr := Lib.hid hSr
    clear hO hSr hap
    refine wpIn_wide.2 ?_
    go_wp2_with (first | ((with_reducible refine atList ?_); first | ((with_reducible refine isGuard ?_); first | go_skip | (refine guarded_yes ?hw ?_; case hw => (simp only [Region.wanted, yielded, List.getElem?_toArray, List.getElem?_cons_succ, List.getElem?_cons_zero, Option.bind_some, beq_self_eq_true]; done)) | ((refine' guarded_cases (b := _) ?hy ?_ ?_); (case hy => (simp only [yielded, List.getElem?_toArray, List.getElem?_cons_succ, List.getElem?_cons_zero, Option.bind_some]; exact rfl)); all_goals (intro hb; (try simp only [Bool.not_true, Bool.not_false] at hb); (try simp only [hb]); (try simp only [Act.put, List.setIfInBounds_toArray, List.set_cons_succ, List.set_cons_zero]); first | ((have hf : False := by (simp at hb; done)); cases hf) | ((have hf : False := by (simp at hb; omega)); cases hf) | skip))) | ((with_reducible refine isLoad ?_); first | (refine ld1 0 hS rfl rfl ?ha rfl rfl rfl ?_; (case ha => first | exact ty_agg26); (try simp only [Act.put, List.setIfInBounds_toArray, List.set_cons_succ, List.set_cons_zero])) | (refine ld1 1 hS rfl rfl ?ha rfl rfl rfl ?_; (case ha => first | exact ty_agg26); (try simp only [Act.put, List.setIfInBounds_toArray, List.set_cons_succ, List.set_cons_zero])) | ((refine' ldI1 (v := _) hS rfl rfl ?ha rfl ?hb ?_); (case ha => first | exact ty_agg26); (case hb => assumption); (try simp only [Act.put, List.setIfInBounds_toArray, List.set_cons_succ, List.set_cons_zero]))) | ((with_reducible refine isStore ?_); first | (refine st1 0 hS rfl rfl rfl rfl rfl ?ha rfl rfl ?hb ?_; (case ha => first | exact ty_sz26); (case hb => (simp; done)); clear hS; intro w hS; (try simp only [List.set_cons_succ, List.set_cons_zero, List.setIfInBounds_toArray, Act.eval, Array.getD_eq_getD_getElem?, List.getElem?_toArray, List.getElem?_cons_succ, List.getElem?_cons_zero, Option.getD_some, Value.cells] at hS); (try simp only [Act.put, List.setIfInBounds_toArray, List.set_cons_succ, List.set_cons_zero])) | (refine st1 1 hS rfl rfl rfl rfl rfl ?ha rfl rfl ?hb ?_; (case ha => first | exact ty_sz26); (case hb => (simp; done)); clear hS; intro w hS; (try simp only [List.set_cons_succ, List.set_cons_zero, List.setIfInBounds_toArray, Act.eval, Array.getD_eq_getD_getElem?, List.getElem?_toArray, List.getElem?_cons_succ, List.getElem?_cons_zero, Option.getD_some, Value.cells] at hS); (try simp only [Act.put, List.setIfInBounds_toArray, List.set_cons_succ, List.set_cons_zero]))) | ((with_reducible refine isBox ?_); refine bx hS rfl rfl rfl ?_; clear hS; intro X w hS; (try simp only [Act.eval, Array.getD_eq_getD_getElem?, List.getElem?_toArray, List.getElem?_cons_succ, List.getElem?_cons_zero, Option.getD_some, Value.cells] at hS); (try simp only [Act.put, List.setIfInBounds_toArray, List.set_cons_succ, List.set_cons_zero])) | ((with_reducible refine isAlloc ?_); (refine' al (z := _) hS rfl rfl ?ha ?_); (case ha => first | exact ty_z26); clear hS; intro X w hS; (try simp only [Act.eval, Array.getD_eq_getD_getElem?, List.getElem?_toArray, List.getElem?_cons_succ, List.getElem?_cons_zero, Option.getD_some, Value.cells] at hS); (try simp only [Act.put, List.setIfInBounds_toArray, List.set_cons_succ, List.set_cons_zero]))))
    have hT : Sat E I0 (ro ++ [mm, PH.one XO (.cells #[.slice A0 (srt.take most.toNat).length c0] 26)]) (W3.putObj D (.deferred none)) := by
      refine HSr.out.turn (B := w.heap.size) (grownBy_putObj' W3 D _) (fun r e => by cases e; exact ⟨hD, _, hd, rfl⟩) (fun b o hb => .inl (hIlt b o hb)) (fun p hp b o hb => ?_)
      rcases List.mem_append.1 hp with hp | hp
      · exact .inl (hrolt p hp b o hb)
      · simp only [List.mem_cons, List.not_mem_nil, or_false] at hp
        rcases hp with rfl | rfl
        · exact .inr (HO.out.isCells b o hb)
        · exact .inr (PH.one_isCells b o hb)
    have hF := ((hT.less hIi).perm (List.perm_append_comm (l₁ := ro)))
    rw [← hro] at hF
    have hG := hF.sub (List.Sublist.cons_cons mm (List.Sublist.cons _ (List.Sublist.cons _ (List.Sublist.refl ms))))
    clear hF hT hS
    refine ⟨by simp, .inl ⟨_, _, rfl, run_takeDeferred hd, ?_⟩⟩
    refine ⟨_, (results_tmp2 Try.results13 _ _ _), _, mm, rfl, ?_, hG⟩
    rw [hsrt]
    exact HO.out
end Go.Proofs.Ytmgjoggffnogfaa
