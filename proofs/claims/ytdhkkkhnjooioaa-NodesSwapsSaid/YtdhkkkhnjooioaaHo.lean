import Derived.Test.YtdhkkkhnjooioaaHk
import Derived.Test.YtdhkkkhnjooioaaHe
namespace Go.Proofs.Ytdhkkkhnjooioaa
set_option linter.unusedSimpArgs false
set_option linter.unusedVariables false
open Go.RowKit
set_option linter.unusedVariables false
set_option maxRecDepth 100000 in
set_option maxHeartbeats 4000000 in
theorem ptake_full (E w : World) (I m : PH) (ms : List PH) (P : Nat) (p : G.Pl) (n : G.Nd) (hfr : p.free = []) (hle : p.room < p.slots.length) (hP : PoolAt P p m) (hS : Sat E I (m :: ms) w) :
    Calls Try.prog 75 #[.pointer (some ⟨P, 0, none⟩), ndA 0 n] w fun e w' => e = .returned (.tuple #[nv 0, .int .i64 7]) ∧ Sat E I (m :: ms) w' := by
  obtain ⟨hf, A0, cA0, T0, cT0, vF, mA, mT, mF, hbd, hA, hT, hF⟩ := hP
  obtain ⟨nF, cF, hvF, _⟩ := hF.shape
  subst hvF
  have hlen := hf.len
  have hroom := hf.room
  have hml := G.many_le p.slots
  have hk0 : p.free.length = 0 := by rw [hfr]; rfl
  have hfin : ∀ w', Sat E I (PH.one P (.cells (plV p A0 cA0 T0 cT0 (.slice nF p.free.length cF)) 112) :: mA :: mT :: mF :: ms) w' → Sat E I (m :: ms) w' := fun w' hS' => by
    obtain ⟨m', hb', hS2⟩ := Sat.pack [PH.one P (.cells (plV p A0 cA0 T0 cT0 (.slice nF p.free.length cF)) 112), mA, mT, mF] hS'
    rw [hbd.1, ← hb'.1]
    exact hS2
  have Hfin := Lib.hid hfin
  have hS := Sat.unpack hbd hS
  clear hfin hF hf hbd hfr hA hT
  simp only [plV, List.cons_append, List.nil_append] at hS Hfin
  rw [hk0] at hS Hfin
  generalize hid : p.slots.length = id at *
  have hdec : decide ((p.room : Int) < (id : Int)) = true := by rw [decide_eq_true_eq]; omega
  have hdecN : decide (p.room < id) = true := by rw [decide_eq_true_eq]; omega
  go_enter Try.func75, Try.ntmps75
  go_wp2_with (first | ((with_reducible refine atList ?_); first | ((with_reducible refine isBoxD 3 ?_); refine bx hS rfl rfl rfl ?_; clear hS; intro X w hS; (try simp only [Act.eval, zD, zC, zA, zB, zJ, Value.cells] at hS); (try simp only [Act.put, zE, zF, zG])) | ((with_reducible refine isLoad ?_); (first | (refine ld1 0 hS rfl rfl ?ha rfl rfl rfl ?_; (case ha => first | exact ty_agg48 | exact ty_agg3 | exact ty_agg27)) | (refine ld1 1 hS rfl rfl ?ha rfl rfl rfl ?_; (case ha => first | exact ty_agg48 | exact ty_agg3 | exact ty_agg27)) | (refine ldN 0 hS rfl rfl ?ha rfl rfl ?hb ?_; (case ha => exact ty_agg59); (case hb => exact ty_sz59)) | (refine ldN 1 hS rfl rfl ?ha rfl rfl ?hb ?_; (case ha => exact ty_agg59); (case hb => exact ty_sz59)) | ((refine' ldI1 (v := _) hS rfl rfl ?ha rfl ?hb ?_); (case ha => first | exact ty_agg48 | exact ty_agg3 | exact ty_agg27); (case hb => assumption)) | ((refine' ldIN (vs := _) hS rfl rfl ?ha rfl ?hc ?hb ?_); (case ha => exact ty_agg59); (case hc => assumption); (case hb => exact ty_sz59))); (try simp only [Act.put, zE, zF, zG])) | ((with_reducible refine isStore ?_); (first | (refine st1 0 hS rfl rfl rfl rfl rfl ?ha rfl rfl ?hb ?_; (case ha => first | exact ty_sz48 | exact ty_sz4 | exact ty_sz3 | exact ty_sz27); (case hb => (simp; done))) | (refine st1 1 hS rfl rfl rfl rfl rfl ?ha rfl rfl ?hb ?_; (case ha => first | exact ty_sz48 | exact ty_sz4 | exact ty_sz3 | exact ty_sz27); (case hb => (simp; done))) | (refine stN 0 hS rfl rfl rfl rfl rfl ?ha rfl rfl ?_; (case ha => exact ty_sz59)) | (refine stN 1 hS rfl rfl rfl rfl rfl ?ha rfl rfl ?_; (case ha => exact ty_sz59))); clear hS; intro w hS; (try simp only [zF, zG, zE, Act.eval, zD, zC, zA, zB, zJ, Value.cells] at hS); (try simp only [Act.put, zE, zF, zG])) | ((with_reducible refine isBox ?_); refine bx hS rfl rfl rfl ?_; clear hS; intro X w hS; (try simp only [Act.eval, zD, zC, zA, zB, zJ, Value.cells] at hS); (try simp only [Act.put, zE, zF, zG]))))
  obtain ⟨I1, _, lX, hS1, bX⟩ := hS.ice
  obtain ⟨I2, l12, lP, hS2, bP⟩ := hS1.ice
  have iP0 : I2.at P 0 = some (nv p.room) := PH.at_le lP (at_one rfl)
  have iP1 : I2.at P 1 = some (.slice (some ⟨A0, 0, none⟩) id cA0) := PH.at_le lP (at_one rfl)
  have HbX := Lib.hid bX
  have HbP := Lib.hid bP
  clear hS hS1 bX bP lX lP l12
  refine region_c1 [[], [0], [0, 1], [0, 1, 2], [0, 1, 2, 3], [], [5], [5, 6], [5, 6, 7], [0, 1, 2, 3, 4, 5, 6, 7, 8]] E I2 _
    [fun v _ => v = vPt P, fun v _ => v = vPt P, fun v _ => v = .pointer (some ⟨P, 1, none⟩), fun v _ => v = .slice (some ⟨A0, 0, none⟩) id cA0, fun v _ => v = nv id, fun v _ => v = vPt P, fun v _ => v = vPt P, fun v _ => v = .pointer (some ⟨P, 0, none⟩), fun v _ => v = nv p.room, fun v _ => v = .bool true] []
    (fun _ _ _ ns => ns = mA :: mT :: mF :: ms) (by kernel_rfl) (by kernel_rfl) (by decide) hS2 rfl ?last (fun _ _ _ _ _ _ h => h) (fun _ _ _ _ _ _ h => h) ?plain ?step ?fin
  case last => repeat (first | exact Lasting.nil | refine Lasting.cons (fun _ _ _ _ h => h) ?_)
  case plain =>
    (repeat' (first | exact trivial | apply And.intro)) <;> first | trivial | exact .inl rfl | (refine .inr ?_; intro s vals J bs w hstop hg hJ hS hG; clear hG; simp only [zH, zI, Given, Facts] at hg; simp only [textL, actL, dstAt, opAt, zH, zI, zA, zB, zK, if_true, Act.put, zE, zF, zG, hg]; refine ⟨?_⟩; refine wpStep_of (fun K hK => ?_); have HK := Lib.hid hK; clear hK; rw [if_pos (by rfl)]; (first | ((with_reducible refine atLoad ?_); first | ((refine' wp_ldi1 (v := _) hS hJ ?ha rfl ?hc ?_); (case ha => first | exact ty_agg48 | exact ty_agg3); (case hc => assumption))) | (go_wp2_with (first | fail))); refine HK.out _ _ ⟨rfl, J, PH.le.refl _, hS, ?_⟩; clear HK; simp only [Facts]; simp only [outOf, zH, zI, Act.put, zE, zF, zG, zD, zC, zA, zB, zJ])
  case step => trivial
  case fin =>
    intro vals J bs w hJ hg hS hG
    have hG : bs = _ := hG
    subst hG
    have hS := hS.less hJ
    have hS := (HbX.out _ _ (HbP.out _ _ hS)).drop
    clear HbX HbP iP0 iP1
    simp only [List.length_cons, List.length_nil, Nat.reduceAdd, Below_, Facts, zH, zI, true_and, and_true] at hg; simp only [List.length_cons, List.length_nil, Nat.reduceAdd, textL, actL, dstAt, opAt, zH, zI, zA, zB, zK, if_true, Act.put, zE, zF, zG, hg]; refine ⟨?_⟩
    clear hg
    go_wp2_with (first | ((with_reducible refine atList ?_); first | ((with_reducible refine isLoad ?_); (first | (refine ld1 0 hS rfl rfl ?ha rfl rfl rfl ?_; (case ha => exact ty_agg3)) | ((refine' ldI1 (v := _) hS rfl rfl ?ha rfl ?hb ?_); (case ha => exact ty_agg3); (case hb => assumption))); (try simp only [Act.put, zE, zF, zG])) | ((with_reducible refine isStore ?_); (first | (refine st1 0 hS rfl rfl rfl rfl rfl ?ha rfl rfl ?hb ?_; (case ha => exact ty_sz3); (case hb => (simp; done)))); clear hS; intro w hS; (try simp only [zF, zG, zE, Act.eval, zD, zC, zA, zB, zJ, Value.cells] at hS); (try simp only [Act.put, zE, zF, zG])) | ((with_reducible refine isBox ?_); refine bx hS rfl rfl rfl ?_; clear hS; intro X w hS; (try simp only [Act.eval, zD, zC, zA, zB, zJ, Value.cells] at hS); (try simp only [Act.put, zE, zF, zG]))))
    go_ret2
    exact ⟨rfl, Hfin.out _ hS⟩

theorem ptake_some {E w : World} {I m : PH} {ms : List PH} {P : Nat} {p p' : G.Pl} {n : G.Nd} {id : Nat} (ht : p.take n = some (some (p', id))) (hfit : Fits n) (hP : PoolAt P p m) (hS : Sat E I (m :: ms) w) :
    Calls Try.prog 75 #[.pointer (some ⟨P, 0, none⟩), ndA 0 n] w fun e w' => e = .returned (.tuple #[nv id, .int .i64 0]) ∧ ∃ m', PoolAt P p' m' ∧ Sat E I (m' :: ms) w' := by
  unfold G.Pl.take at ht
  cases hf : p.free.getLast? with
  | some i =>
    rw [hf] at ht
    simp only [] at ht
    split at ht
    · rename_i hc
      injection ht with ht; injection ht with ht; injection ht with h1 h2
      subst h1 h2
      refine ptake_free E w I m ms P p i n hf hc.1 hc.2.1 ?_ hfit hP hS
      have h3 := hc.2.2
      rw [List.getD_eq_getElem?_getD, List.getElem?_eq_getElem hc.2.1] at h3
      rw [List.getElem?_eq_getElem hc.2.1]
      simp only [zJ, Option.isNone_iff_eq_none] at h3
      rw [h3]
    · cases ht
  | none =>
    rw [hf] at ht
    simp only [] at ht
    split at ht
    · cases ht
    · rename_i hc
      injection ht with ht; injection ht with ht; injection ht with h1 h2
      subst h1 h2
      exact ptake_new E w I m ms P p n (List.getLast?_eq_none_iff.1 hf) (by omega) hfit hP hS
theorem ptake_none {E w : World} {I m : PH} {ms : List PH} {P : Nat} {p : G.Pl} {n : G.Nd} (ht : p.take n = some none) (hP : PoolAt P p m) (hS : Sat E I (m :: ms) w) :
    Calls Try.prog 75 #[.pointer (some ⟨P, 0, none⟩), ndA 0 n] w fun e w' => e = .returned (.tuple #[nv 0, .int .i64 7]) ∧ Sat E I (m :: ms) w' := by
  unfold G.Pl.take at ht
  cases hf : p.free.getLast? with
  | some i => rw [hf] at ht; simp only [] at ht; split at ht <;> cases ht
  | none =>
    rw [hf] at ht
    simp only [] at ht
    split at ht
    · rename_i hc
      exact ptake_full E w I m ms P p n (List.getLast?_eq_none_iff.1 hf) hc hP hS
    · cases ht
theorem StAt.close {E w : World} {I : PH} {ms : List PH} {S : Nat} {s : G.St} {L P : Nat} {vV vL vT vC : Value} {gs : List Nat} {mV mL mP mT mC : PH} {tms : List PH} (h0 : StFit s)
    (hV : OwnP mV 3 1 vV s.vars.length (s.vars.flatMap ivC)) (hL : OwnP mL 3 1 vL s.lev.length (s.lev.flatMap ivC)) (hP : PoolAt P s.pl mP) (hT : OwnP mT 77 1 vT s.tabs.length (gs.flatMap ptC)) (hC : OwnP mC 3 1 vC s.cnt.length (s.cnt.flatMap ivC))
    (hgs : gs.length = s.tabs.length) (htm : tms.length = s.tabs.length) (htab : ∀ (v : Nat) g t tm, gs[v]? = some g → s.tabs[v]? = some t → tms[v]? = some tm → TabAt g t tm)
    (hS : Sat E I (PH.one S (.cells #[vPt L, vPt P, vT, vC, nv s.dead] 76) :: PH.one L (.cells #[vV, vL] 73) :: mV :: mL :: mP :: mT :: mC :: (tms ++ ms)) w) : ∃ m', StAt S s m' ∧ Sat E I (m' :: ms) w := by
  obtain ⟨m', hb, h⟩ := Sat.pack (PH.one S (.cells #[vPt L, vPt P, vT, vC, nv s.dead] 76) :: PH.one L (.cells #[vV, vL] 73) :: mV :: mL :: mP :: mT :: mC :: tms) (ms := ms) hS
  exact ⟨m', ⟨h0, L, P, vV, vL, vT, vC, gs, mV, mL, mP, mT, mC, tms, hb, hV, hL, hP, hT, hC, hgs, htm, htab⟩, h⟩
theorem iv_one (n : Nat) : ∀ u ∈ (Value.cells (nv n)).toList, u.oneCell' = true := by simp [Value.cells, Value.oneCell', nv]
def rowLen (w : World) (S : Nat) : Nat := match w.cell? ⟨S, 3, none⟩ with | some (.slice _ n _) => n | _ => 0
theorem rowLen_of {w : World} {S n c : Nat} {A : Option Addr} (h : w.cell? ⟨S, 3, none⟩ = some (.slice A n c)) : rowLen w S = n := by unfold rowLen; rw [h]
end Go.Proofs.Ytdhkkkhnjooioaa
