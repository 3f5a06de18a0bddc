import Derived.Test.YtdhkkkhnjooioaaWo
import Derived.Test.YtdhkkkhnjooioaaVe
namespace Go.Proofs.Ytdhkkkhnjooioaa
set_option linter.unusedSimpArgs false
set_option linter.unusedVariables false
open Go.RowKit
set_option linter.unusedVariables false
theorem tabp_info : (Try.prog.info? 77).map (fun i => (i.zero, i.size, i.bytes)) = some (some (.pointer none), 1, 8) := by kernel_rfl
theorem ty_agg74 : aggB Try.prog 74 = some false := by kernel_rfl
theorem ty_sz74 : sizeB Try.prog 74 = some 1 := by kernel_rfl
theorem ty_z74 : zeroB Try.prog 74 = some (.slice none 0 0) := by kernel_rfl
theorem ty_agg77 : aggB Try.prog 77 = some false := by kernel_rfl
theorem ty_sz77 : sizeB Try.prog 77 = some 1 := by kernel_rfl
theorem ty_z77 : zeroB Try.prog 77 = some (.pointer none) := by kernel_rfl
theorem ty_agg70 : aggB Try.prog 70 = some false := by kernel_rfl
theorem ty_sz70 : sizeB Try.prog 70 = some 1 := by kernel_rfl
theorem ty_z70 : zeroB Try.prog 70 = some (.pointer none) := by kernel_rfl
theorem ty_agg67 : aggB Try.prog 67 = some false := by kernel_rfl
theorem ty_sz67 : sizeB Try.prog 67 = some 1 := by kernel_rfl
theorem ty_z67 : zeroB Try.prog 67 = some (.pointer none) := by kernel_rfl
def tabs (l : List (Nat × Nat)) : List PH := l.flatMap fun t => [tbv t.1 t.2, tbm t.2 [] 0]
def tabVs (l : List (Nat × Nat)) : List Value := l.map fun t => vPt t.1
def stV (L P : Nat) (v : Value) : Array Value := #[vPt L, vPt P, v, .slice none 0 0, .int .i64 0]
def mkG (S L P : Nat) (v : Value) (m : PH) (l : List (Nat × Nat)) (rest : List PH) (s : Nat) (vals : Nat → Value) (_ : PH) (ns : List PH) : Prop :=
  match s with
  | 0 => ns = PH.one S (.cells (stV L P v) 76) :: m :: rest
  | 1 => ∃ g M, vals 5 = vPt g ∧ ns = tbv g M :: tbm M [] 0 :: PH.one S (.cells (stV L P v) 76) :: m :: rest
  | 2 => ∃ g M Y, vals 6 = vSl 1 Y ∧ ns = PH.one Y (.cells #[vPt g] 77) :: tbv g M :: tbm M [] 0 :: PH.one S (.cells (stV L P v) 76) :: m :: rest
  | 3 => ∃ g M Y m', OwnP m' 77 1 (vals 7) (l.length + 1) (tabVs (l ++ [(g, M)])) ∧ ns = PH.one Y (.cells #[vPt g] 77) :: tbv g M :: tbm M [] 0 :: PH.one S (.cells (stV L P v) 76) :: m' :: rest
  | _ => ∃ g M Y m', OwnP m' 77 1 (vals 7) (l.length + 1) (tabVs (l ++ [(g, M)])) ∧ ns = PH.one Y (.cells #[vPt g] 77) :: tbv g M :: tbm M [] 0 :: PH.one S (.cells (stV L P (vals 7)) 76) :: m' :: rest
theorem mkG.gst {S L P : Nat} {v : Value} {m : PH} {l : List (Nat × Nat)} {rest : List PH} (s : Nat) (vals vals' : Nat → Value) (J : PH) (ns : List PH) (h : ∀ j ∈ [5, 6, 7, 10].take s, vals j = vals' j) (hg : mkG S L P v m l rest s vals J ns) : mkG S L P v m l rest s vals' J ns := by
  match s, h, hg with
  | 0, h, hg => exact hg
  | 1, h, hg => obtain ⟨g, M, h1, h2⟩ := hg; exact ⟨g, M, by rw [← h 5 (by decide)]; exact h1, h2⟩
  | 2, h, hg => obtain ⟨g, M, Y, h1, h2⟩ := hg; exact ⟨g, M, Y, by rw [← h 6 (by decide)]; exact h1, h2⟩
  | 3, h, hg => obtain ⟨g, M, Y, m', h1, h2⟩ := hg; exact ⟨g, M, Y, m', by rw [← h 7 (by decide)]; exact h1, h2⟩
  | s + 4, h, hg => obtain ⟨g, M, Y, m', h1, h2⟩ := hg; exact ⟨g, M, Y, m', by rw [← h 7 (by simp)]; exact h1, by rw [← h 7 (by simp)]; exact h2⟩
theorem mkG.mem {S L P : Nat} {v : Value} {m : PH} {l : List (Nat × Nat)} {rest : List PH} {s : Nat} {vals : Nat → Value} {J : PH} {ns : List PH} (hs : s ≤ 2) (h : mkG S L P v m l rest s vals J ns) : PH.one S (.cells (stV L P v) 76) ∈ ns := by
  match s, hs, h with
  | 0, _, h => rw [show ns = _ from h]; simp
  | 1, _, h => obtain ⟨g, M, _, h⟩ := h; rw [h]; simp
  | 2, _, h => obtain ⟨g, M, Y, _, h⟩ := h; rw [h]; simp
theorem perm_tab (a b S m : PH) (X : List PH) : (a :: b :: S :: m :: X).Perm (S :: m :: a :: b :: X) :=
  (List.perm_append_comm (l₁ := [a, b]) (l₂ := [S, m])).append_right X
theorem nnew_bad (vars room : Int) (w : World) (h : vars < 0 ∨ 64 < vars ∨ room < 1 ∨ 1048576 < room) : Calls Try.prog 8 #[.int .i64 vars, .int .i64 room] w fun e w' => e = .returned (.tuple #[.pointer none, .int .i64 2]) ∧ w = w' := by
  have h : decide (vars < 0) = true ∨ (decide (vars < 0) = false ∧ decide (64 < vars) = true) ∨ (decide (vars < 0) = false ∧ decide (64 < vars) = false ∧ (room < 1 ∨ 1048576 < room)) := by simp only [decide_eq_true_eq, decide_eq_false_iff_not]; omega
  rcases h with h | ⟨h, h2⟩ | ⟨h, h2, h3⟩
  · go_enter Try.func8, Try.ntmps8
    go_wp2
    go_ret2
    exact ⟨rfl, rfl⟩
  · go_enter Try.func8, Try.ntmps8
    go_wp2
    go_ret2
    exact ⟨rfl, rfl⟩
  · go_enter Try.func8, Try.ntmps8
    go_wp2_with (go_at_call 36; (with_reducible refine Calls.mono (pnew_bad _ _ h3) ?_); rintro e w' ⟨rfl, rfl⟩)
    go_ret2
    exact ⟨rfl, rfl⟩
def stP (S L P V1 V2 A T : Nat) (n : Nat) (room : Int) (v : Value) (m : PH) (l : List (Nat × Nat)) : List PH :=
  PH.one S (.cells (stV L P v) 76) :: m :: tabs l ++ [PH.one L (.cells #[vSl n V1, vSl n V2] 73), PH.one V2 (.cells (idC n n) 3), PH.one V1 (.cells (idC n n) 3), PH.one P (.cells #[.int .i64 room, vSl 1 A, vSl 1 T, .slice none 0 0, .int .i64 0] 112), PH.one A (.cells node0 59), PH.one T (.cells #[.bool false] 4)]
set_option maxHeartbeats 4000000 in
set_option maxRecDepth 100000 in
theorem nnew_ok (E : World) (I : PH) (ms : List PH) (n : Nat) (room : Int) (w : World) (hn : n ≤ 64) (h1 : 1 ≤ room) (h2 : room ≤ 1048576) (hS : Sat E I ms w) :
    Calls Try.prog 8 #[.int .i64 (n : Int), .int .i64 room] w fun e w' => ∃ S L P V1 V2 A T v m l, e = .returned (.tuple #[vPt S, .int .i64 0]) ∧ l.length = n ∧ OwnP m 77 1 v n (tabVs l) ∧
      Sat E I (stP S L P V1 V2 A T n room v m l ++ ms) w' := by
  have hn0 : (0 : Int) ≤ (n : Int) := by omega
  have hn1 : (n : Int) ≤ 64 := by omega
  go_enter Try.func8, Try.ntmps8
  go_wp2_with (first | (go_at_call 36; (with_reducible refine Calls.mono (pnew_ok _ _ _ _ _ h1 h2 hS) ?_); clear hS; rintro e w ⟨P, A, T, rfl, hS⟩))
  refine (ident_any _ _ _ _ _ hn hS).mono ?_
  clear hS
  rintro e w ⟨V1, rfl, hS⟩
  go_wp2_with fail
  refine (ident_any _ _ _ _ _ hn hS).mono ?_
  clear hS
  rintro e w ⟨V2, rfl, hS⟩
  go_wp2_with (first | ((with_reducible refine atList ?_); first | ((with_reducible refine isBoxD 26 ?_); refine bx hS rfl rfl rfl ?_; clear hS; intro L w hS; (try simp only [Act.eval, zD, zC, zA, zB, zJ, Value.cells] at hS); (try simp only [Act.put, zE, zF, zG])) | ((with_reducible refine isAllocD 26 ?_); (refine' al (z := _) hS rfl rfl ?ha ?_); (case ha => exact ty_z3); clear hS; intro L w hS; (try simp only [Act.eval, zD, zC, zA, zB, zJ, Value.cells] at hS); (try simp only [Act.put, zE, zF, zG])) | ((with_reducible refine isBoxD 29 ?_); refine bx hS rfl rfl rfl ?_; clear hS; intro S w hS; (try simp only [Act.eval, zD, zC, zA, zB, zJ, Value.cells] at hS); (try simp only [Act.put, zE, zF, zG])) | ((with_reducible refine isAllocD 29 ?_); (refine' al (z := _) hS rfl rfl ?ha ?_); (case ha => exact ty_z3); clear hS; intro S w hS; (try simp only [Act.eval, zD, zC, zA, zB, zJ, Value.cells] at hS); (try simp only [Act.put, zE, zF, zG])) | ((with_reducible refine isGuard ?_); first | go_skip | ((with_reducible refine guarded_no ?hw ?_); (case hw => (simp only [Region.wanted, yielded, zC, zA, zB, zK]; first | exact (rfl : (some true == some false) = false) | exact (rfl : (some false == some true) = false))); (try simp only [Act.put, zE, zF, zG])) | ((with_reducible refine guarded_yes ?hw ?_); case hw => (simp only [Region.wanted, yielded, zC, zA, zB, zK, beq_self_eq_true]; done)) | ((refine' guarded_cases (b := _) ?hy ?_ ?_); (case hy => (simp only [yielded, zC, zA, zB, zK]; exact rfl)); all_goals (intro hb; (try simp only [Bool.not_true, Bool.not_false] at hb); (try simp only [hb]); (try simp only [Act.put, zE, zF, zG]); first | ((have hf : False := by (simp at hb; done)); cases hf) | ((have hf : False := by (simp at hb; omega)); cases hf) | skip))) | ((with_reducible refine isLoad ?_); (first | (refine ld1 0 hS rfl rfl ?ha rfl rfl rfl ?_; (case ha => exact ty_agg3)) | ((refine' ldI1 (v := _) hS rfl rfl ?ha rfl ?hb ?_); (case ha => exact ty_agg3); (case hb => assumption))); (try simp only [Act.put, zE, zF, zG])) | ((with_reducible refine isStore ?_); (first | (refine st1 0 hS rfl rfl rfl rfl rfl ?ha rfl rfl ?hb ?_; (case ha => exact ty_sz3); (case hb => (simp; done)))); clear hS; intro w hS; (try simp only [zF, zG, zE, Act.eval, zD, zC, zA, zB, zJ, Value.cells] at hS); (try simp only [Act.put, zE, zF, zG])) | ((with_reducible refine isBox ?_); refine bx hS rfl rfl rfl ?_; clear hS; intro X w hS; (try simp only [Act.eval, zD, zC, zA, zB, zJ, Value.cells] at hS); (try simp only [Act.put, zE, zF, zG])) | ((with_reducible refine isAlloc ?_); (refine' al (z := _) hS rfl rfl ?ha ?_); (case ha => exact ty_z3); clear hS; intro X w hS; (try simp only [Act.eval, zD, zC, zA, zB, zJ, Value.cells] at hS); (try simp only [Act.put, zE, zF, zG]))))
  have hS0 : Sat E I (stP S L P V1 V2 A T n room (.slice none 0 0) (fun _ => none) [] ++ ms) w := hS.empty.perm (List.Perm.swap _ _ _)
  clear hS
  go_loopw [31] (fun v31 wr => ∃ v m l, l.length ≤ n ∧ v31 = .int .i64 ((l.length : Nat) : Int) ∧ OwnP m 77 1 v l.length (tabVs l) ∧ Sat E I (stP S L P V1 V2 A T n room v m l ++ ms) wr) (fun v31 _ => (n - intOf v31).toNat)
  case atStart => exact ⟨_, _, [], by simp, rfl, OwnP.nil _ _, hS0⟩
  case round =>
    clear hS0
    obtain ⟨v, m, l, hl, rfl, hO, hS⟩ := hrel
    by_cases hlt : l.length < n
    · have i1 : (l.length : Int) < n := by omega
      go_wp2_with fail
      have hS1 : Sat E I (PH.one S (.cells (stV L P v) 76) :: m :: (tabs l ++ [PH.one L (.cells #[vSl n V1, vSl n V2] 73), PH.one V2 (.cells (idC n n) 3), PH.one V1 (.cells (idC n n) 3), PH.one P (.cells #[.int .i64 room, vSl 1 A, vSl 1 T, .slice none 0 0, .int .i64 0] 112), PH.one A (.cells node0 59), PH.one T (.cells #[.bool false] 4)] ++ ms)) wr := by
        unfold stP at hS
        simpa only [List.cons_append, List.append_assoc] using hS
      clear hS
      generalize hrest : tabs l ++ _ ++ ms = rest at hS1
      refine region_c1 [[], [], [1], [1, 2], [1, 2, 3], [], [5], [1, 2, 3, 4, 5, 6], [0, 1, 2, 3, 4, 5, 6, 7], [0, 1, 2, 3, 4, 5, 6, 7, 8], [0, 1, 2, 3, 4, 5, 6, 7, 8, 9]] E I _
        [fun v _ => v = vPt S, fun v _ => v = vPt S, fun v _ => v = vPt S, fun v _ => v = .pointer (some ⟨S, 2, none⟩), fun x _ => x = v, fun _ _ => True, fun _ _ => True, fun _ _ => True, fun v _ => v = vPt S, fun v _ => v = .pointer (some ⟨S, 2, none⟩), fun _ _ => True] [5, 6, 7, 10] (mkG S L P v m l rest) (by kernel_rfl) (by kernel_rfl) (by decide) hS1 rfl ?last mkG.gst (fun s vals J J' ns _ h => h) ?plain ?step ?fin
      case last => repeat (first | exact Lasting.nil | refine Lasting.cons (fun _ _ _ _ h => h) ?_)
      case plain =>
        repeat' (first | exact trivial | apply And.intro)
        all_goals first | trivial | exact .inl rfl | skip
        all_goals
          refine .inr ?_
          intro s vals J bs w hstop hg hJ hS hG
          first
          | (refine Veil.out ?_
             have hmem := hG.mem (Nat.le_trans hstop (by decide))
             refine ⟨?_⟩
             simp only [zH, zI, Given, Facts] at hg; simp only [textL, actL, dstAt, opAt, zH, zI, zA, zB, zK, if_true, Act.put, zE, zF, zG, hg]; refine ⟨?_⟩; refine wpStep_of (fun K hK => ?_); have HK := Lib.hid hK; clear hK; rw [if_pos (by rfl)]
             refine wp_ldo1 hS hmem ty_agg74 rfl rfl ?_
             refine HK.out _ _ ⟨rfl, J, PH.le.refl _, hS, ?_⟩
             clear HK
             simp only [Facts]
             simp only [outOf, zH, zI, Act.put, zE, zF, zG, zD, zC, zA, zB, zJ])
          | (simp only [zH, zI, Given, Facts] at hg; simp only [textL, actL, dstAt, opAt, zH, zI, zA, zB, zK, if_true, Act.put, zE, zF, zG, hg]; refine ⟨?_⟩; refine wpStep_of (fun K hK => ?_); have HK := Lib.hid hK; clear hK; rw [if_pos (by rfl)]; go_wp2_with fail; refine HK.out _ _ ⟨rfl, J, PH.le.refl _, hS, ?_⟩; clear HK; simp only [Facts]; simp only [outOf, zH, zI, Act.put, zE, zF, zG, zD, zC, zA, zB, zJ])
      case step =>
        refine ⟨⟨⟨⟨trivial, ?_⟩, ?_⟩, ?_⟩, ?_⟩
        · intro vals J bs w hg hJ hS hG
          have hG : bs = _ := hG
          subst hG
          simp only [zH, zI, Given, Facts] at hg; simp only [textL, actL, dstAt, opAt, zH, zI, zA, zB, zK, if_true, Act.put, zE, zF, zG, hg]; refine ⟨?_⟩; refine wpStep_of (fun K hK => ?_); have HK := Lib.hid hK; clear hK; rw [if_pos (by rfl)]
          go_wp2_with (go_at_call 38; (with_reducible refine Calls.mono (new_any _ _ _ _ hS) ?_); clear hS; rintro e w ⟨g, M, rfl, hS⟩)
          refine HK.out _ _ ⟨rfl, J, _, PH.le.refl _, hS, trivial, g, M, ?_, rfl⟩
          simp only [zH, zI, upd_self]
          simp only [outOf, zH, zI, Act.put, zE, zF, zG, zD, zC, zA, zB, zJ]
        · intro vals J bs w hg hJ hS hG
          refine Veil.out ?_
          obtain ⟨g, M, h5, hns⟩ := hG
          subst hns
          refine ⟨?_⟩
          simp only [textL, actL, dstAt, opAt, zH, zI, zA, zB, zK, if_true, Act.put, zE, zF, zG, h5]; refine ⟨?_⟩; refine wpStep_of (fun K hK => ?_); have HK := Lib.hid hK; clear hK; rw [if_pos (by rfl)]
          refine wp_bsl hS (fun w0 => by go_simp; rfl) fun Y w hS => ?_
          refine HK.out _ _ ⟨rfl, J, _, PH.le.refl _, hS, trivial, g, M, Y, ?_, ?_⟩
          · simp only [zH, zI, upd_self]
            simp only [outOf, zH, zI, Act.put, zE, zF, zG, zD, zC, zA, zB, zJ]
          · simp only [outOf, zH, zI, Act.put, zE, zF, zG, zD, zC, zA, zB, zJ]
        · intro vals J bs w hg hJ hS hG
          refine Veil.out ?_
          obtain ⟨g, M, Y, h6, hns⟩ := hG
          have h4 : vals 4 = v := hg.get 4 (by decide)
          subst hns
          refine ⟨?_⟩
          simp only [textL, actL, dstAt, opAt, zH, zI, zA, zB, zK, if_true, Act.put, zE, zF, zG, h4, h6]; refine ⟨?_⟩; refine wpStep_of (fun K hK => ?_); have HK := Lib.hid hK; clear hK; rw [if_pos (by rfl)]
          refine wp_apP (p := PH.one Y (.cells #[vPt g] 77)) (m := m) (v := v) (n := l.length) (xs := tabVs l) (news := [vPt g]) hS 4 rfl (.inr (List.Mem.head _)) rfl Try.underlying74 tabp_info rfl (by decide) rfl hO rfl rfl (Cells.one _ _ _ _) rfl (by unfold maxLen; omega) (by omega) fun v' m' w hO' hS => ?_
          refine HK.out _ _ ⟨rfl, J, _, PH.le.refl _, hS, trivial, g, M, Y, m', ?_, ?_⟩
          · simp only [zH, zI, upd_self]
            simp only [outOf, zH, zI, Act.put, zE, zF, zG, zD, zC, zA, zB, zJ]
            unfold tabVs
            rw [List.map_append]
            exact hO'
          · simp only [zF, zG]
        · intro vals J bs w hg hJ hS hG
          refine Veil.out ?_
          obtain ⟨g, M, Y, m', hO', hns⟩ := hG
          obtain ⟨A1, c1, h7, _⟩ := hO'.shape
          have h9 : vals 9 = .pointer (some ⟨S, 2, none⟩) := hg.get 9 (by decide)
          subst hns
          refine ⟨?_⟩
          simp only [textL, actL, dstAt, opAt, zH, zI, zA, zB, zK, if_true, Act.put, zE, zF, zG, h9, h7]; refine ⟨?_⟩; refine wpStep_of (fun K hK => ?_); have HK := Lib.hid hK; clear hK; rw [if_pos (by rfl)]
          refine wp_st1 hS 3 rfl rfl rfl rfl ty_sz74 rfl rfl (by simp [stV]) fun w hS => ?_
          refine HK.out _ _ ⟨rfl, J, _, PH.le.refl _, hS, trivial, g, M, Y, m', ?_, ?_⟩
          · exact hO'
          · rw [upd_ne _ _ (by decide), h7]
            rfl
      case fin =>
        intro vals J bs w hJ hg hS hG
        obtain ⟨g, M, Y, m', hO', hns⟩ := hG
        subst hns
        have hS := hS.less hJ
        simp only [List.length_cons, List.length_nil, Nat.reduceAdd, Below_, Facts, zH, zI, true_and, and_true] at hg; simp only [List.length_cons, List.length_nil, Nat.reduceAdd, textL, actL, dstAt, opAt, zH, zI, zA, zB, zK, if_true, Act.put, zE, zF, zG, hg]; refine ⟨?_⟩
        clear hg
        go_wp2
        refine ⟨⟨vals 7, m', l ++ [(g, M)], by simp; omega, by simp, by simpa using hO', ?_⟩, by simp [intOf]; omega⟩
        have h1 := hS.drop.perm (perm_tab _ _ _ _ _)
        subst hrest
        refine h1.perm ?_
        unfold stP
        have ht : tabs (l ++ [(g, M)]) = tabs l ++ [tbv g M, tbm M [] 0] := by simp [tabs]
        rw [ht]
        simp only [List.cons_append, List.append_assoc]
        refine .cons _ (.cons _ ?_)
        exact ((List.perm_append_comm (l₁ := [tbv g M, tbm M [] 0]) (l₂ := tabs l)).append_right _).trans (.of_eq (by simp))
    · have hln : l.length = n := by omega
      have hlt2 : decide ((l.length : Int) < n) = false := by rw [decide_eq_false_iff_not]; omega
      go_wp2
      go_ret2
      exact ⟨S, L, P, V1, V2, A, T, v, m, l, rfl, hln, by rw [← hln]; exact hO, hS⟩
end Go.Proofs.Ytdhkkkhnjooioaa
