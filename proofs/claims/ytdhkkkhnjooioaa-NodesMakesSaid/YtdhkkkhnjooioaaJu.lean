/- NodesMakes. -/
import Derived.Test.YtdhkkkhnjooioaaJt
namespace Go.Proofs.Ytdhkkkhnjooioaa
set_option linter.unusedSimpArgs false
set_option linter.unusedVariables false
open Go.RowKit
set_option linter.unusedVariables false
theorem lvl_range (n : Nat) (v : Int) : lvlOf (List.range n) v = if 0 ≤ v ∧ v < n then v else -1 := by
  by_cases h : 0 ≤ v ∧ v < n
  · rw [if_pos h]
    have := lvl_at (os := List.range n) (v := v) (i := v.toNat) (u := v.toNat) (fun j z hj hz => by
      rw [List.getElem?_range (by omega)] at hz
      injection hz with hz
      omega) (by rw [List.getElem?_range (by omega)]) (by omega)
    rw [this]; omega
  · rw [if_neg h]
    exact lvl_none fun j z hj hz => by
      rw [List.length_range] at hj
      rw [List.getElem?_range hj] at hz
      injection hz with hz
      omega
theorem level_new {n room : Nat} (h : G.StOk 0 (G.St.new n room)) (v : Int) : (G.St.new n room).level v = if 0 ≤ v ∧ v < n then v else -1 := by
  rw [h.pm.level]
  have hv : (G.St.new n room).vars.length = n := by simp [G.St.new]
  rw [hv]
  by_cases hc : 0 ≤ v ∧ v < n
  · rw [if_pos hc, if_pos hc]
    have : G.lvf (G.St.new n room) v.toNat = v.toNat := G.range_getD (by omega)
    rw [this]; omega
  · rw [if_neg hc, if_neg hc]
set_option maxRecDepth 1000000 in
set_option maxHeartbeats 16000000 in
theorem makes_bad (W : World) (vars room v : Int) (h : vars < 0 ∨ 64 < vars ∨ room < 1 ∨ 1048576 < room) : Calls Try.prog 4 #[.int .i64 vars, .int .i64 room, .int .i64 v] W fun e w' => e = .returned (.bool true) ∧ Below W.heap.size W w' := by
  have hS := Sat.start W
  go_enter Try.func4, Try.ntmps4
  go_wp2_with (first | (go_at_call 8; (with_reducible refine Calls.mono (nnew_bad _ _ _ h) ?_); rintro e w9 ⟨rfl, rfl⟩) | (go_at_call 18; (with_reducible refine Calls.mono (rnew_bad h hS) ?_); clear hS; rintro e w ⟨rfl, hS⟩) | (go_at_call 17; (with_reducible refine Calls.mono (lives_any hS) ?_); clear hS; rintro e w ⟨rfl, hS⟩) | ((with_reducible refine atList ?_); first | ((with_reducible refine isBoxD 9 ?_); refine bx hS rfl rfl rfl ?_; clear hS; intro R9 w hS; (try simp only [Act.eval, zD, zC, zA, zB, zJ, Value.cells] at hS); (try simp only [Act.put, zE, zF, zG])) | ((with_reducible refine isAllocD 9 ?_); (refine' al (z := _) hS rfl rfl ?ha ?_); (case ha => first | exact ty_z43 | exact ty_z3); clear hS; intro R9 w hS; (try simp only [Act.eval, zD, zC, zA, zB, zJ, Value.cells] at hS); (try simp only [Act.put, zE, zF, zG])) | ((with_reducible refine isLoad ?_); (first | (refine ld1 0 hS rfl rfl ?ha rfl rfl rfl ?_; (case ha => first | exact ty_agg3)) | (refine ldN 0 hS rfl rfl ?ha rfl rfl ?hb ?_; (case ha => first | exact ty_agg43); (case hb => first | exact ty_sz43)) | ((refine' ldI1 (v := _) hS rfl rfl ?ha rfl ?hb ?_); (case ha => first | exact ty_agg3); (case hb => assumption)) | ((refine' ldIN (vs := _) hS rfl rfl ?ha rfl ?hc ?hb ?_); (case ha => first | exact ty_agg43); (case hc => assumption); (case hb => first | exact ty_sz43))); (try simp only [Act.put, zE, zF, zG])) | ((with_reducible refine isStore ?_); (first | (refine st1 0 hS rfl rfl rfl rfl rfl ?ha rfl rfl ?hb ?_; (case ha => first | exact ty_sz3); (case hb => (simp; done))) | (refine stN 0 hS rfl rfl rfl rfl rfl ?ha rfl rfl ?_; (case ha => first | exact ty_sz43))); clear hS; intro w hS; (try simp only [zF, zG, zE, Act.eval, zD, zC, zA, zB, zJ, Value.cells] at hS); (try simp only [Act.put, zE, zF, zG])) | ((with_reducible refine isBox ?_); refine bx hS rfl rfl rfl ?_; clear hS; intro X w hS; (try simp only [Act.eval, zD, zC, zA, zB, zJ, Value.cells] at hS); (try simp only [Act.put, zE, zF, zG])) | ((with_reducible refine isAlloc ?_); (refine' al (z := _) hS rfl rfl ?ha ?_); (case ha => first | exact ty_z43 | exact ty_z3); clear hS; intro X w hS; (try simp only [Act.eval, zD, zC, zA, zB, zJ, Value.cells] at hS); (try simp only [Act.put, zE, zF, zG]))))
  go_ret
  exact ⟨rfl, hS.end_ (PH.le.refl _)⟩
theorem all9 {E w : World} {I : PH} {ms : List PH} {S n room : Nat} (hR : StR I S (G.St.new n room)) (hS : Sat E I ms w) : Calls Try.prog 25 #[vPt S, .int .i64 9] w fun e w' => ∃ A c, e = .returned (.slice A 0 c) ∧ Sat E I ms w' := by
  refine (sall_any 9 hR (by decide) hS).mono ?_
  rintro e w' ⟨v, mo, rfl, hO, h⟩
  have : (G.St.new n room).pl.all = [] := rfl
  rw [this] at hO
  have hO : OwnP mo 59 5 v 0 [] := hO
  obtain ⟨A, c, rfl, _⟩ := hO.shape
  exact ⟨A, c, rfl, h.drop⟩
set_option maxRecDepth 1000000 in
set_option maxHeartbeats 32000000 in
theorem makes_ok (W : World) (n room : Nat) (vi : Int) (hn : n ≤ 64) (h1 : 1 ≤ room) (h2 : room ≤ 1048576) : Calls Try.prog 4 #[nv n, nv room, .int .i64 vi] W fun e w' => e = .returned (.bool true) ∧ Below W.heap.size W w' := by
  have hS := Sat.start W
  have hok : G.StOk 0 (G.St.new n room) := G.StOk.new hn h1 h2
  obtain ⟨lv, hx⟩ : ∃ lv, (if 0 ≤ vi ∧ vi < (n : Int) then vi else -1) = lv := ⟨_, rfl⟩
  have hlev : (G.St.new n room).level vi = lv := (level_new hok vi).trans hx
  have hlv : lvlOf (List.range n) vi = lv := (lvl_range n vi).trans hx
  have Hlev := Lib.hid hlev
  have Hlv := Lib.hid hlv
  clear hok hlev hlv hx
  go_enter Try.func4, Try.ntmps4
  go_wp2_with (first | (go_at_call 8; (with_reducible refine Calls.mono (snew_ok n room hn h1 h2 hS) ?_); clear hS; rintro e w ⟨S, m, rfl, hA, hS⟩; have HA := Lib.hid hA; clear hA) | (go_at_call 18; (with_reducible refine Calls.mono (rnew_ok n room hn h1 h2 hS) ?_); clear hS; rintro e w ⟨q9, mr, rfl, hO, hS⟩; obtain ⟨Ar, cr, rfl, _⟩ := hO.shape; have HO := Lib.hid hO; clear hO) | ((with_reducible refine atList ?_); first | ((with_reducible refine isBoxD 9 ?_); refine bx hS rfl rfl rfl ?_; clear hS; intro R9 w hS; (try simp only [Act.eval, zD, zC, zA, zB, zJ, Value.cells] at hS); (try simp only [Act.put, zE, zF, zG])) | ((with_reducible refine isAllocD 9 ?_); (refine' al (z := _) hS rfl rfl ?ha ?_); (case ha => first | exact ty_z43 | exact ty_z3); clear hS; intro R9 w hS; (try simp only [Act.eval, zD, zC, zA, zB, zJ, Value.cells] at hS); (try simp only [Act.put, zE, zF, zG])) | ((with_reducible refine isLoad ?_); (first | (refine ld1 0 hS rfl rfl ?ha rfl rfl rfl ?_; (case ha => first | exact ty_agg3)) | (refine ldN 0 hS rfl rfl ?ha rfl rfl ?hb ?_; (case ha => first | exact ty_agg43); (case hb => first | exact ty_sz43)) | ((refine' ldI1 (v := _) hS rfl rfl ?ha rfl ?hb ?_); (case ha => first | exact ty_agg3); (case hb => assumption)) | ((refine' ldIN (vs := _) hS rfl rfl ?ha rfl ?hc ?hb ?_); (case ha => first | exact ty_agg43); (case hc => assumption); (case hb => first | exact ty_sz43))); (try simp only [Act.put, zE, zF, zG])) | ((with_reducible refine isStore ?_); (first | (refine st1 0 hS rfl rfl rfl rfl rfl ?ha rfl rfl ?hb ?_; (case ha => first | exact ty_sz3); (case hb => (simp; done))) | (refine stN 0 hS rfl rfl rfl rfl rfl ?ha rfl rfl ?_; (case ha => first | exact ty_sz43))); clear hS; intro w hS; (try simp only [zF, zG, zE, Act.eval, zD, zC, zA, zB, zJ, Value.cells] at hS); (try simp only [Act.put, zE, zF, zG])) | ((with_reducible refine isBox ?_); refine bx hS rfl rfl rfl ?_; clear hS; intro X w hS; (try simp only [Act.eval, zD, zC, zA, zB, zJ, Value.cells] at hS); (try simp only [Act.put, zE, zF, zG])) | ((with_reducible refine isAlloc ?_); (refine' al (z := _) hS rfl rfl ?ha ?_); (case ha => first | exact ty_z43 | exact ty_z3); clear hS; intro X w hS; (try simp only [Act.eval, zD, zC, zA, zB, zJ, Value.cells] at hS); (try simp only [Act.put, zE, zF, zG]))))
  obtain ⟨J1, l1, lR, hS1, _⟩ := hS.ice
  obtain ⟨J2, l2, lO, hS2, _⟩ := hS1.ice
  obtain ⟨J3, l3, lm, hS3, _⟩ := hS2.ice
  have hR := HA.out.read.le lm
  have hO : OwnP mr 3 1 (.slice Ar n cr) (List.range n).length ((List.range n).flatMap ivC) := by rw [List.length_range]; exact HO.out
  have hN : NumR J3 (.slice Ar n cr) (List.range n) := hO.num.le (lO.trans l3)
  have iR : J3.at R9 2 = some (.slice Ar n cr) := PH.at_le ((lR.trans l2).trans l3) (at_one rfl)
  have iC : Cells J3 R9 0 [nv n, nv room, (.slice Ar n cr), .slice none 0 0, .slice none 0 0] := (Cells.one R9 #[nv n, nv room, (.slice Ar n cr), .slice none 0 0, .slice none 0 0] 43 (0, 0)).le ((lR.trans l2).trans l3)
  have hWJ : (heapOf W).le J3 := (l1.trans l2).trans l3
  have hvars : (G.St.new n room).vars.length = n := by simp [G.St.new]
  have HVars := Lib.hid (fun (w' : World) (hle : J3.le (heapOf w')) => show Calls Try.prog 19 #[vPt S] w' (fun e w'' => e = .returned (nv n) ∧ w' = w'') by have := svars_any (hR.le hle); rwa [hvars] at this)
  have HRoom := Lib.hid (fun (w' : World) (hle : J3.le (heapOf w')) => show Calls Try.prog 20 #[vPt S] w' (fun e w'' => e = .returned (nv room) ∧ w' = w'') from sroom_any (hR.le hle))
  have HLen := Lib.hid (fun (w' : World) (hle : J3.le (heapOf w')) => show Calls Try.prog 12 #[vPt S] w' (fun e w'' => e = .returned (.int .i64 0) ∧ w' = w'') from slen_any (hR.le hle))
  have HDead := Lib.hid (fun (w' : World) (hle : J3.le (heapOf w')) => show Calls Try.prog 21 #[vPt S] w' (fun e w'' => e = .returned (.int .i64 0) ∧ w' = w'') from sdead_any (hR.le hle))
  have HLev := Lib.hid (fun (w' : World) (hle : J3.le (heapOf w')) => show Calls Try.prog 23 #[vPt S, .int .i64 vi] w' (fun e w'' => e = .returned (.int .i64 lv) ∧ w' = w'') by have := slevel_any (hR.le hle) vi; rwa [Hlev.out] at this)
  have HRLev := Lib.hid (fun (J : PH) (bs : List PH) (w' : World) (hle : J3.le J) (h : Sat W J bs w') => show Calls Try.prog 24 #[.agg #[nv n, nv room, (.slice Ar n cr), .slice none 0 0, .slice none 0 0], .int .i64 vi] w' (fun e w'' => e = .returned (.int .i64 lv) ∧ Sat W J bs w'') by have := rlevel_any (a := nv n) (b := nv room) (y := .slice none 0 0) (z := .slice none 0 0) (v := vi) (hN.le hle) (by rw [List.length_range]; omega) h; rwa [Hlv.out] at this)
  have HSame := Lib.hid (fun (J : PH) (bs : List PH) (w' : World) (u : Value) (hle : J3.le J) (hu : NumR J u (List.range n)) (h : Sat W J bs w') => show Calls Try.prog 22 #[u, (.slice Ar n cr)] w' (fun e w'' => e = .returned (.bool true) ∧ Sat W J bs w'') by have := nsame_any hu (hN.le hle) (by rw [List.length_range]; omega) h; simpa using this)
  have HRd := Lib.hid hR
  have HWJ := Lib.hid hWJ
  clear hS hS1 hS2 l1 lR l2 lO l3 lm hR hO hN hWJ HA HO hvars Hlev Hlv h1 h2
  go_wp2_with fail
  refine region_c1 [[], [0], [], [0, 1, 2], [0, 1, 2, 3], [0, 1, 2, 3, 4], [0, 1, 2, 3, 4, 5], [0, 1, 2, 3, 4], [0, 1, 2, 3, 4, 5, 6, 7], [0, 1, 2, 3, 4, 5, 6, 7, 8], [0, 1, 2, 3, 4, 5, 6, 7, 8, 9], [0, 1, 2, 3, 4, 5, 6, 7, 8, 9, 10], [0, 1, 2, 3, 4, 5, 6, 7, 8, 9, 10, 11], [0, 1, 2, 3, 4, 5, 6, 7, 8, 9, 10, 11, 12], [0, 1, 2, 3, 4, 5, 6, 7, 8, 9, 10, 11, 12, 13], [0, 1, 2, 3, 4, 5, 6, 7, 8, 9, 10, 11, 12, 13, 14], [0, 1, 2, 3, 4, 5, 6, 7, 8, 9, 10, 11, 12, 13, 14, 15], [0, 1, 2, 3, 4, 5, 6, 7, 8, 9, 10, 11, 12, 13, 14, 15, 16], [0, 1, 2, 3, 4, 5, 6, 7, 8, 9, 10, 11, 12, 13, 14, 15, 16, 17], [0, 1, 2, 3, 4, 5, 6, 7, 8, 9, 10, 11, 12, 13, 14, 15, 16, 17, 18], [0, 1, 2, 3, 4, 5, 6, 7, 8, 9, 10, 11, 12, 13, 14, 15, 16, 17, 18, 19], [0, 1, 2, 3, 4, 5, 6, 7, 8, 9, 10, 11, 12, 13, 14, 15, 16, 17, 18, 19, 20], [0, 1, 2, 3, 4, 5, 6, 7, 8, 9, 10, 11, 12, 13, 14, 15, 16, 17, 18, 19, 20, 21], [0, 1, 2, 3, 4, 5, 6, 7, 8, 9, 10, 11, 12, 13, 14, 15, 16, 17, 18, 19, 20], [0, 1, 2, 3, 4, 5, 6, 7, 8, 9, 10, 11, 12, 13, 14, 15, 16, 17, 18, 19, 20, 23], [0, 1, 2, 3, 4, 5, 6, 7, 8, 9, 10, 11, 12, 13, 14, 15, 16, 17, 18, 19, 20, 21, 22, 23, 24], [0, 1, 2, 3, 4, 5, 6, 7, 8, 9, 10, 11, 12, 13, 14, 15, 16, 17, 18, 19, 20, 21, 22, 23, 24, 25], [0, 1, 2, 3, 4, 5, 6, 7, 8, 9, 10, 11, 12, 13, 14, 15, 16, 17, 18, 19, 20, 21, 22, 23, 24, 25, 26], [0, 1, 2, 3, 4, 5, 6, 7, 8, 9, 10, 11, 12, 13, 14, 15, 16, 17, 18, 19, 20, 21, 22, 23, 24, 25, 26, 27], [0, 1, 2, 3, 4, 5, 6, 7, 8, 9, 10, 11, 12, 13, 14, 15, 16, 17, 18, 19, 20, 21, 22, 23, 24, 25, 26, 27], [0, 1, 2, 3, 4, 5, 6, 7, 8, 9, 10, 11, 12, 13, 14, 15, 16, 17, 18, 19, 20, 21, 22, 23, 24, 25, 26, 27, 28, 29], [0, 1, 2, 3, 4, 5, 6, 7, 8, 9, 10, 11, 12, 13, 14, 15, 16, 17, 18, 19, 20, 21, 22, 23, 24, 25, 26, 27], [0, 1, 2, 3, 4, 5, 6, 7, 8, 9, 10, 11, 12, 13, 14, 15, 16, 17, 18, 19, 20, 21, 22, 23, 24, 25, 26, 27], [0, 1, 2, 3, 4, 5, 6, 7, 8, 9, 10, 11, 12, 13, 14, 15, 16, 17, 18, 19, 20, 21, 22, 23, 24, 25, 26, 27, 28, 29, 30, 31, 32], [0, 1, 2, 3, 4, 5, 6, 7, 8, 9, 10, 11, 12, 13, 14, 15, 16, 17, 18, 19, 20, 21, 22, 23, 24, 25, 26, 27, 28, 29, 30, 31, 32, 33], [0, 1, 2, 3, 4, 5, 6, 7, 8, 9, 10, 11, 12, 13, 14, 15, 16, 17, 18, 19, 20, 21, 22, 23, 24, 25, 26, 27, 28, 29, 30, 31, 32, 33, 34], [0, 1, 2, 3, 4, 5, 6, 7, 8, 9, 10, 11, 12, 13, 14, 15, 16, 17, 18, 19, 20, 21, 22, 23, 24, 25, 26, 27, 28, 29, 30, 31, 32, 33, 34, 35], [0, 1, 2, 3, 4, 5, 6, 7, 8, 9, 10, 11, 12, 13, 14, 15, 16, 17, 18, 19, 20, 21, 22, 23, 24, 25, 26, 27, 28, 29, 30, 31, 32, 33, 34, 35, 36], [0, 1, 2, 3, 4, 5, 6, 7, 8, 9, 10, 11, 12, 13, 14, 15, 16, 17, 18, 19, 20, 21, 22, 23, 24, 25, 26, 27, 28, 29, 30, 31, 32, 33, 34, 35, 36, 37], [0, 1, 2, 3, 4, 5, 6, 7, 8, 9, 10, 11, 12, 13, 14, 15, 16, 17, 18, 19, 20, 21, 22, 23, 24, 25, 26, 27, 28, 29, 30, 31, 32, 33, 34, 35, 36, 37, 38], [0, 1, 2, 3, 4, 5, 6, 7, 8, 9, 10, 11, 12, 13, 14, 15, 16, 17, 18, 19, 20, 21, 22, 23, 24, 25, 26, 27, 28, 29, 30, 31, 32, 33, 34, 35, 36, 37, 38, 39], [0, 1, 2, 3, 4, 5, 6, 7, 8, 9, 10, 11, 12, 13, 14, 15, 16, 17, 18, 19, 20, 21, 22, 23, 24, 25, 26, 27, 28, 29, 30, 31, 32, 33, 34, 35, 36, 37, 38, 39, 40], [0, 1, 2, 3, 4, 5, 6, 7, 8, 9, 10, 11, 12, 13, 14, 15, 16, 17, 18, 19, 20, 21, 22, 23, 24, 25, 26, 27, 28, 29, 30, 31, 32, 33, 34, 35, 36, 37, 38, 39, 40, 41], [0, 1, 2, 3, 4, 5, 6, 7, 8, 9, 10, 11, 12, 13, 14, 15, 16, 17, 18, 19, 20, 21, 22, 23, 24, 25, 26, 27, 28, 29, 30, 31, 32, 33, 34, 35, 36, 37, 38, 39, 40, 41, 42], [0, 1, 2, 3, 4, 5, 6, 7, 8, 9, 10, 11, 12, 13, 14, 15, 16, 17, 18, 19, 20, 21, 22, 23, 24, 25, 26, 27, 28, 29, 30, 31, 32, 33, 34, 35, 36, 37, 38, 39, 40, 41, 42, 43], [0, 1, 2, 3, 4, 5, 6, 7, 8, 9, 10, 11, 12, 13, 14, 15, 16, 17, 18, 19, 20, 21, 22, 23, 24, 25, 26, 27, 28, 29, 30, 31, 32, 33, 34, 35, 36, 37, 38, 39, 40, 41, 42, 43, 44]] W J3 _
    [fun v _ => v = vPt S, fun v _ => v = nv n, fun v _ => v = nv n, fun v _ => v = .bool true, fun v _ => v = .bool true, fun v _ => v = vPt S, fun v _ => v = nv room, fun v _ => v = nv room, fun v _ => v = .bool true, fun v _ => v = .bool true, fun v _ => v = .bool true, fun v _ => v = vPt S, fun v _ => v = .int .i64 0, fun v _ => v = .bool true, fun v _ => v = .bool true, fun v _ => v = .bool true, fun v _ => v = vPt S, fun v _ => v = .int .i64 0, fun v _ => v = .bool true, fun v _ => v = .bool true, fun v _ => v = .bool true, fun v _ => v = vPt S, fun v J => NumR J v (List.range n), fun v _ => v = .pointer (some ⟨R9, 2, none⟩), fun v _ => v = .slice Ar n cr, fun v _ => v = .bool true, fun v _ => v = .bool true, fun v _ => v = .bool true, fun v _ => v = vPt S, fun v _ => v = .int .i64 vi, fun v _ => v = .int .i64 lv, fun v _ => v = .agg #[nv n, nv room, (.slice Ar n cr), .slice none 0 0, .slice none 0 0], fun v _ => v = .int .i64 vi, fun v _ => v = .int .i64 lv, fun v _ => v = .bool true, fun v _ => v = .bool true, fun v _ => v = .bool true, fun v _ => v = vPt S, fun u _ => ∃ A c, u = .slice A 0 c, fun v _ => v = .int .i64 0, fun v _ => v = .bool true, fun v _ => v = .bool true, fun v _ => v = .bool true, fun v _ => v = .bool true, fun v _ => v = .bool true, fun v _ => v = .bool true] [] (fun _ _ _ ns => ns = []) (by kernel_rfl) (by kernel_rfl) (by decide) hS3 rfl ?last (fun _ _ _ _ _ _ h => h) (fun _ _ _ _ _ _ h => h) ?plain ?step ?fin
  case last => repeat (first | exact Lasting.nil | refine Lasting.cons (fun _ _ _ _ h => h) ?_ | refine Lasting.cons (fun _ _ _ hle h => NumR.le h hle) ?_)
  case plain =>
    repeat' (first | exact trivial | apply And.intro)
    all_goals first | trivial | exact .inl rfl | skip
    all_goals
      refine .inr ?_
      intro s vals J bs w hstop hg hJ hS hG
      clear hG
      have hg0 := hg
      first
      | (simp only [zH, zI, Given, Facts] at hg; simp only [textL, actL, dstAt, opAt, zH, zI, zA, zB, zK, if_true, Act.put, zE, zF, zG, hg]; refine ⟨?_⟩; refine wpStep_of (fun K hK => ?_); have HK := Lib.hid hK; clear hK; rw [if_pos (by rfl)]
         (first
          | ((with_reducible refine atLoad ?_); first | (refine wp_i1 hS rfl ty_agg27 rfl (PH.at_le hJ iR) ?_) | (refine wp_iN hS rfl ty_agg43 rfl (iC.le hJ) ty_sz43 ?_))
          | (go_wp2_with (first | (go_at_call 19; (with_reducible refine Calls.mono (HVars.out _ (PH.le.trans hJ hS.ile)) ?_); rintro e w9 ⟨rfl, rfl⟩) | (go_at_call 20; (with_reducible refine Calls.mono (HRoom.out _ (PH.le.trans hJ hS.ile)) ?_); rintro e w9 ⟨rfl, rfl⟩) | (go_at_call 12; (with_reducible refine Calls.mono (HLen.out _ (PH.le.trans hJ hS.ile)) ?_); rintro e w9 ⟨rfl, rfl⟩) | (go_at_call 21; (with_reducible refine Calls.mono (HDead.out _ (PH.le.trans hJ hS.ile)) ?_); rintro e w9 ⟨rfl, rfl⟩) | (go_at_call 23; (with_reducible refine Calls.mono (HLev.out _ (PH.le.trans hJ hS.ile)) ?_); rintro e w9 ⟨rfl, rfl⟩) | (go_at_call 24; (with_reducible refine Calls.mono (HRLev.out _ _ _ hJ hS) ?_); clear hS; rintro e w ⟨rfl, hS⟩) | (go_at_call 22; (with_reducible refine Calls.mono (HSame.out _ _ _ _ hJ (hg0.get 22 (by decide)) hS) ?_); clear hS; rintro e w ⟨rfl, hS⟩) | (go_at_call 17; (with_reducible refine Calls.mono (lives_any hS) ?_); clear hS; rintro e w ⟨rfl, hS⟩))))
         refine HK.out _ _ ⟨rfl, J, PH.le.refl _, hS, ?_⟩
         clear HK
         simp only [Facts]
         simp only [outOf, zH, zI, Act.put, zE, zF, zG, zD, zC, zA, zB, zJ])
      | skip
    · simp only [zH, zI, Given, Facts] at hg; simp only [textL, actL, dstAt, opAt, zH, zI, zA, zB, zK, if_true, Act.put, zE, zF, zG, hg]; refine ⟨?_⟩; refine wpStep_of (fun K hK => ?_); have HK := Lib.hid hK; clear hK; rw [if_pos (by rfl)]
      go_wp2_with ((go_at_call 9; (with_reducible refine Calls.mono (sorder_any (HRd.out.le (PH.le.trans hJ hS.ile)) hS) ?_); clear hS; rintro e w ⟨v9, m9, rfl, hO9, hS9⟩))
      obtain ⟨J9, lJ9, lm9, hS9, _⟩ := hS9.ice
      have hO9 : OwnP m9 3 1 v9 (List.range n).length ((List.range n).flatMap ivC) := hO9
      have hN9 : NumR J9 v9 (List.range n) := hO9.num.le lm9
      refine HK.out _ _ ⟨rfl, J9, lJ9, hS9, ?_⟩
      clear HK
      simp only [Facts]
      simp only [outOf, zH, zI, Act.put, zE, zF, zG, zD, zC, zA, zB, zJ]
      exact hN9
    · have hn9 : NumR J (vals 22) (List.range n) := hg0.get 22 (by decide)
      simp only [zH, zI, Given, Facts] at hg; simp only [textL, actL, dstAt, opAt, zH, zI, zA, zB, zK, if_true, Act.put, zE, zF, zG, hg]; refine ⟨?_⟩; refine wpStep_of (fun K hK => ?_); have HK := Lib.hid hK; clear hK; rw [if_pos (by rfl)]
      go_wp2_with ((go_at_call 22; (with_reducible refine Calls.mono (HSame.out _ _ _ _ hJ hn9 hS) ?_); clear hS; rintro e w ⟨rfl, hS⟩))
      refine HK.out _ _ ⟨rfl, J, PH.le.refl _, hS, ?_⟩
      clear HK
      simp only [Facts]
      simp only [outOf, zH, zI, Act.put, zE, zF, zG, zD, zC, zA, zB, zJ]
    · simp only [zH, zI, Given, Facts] at hg; simp only [textL, actL, dstAt, opAt, zH, zI, zA, zB, zK, if_true, Act.put, zE, zF, zG, hg]; refine ⟨?_⟩; refine wpStep_of (fun K hK => ?_); have HK := Lib.hid hK; clear hK; rw [if_pos (by rfl)]
      go_wp2_with ((go_at_call 25; (with_reducible refine Calls.mono (all9 (HRd.out.le hJ) hS) ?_); clear hS; rintro e w ⟨A9, c9, rfl, hS⟩))
      refine HK.out _ _ ⟨rfl, J, PH.le.refl _, hS, ?_⟩
      clear HK
      simp only [Facts]
      simp only [outOf, zH, zI, Act.put, zE, zF, zG, zD, zC, zA, zB, zJ]
      exact ⟨A9, c9, rfl⟩
    · obtain ⟨A9, c9, h9⟩ : ∃ A c, vals 38 = .slice A 0 c := hg0.get 38 (by decide)
      simp only [zH, zI, Given, Facts] at hg; simp only [textL, actL, dstAt, opAt, zH, zI, zA, zB, zK, if_true, Act.put, zE, zF, zG, hg]; refine ⟨?_⟩; refine wpStep_of (fun K hK => ?_); have HK := Lib.hid hK; clear hK; rw [if_pos (by rfl)]
      simp only [h9]
      go_wp2_with fail
      refine HK.out _ _ ⟨rfl, J, PH.le.refl _, hS, ?_⟩
      clear HK
      simp only [Facts]
      simp only [outOf, zH, zI, Act.put, zE, zF, zG, zD, zC, zA, zB, zJ]
  case step => trivial
  case fin =>
    intro vals J bs w hJ hg hS hG
    have hS := hS.less hJ
    simp only [List.length_cons, List.length_nil, Nat.reduceAdd, Below_, Facts, zH, zI, true_and, and_true] at hg; simp only [List.length_cons, List.length_nil, Nat.reduceAdd, textL, actL, dstAt, opAt, zH, zI, zA, zB, zK, if_true, Act.put, zE, zF, zG, hg]; refine ⟨?_⟩
    clear hg
    go_wp2_with fail
    go_ret
    exact ⟨rfl, hS.end_ HWJ.out⟩
theorem makes_any (W : World) (a b v : Int) : Calls Try.prog 4 #[.int .i64 a, .int .i64 b, .int .i64 v] W fun e w' => e = .returned (.bool true) ∧ Below W.heap.size W w' := by
  by_cases h : a < 0 ∨ 64 < a ∨ b < 1 ∨ 1048576 < b
  · exact makes_bad W a b v h
  · obtain ⟨n, rfl⟩ : ∃ n : Nat, a = (n : Int) := ⟨a.toNat, by omega⟩
    obtain ⟨r, rfl⟩ : ∃ n : Nat, b = (n : Int) := ⟨b.toNat, by omega⟩
    exact makes_ok W n r v (by omega) (by omega) (by omega)
end Go.Proofs.Ytdhkkkhnjooioaa
