/- The reference's line. -/
import Derived.Test.YtmgjoggffnogfaaDoorWe
import Derived.BigQuiet
namespace Go.Proofs.YtmgjoggffnogfaaDoor
set_option linter.unusedSimpArgs false
set_option linter.unusedVariables false
open Go.RowKit
set_option linter.unusedVariables false
theorem lst_ext (s : ByteArray) (a b : Nat) : lst (s.extract a b) = ((lst s).drop a).take (b - a) := by
  unfold lst
  simp [ByteArray.data_extract, List.extract_eq_take_drop]
theorem lst_from (s : ByteArray) (a : Nat) : lst (s.extract a s.size) = (lst s).drop a := by
  rw [lst_ext, List.take_of_length_le (by rw [List.length_drop, lst_length]; omega)]
theorem pre_hit {s : ByteArray} {L : Nat} {W : List UInt8} {k : Int} (hW : W.map UInt8.toNat = wordL k ++ [32]) (hb : ((s.extract 0 L).toList == W) = true) : lst s = wordL k ++ 32 :: lst (s.extract L s.size) := by
  have h1 : lst (s.extract 0 L) = wordL k ++ [32] := by rw [lst_toList, eq_of_beq hb, hW]
  rw [lst_ext] at h1
  have h2 := List.take_append_drop L (lst s)
  rw [lst_from]
  simp only [List.drop_zero, Nat.sub_zero] at h1
  rw [h1, List.append_assoc, List.cons_append, List.nil_append] at h2
  exact h2.symm
theorem pre_miss {s : ByteArray} {L : Nat} {W : List UInt8} {k : Int} (hW : W.map UInt8.toNat = wordL k ++ [32]) (hL : L = (wordL k).length + 1) (hb : ((s.extract 0 L).toList == W) = false) : ¬ pre (lst s) k := by
  rintro ⟨rest, _, h⟩
  rw [beq_eq_false_iff_ne] at hb
  refine hb ?_
  have h1 : lst (s.extract 0 L) = wordL k ++ [32] := by
    rw [lst_ext, h, hL]
    rw [List.drop_zero, Nat.sub_zero, List.take_append, List.take_of_length_le (by omega), Nat.add_sub_cancel_left]
    rfl
  have h2 : (s.extract 0 L).toList.map UInt8.toNat = W.map UInt8.toNat := by rw [← lst_toList, h1, hW]
  exact (List.map_inj_right (fun _ _ => UInt8.toNat_inj.1)).1 h2
theorem pre_short {s : ByteArray} {L : Nat} {k : Int} (hL : L = (wordL k).length + 1) (h : s.size ≤ L) : ¬ pre (lst s) k := by
  rintro ⟨rest, hr, e⟩
  have := congrArg List.length e
  rw [lst_length, List.length_append, List.length_cons] at this
  have := List.length_pos_iff.2 hr
  omega
abbrev wS0 : ByteArray := ⟨#[99, 111, 108, 108, 101, 99, 116, 32]⟩
abbrev wS1 : ByteArray := ⟨#[115, 119, 97, 112, 32]⟩
abbrev wS2 : ByteArray := ⟨#[116, 117, 114, 110, 32]⟩
theorem split_at {d : ByteArray} {j : Nat} (h : (lst d)[j]? = some 32) (hno : ∀ t c, t < j → (lst d)[t]? = some c → c ≠ 32) : lst d = lst (d.extract 0 j) ++ 32 :: lst (d.extract (j + 1) d.size) ∧ 32 ∉ lst (d.extract 0 j) := by
  rw [lst_from, lst_ext, List.drop_zero, Nat.sub_zero]
  refine ⟨?_, fun hm => ?_⟩
  · have hlt := (List.getElem?_eq_some_iff.1 h).1
    have h2 := (List.getElem?_eq_some_iff.1 h).2
    conv => lhs; rw [← List.take_append_drop j (lst d)]
    rw [List.drop_eq_getElem_cons hlt, h2]
  · obtain ⟨t, ht⟩ := List.mem_iff_getElem?.1 hm
    rw [List.getElem?_take] at ht
    split at ht
    · exact hno t 32 (by assumption) ht rfl
    · cases ht
theorem ifD {α : Type} {a b : Int} {x y : α} (h : (b != 0) = true) : (if a = 0 ∧ b = 0 then some x else none) = if false = true then some y else none := by
  rw [bne_iff_ne] at h
  simp [h]
theorem ifE {α : Type} {a b : Int} {x : α} (h : (b != 0) = false) : (if a = 0 ∧ b = 0 then some x else none) = if (a == 0) = true then some x else none := by
  rw [bne_eq_false_iff_eq] at h
  subst h; simp
theorem beq0 (a : Int) : (if (a == 0) = true then (1 : Nat) else 0) = if a = 0 then 1 else 0 := by by_cases h : a = 0 <;> simp [h]
set_option maxHeartbeats 4000000 in
set_option maxRecDepth 100000 in
theorem line_any (E : World) (I : PH) (ms : List PH) (s : ByteArray) (w : World) (hs : s.size ≤ 70000) (hS : Sat E I ms w) :
    Calls Tryd.prog 31 #[.string s] w fun e w' => ∃ v0 v1 v2 b, e = .returned (.tuple #[.agg #[.int .i64 v0, .int .i64 v1, .int .i64 v2], .bool b]) ∧ EvR (lst s) b v0 v1 v2 ∧ Sat E I ms w' := by
  go_enter Tryd.func31, Tryd.ntmps31
  go_wp2_with (first | ((with_reducible refine atList ?_); first | ((with_reducible refine isBoxD 2 ?_); refine bx hS rfl rfl rfl ?_; clear hS; intro XR w hS; (try simp only [Act.eval, Array.getD_eq_getD_getElem?, List.getElem?_toArray, List.getElem?_cons_succ, List.getElem?_cons_zero, Option.getD_some, Value.cells] at hS); (try simp only [Act.put, List.setIfInBounds_toArray, List.set_cons_succ, List.set_cons_zero])) | ((with_reducible refine isAllocD 2 ?_); (refine' al (z := _) hS rfl rfl ?ha ?_); (case ha => first | exact ty_z47); clear hS; intro XR w hS; (try simp only [Act.eval, Array.getD_eq_getD_getElem?, List.getElem?_toArray, List.getElem?_cons_succ, List.getElem?_cons_zero, Option.getD_some, Value.cells] at hS); (try simp only [Act.put, List.setIfInBounds_toArray, List.set_cons_succ, List.set_cons_zero])) | ((with_reducible refine isBuildSliceD 12 ?_); (refine' bsl hS ?hr ?_); (case hr => (intro w0; go_simp; try rfl)); clear hS; intro XS w hS; (try simp only [Act.eval, Array.getD_eq_getD_getElem?, List.getElem?_toArray, List.getElem?_cons_succ, List.getElem?_cons_zero, Option.getD_some, Value.cells] at hS); (try simp only [Act.put, List.setIfInBounds_toArray, List.set_cons_succ, List.set_cons_zero])) | ((with_reducible refine isGuard ?_); first | go_skip | ((with_reducible refine guarded_no ?hw ?_); (case hw => (simp only [Region.wanted, yielded, List.getElem?_toArray, List.getElem?_cons_succ, List.getElem?_cons_zero, Option.bind_some]; first | exact (rfl : (some true == some false) = false) | exact (rfl : (some false == some true) = false))); (try simp only [Act.put, List.setIfInBounds_toArray, List.set_cons_succ, List.set_cons_zero])) | ((with_reducible refine guarded_yes ?hw ?_); case hw => (simp only [Region.wanted, yielded, List.getElem?_toArray, List.getElem?_cons_succ, List.getElem?_cons_zero, Option.bind_some, beq_self_eq_true]; done)) | ((refine' guarded_cases (b := _) ?hy ?_ ?_); (case hy => (simp only [yielded, List.getElem?_toArray, List.getElem?_cons_succ, List.getElem?_cons_zero, Option.bind_some]; exact rfl)); all_goals (intro hb; (try simp only [Bool.not_true, Bool.not_false] at hb); (try simp only [hb]); (try simp only [Act.put, List.setIfInBounds_toArray, List.set_cons_succ, List.set_cons_zero]); first | ((have hf : False := by (simp at hb; done)); cases hf) | ((have hf : False := by (simp at hb; omega)); cases hf) | skip))) | ((with_reducible refine isLoad ?_); first | (refine ldN 0 hS rfl rfl ?ha rfl rfl ?hb ?_; (case ha => first | exact ty_agg47); (case hb => first | exact ty_sz47); (try simp only [Act.put, List.setIfInBounds_toArray, List.set_cons_succ, List.set_cons_zero])) | ((refine' ldIN (vs := _) hS rfl rfl ?ha rfl ?hc ?hb ?_); (case ha => first | exact ty_agg47); (case hc => assumption); (case hb => first | exact ty_sz47); (try simp only [Act.put, List.setIfInBounds_toArray, List.set_cons_succ, List.set_cons_zero]))) | ((with_reducible refine isStore ?_); first | (refine stN 0 hS rfl rfl rfl rfl rfl ?ha rfl rfl ?_; (case ha => first | exact ty_sz47); clear hS; intro w hS; (try simp only [List.set_cons_succ, List.set_cons_zero, List.setIfInBounds_toArray, Act.eval, Array.getD_eq_getD_getElem?, List.getElem?_toArray, List.getElem?_cons_succ, List.getElem?_cons_zero, Option.getD_some, Value.cells] at hS); (try simp only [Act.put, List.setIfInBounds_toArray, List.set_cons_succ, List.set_cons_zero]))) | ((with_reducible refine isBox ?_); refine bx hS rfl rfl rfl ?_; clear hS; intro X w hS; (try simp only [Act.eval, Array.getD_eq_getD_getElem?, List.getElem?_toArray, List.getElem?_cons_succ, List.getElem?_cons_zero, Option.getD_some, Value.cells] at hS); (try simp only [Act.put, List.setIfInBounds_toArray, List.set_cons_succ, List.set_cons_zero])) | ((with_reducible refine isAlloc ?_); (refine' al (z := _) hS rfl rfl ?ha ?_); (case ha => first | exact ty_z47); clear hS; intro X w hS; (try simp only [Act.eval, Array.getD_eq_getD_getElem?, List.getElem?_toArray, List.getElem?_cons_succ, List.getElem?_cons_zero, Option.getD_some, Value.cells] at hS); (try simp only [Act.put, List.setIfInBounds_toArray, List.set_cons_succ, List.set_cons_zero])) | ((with_reducible refine isBuildSlice ?_); (refine' bsl hS ?hr ?_); (case hr => (intro w0; go_simp; rfl)); clear hS; intro XS w hS; (try simp only [Act.eval, Array.getD_eq_getD_getElem?, List.getElem?_toArray, List.getElem?_cons_succ, List.getElem?_cons_zero, Option.getD_some, Value.cells] at hS); (try simp only [Act.put, List.setIfInBounds_toArray, List.set_cons_succ, List.set_cons_zero]))))
  go_loopw [0, 5] (fun v0 v5 wr => ∃ n : Nat, n ≤ 3 ∧ v0 = .string s ∧ v5 = .int .i64 (n : Int) ∧ (∀ k : Nat, 1 ≤ k → k ≤ n → ¬ pre (lst s) k) ∧ Sat E I (PH.one XS (.cells #[.string wS0, .string wS1, .string wS2] 9) :: PH.one XR (.cells #[.int .i64 0, .int .i64 0, .int .i64 0] 47) :: ms) wr) (fun _ v5 _ => (4 - intOf v5).toNat)
  case atStart => exact ⟨0, by omega, rfl, rfl, fun k h1 h2 => by omega, hS⟩
  case round =>
    obtain ⟨n, hn, rfl, rfl, hpre, hS⟩ := hrel
    have c0 : wr.cell? ⟨XS, 0, none⟩ = some (.string wS0) := hS.cell_of (.head _) 0
    have c1 : wr.cell? ⟨XS, 1, none⟩ = some (.string wS1) := hS.cell_of (.head _) 1
    have c2 : wr.cell? ⟨XS, 2, none⟩ = some (.string wS2) := hS.cell_of (.head _) 2
    have HPre := Lib.hid hpre
    clear hpre
    by_cases h3 : n = 3
    · subst h3
      have HE := Lib.hid (show EvR (lst s) false 0 0 0 from by unfold EvR; rw [evL_none (HPre.out 1 (by omega) (by omega)) (HPre.out 2 (by omega) (by omega)) (HPre.out 3 (by omega) (by omega))]; rfl)
      go_wp2_with (first | ((with_reducible refine atList ?_); first | ((with_reducible refine isGuard ?_); first | go_skip | ((with_reducible refine guarded_no ?hw ?_); (case hw => (simp only [Region.wanted, yielded, List.getElem?_toArray, List.getElem?_cons_succ, List.getElem?_cons_zero, Option.bind_some]; first | exact (rfl : (some true == some false) = false) | exact (rfl : (some false == some true) = false))); (try simp only [Act.put, List.setIfInBounds_toArray, List.set_cons_succ, List.set_cons_zero])) | ((with_reducible refine guarded_yes ?hw ?_); case hw => (simp only [Region.wanted, yielded, List.getElem?_toArray, List.getElem?_cons_succ, List.getElem?_cons_zero, Option.bind_some, beq_self_eq_true]; done)) | ((refine' guarded_cases (b := _) ?hy ?_ ?_); (case hy => (simp only [yielded, List.getElem?_toArray, List.getElem?_cons_succ, List.getElem?_cons_zero, Option.bind_some]; exact rfl)); all_goals (intro hb; (try simp only [Bool.not_true, Bool.not_false] at hb); (try simp only [hb]); (try simp only [Act.put, List.setIfInBounds_toArray, List.set_cons_succ, List.set_cons_zero]); first | ((have hf : False := by (simp at hb; done)); cases hf) | ((have hf : False := by (simp at hb; omega)); cases hf) | skip))) | ((with_reducible refine isLoad ?_); first | (refine ldN 0 hS rfl rfl ?ha rfl rfl ?hb ?_; (case ha => first | exact ty_agg47); (case hb => first | exact ty_sz47); (try simp only [Act.put, List.setIfInBounds_toArray, List.set_cons_succ, List.set_cons_zero])) | (refine ldN 1 hS rfl rfl ?ha rfl rfl ?hb ?_; (case ha => first | exact ty_agg47); (case hb => first | exact ty_sz47); (try simp only [Act.put, List.setIfInBounds_toArray, List.set_cons_succ, List.set_cons_zero])) | ((refine' ldIN (vs := _) hS rfl rfl ?ha rfl ?hc ?hb ?_); (case ha => first | exact ty_agg47); (case hc => assumption); (case hb => first | exact ty_sz47); (try simp only [Act.put, List.setIfInBounds_toArray, List.set_cons_succ, List.set_cons_zero]))) | ((with_reducible refine isStore ?_); first | (refine stN 0 hS rfl rfl rfl rfl rfl ?ha rfl rfl ?_; (case ha => first | exact ty_sz47); clear hS; intro w hS; (try simp only [List.set_cons_succ, List.set_cons_zero, List.setIfInBounds_toArray, Act.eval, Array.getD_eq_getD_getElem?, List.getElem?_toArray, List.getElem?_cons_succ, List.getElem?_cons_zero, Option.getD_some, Value.cells] at hS); (try simp only [Act.put, List.setIfInBounds_toArray, List.set_cons_succ, List.set_cons_zero])) | (refine stN 1 hS rfl rfl rfl rfl rfl ?ha rfl rfl ?_; (case ha => first | exact ty_sz47); clear hS; intro w hS; (try simp only [List.set_cons_succ, List.set_cons_zero, List.setIfInBounds_toArray, Act.eval, Array.getD_eq_getD_getElem?, List.getElem?_toArray, List.getElem?_cons_succ, List.getElem?_cons_zero, Option.getD_some, Value.cells] at hS); (try simp only [Act.put, List.setIfInBounds_toArray, List.set_cons_succ, List.set_cons_zero]))) | ((with_reducible refine isBox ?_); refine bx hS rfl rfl rfl ?_; clear hS; intro X w hS; (try simp only [Act.eval, Array.getD_eq_getD_getElem?, List.getElem?_toArray, List.getElem?_cons_succ, List.getElem?_cons_zero, Option.getD_some, Value.cells] at hS); (try simp only [Act.put, List.setIfInBounds_toArray, List.set_cons_succ, List.set_cons_zero])) | ((with_reducible refine isAlloc ?_); (refine' al (z := _) hS rfl rfl ?ha ?_); (case ha => first | exact ty_z47); clear hS; intro X w hS; (try simp only [Act.eval, Array.getD_eq_getD_getElem?, List.getElem?_toArray, List.getElem?_cons_succ, List.getElem?_cons_zero, Option.getD_some, Value.cells] at hS); (try simp only [Act.put, List.setIfInBounds_toArray, List.set_cons_succ, List.set_cons_zero]))))
      refine bodyPost_ret (res2 rfl (rvN 1 hS rfl rfl ty_agg47 ty_sz47) (rvt rfl)) rfl ?_
      exact ⟨_, _, _, _, rfl, HE.out, hS.drop.drop⟩

    by_cases h0 : n = 0
    · subst h0
      by_cases hlen : s.size ≤ 8
      · have hd : decide ((s.size : Int) ≤ 8) = true := decide_eq_true (by omega)
        have hmiss : ¬ pre (lst s) 1 := pre_short (L := 8) rfl hlen
        have HN := Lib.hid (fun j : Nat => fun (h1 : 1 ≤ j) (h2 : j ≤ 1) => show ¬ pre (lst s) j from by
          by_cases e : j = 1
          · subst e; exact hmiss
          · exact HPre.out j h1 (by omega))
        clear hmiss
        go_wp2_with fail
        go_quiet (fail)
        have hS := hS.drewN nq
        go_wp2
        go_round
        case rel => exact ⟨1, by omega, rfl, rfl, HN.out, hS⟩
        case measure => simp [intOf]
      · have hd : decide ((s.size : Int) ≤ 8) = false := decide_eq_false (by omega)
        have hl : (8 : Int) ≤ s.size := by omega
        cases hb : ((s.extract 0 8).toList == [99, 111, 108, 108, 101, 99, 116, 32])
        · have hmiss : ¬ pre (lst s) 1 := pre_miss (L := 8) (W := [99, 111, 108, 108, 101, 99, 116, 32]) rfl rfl hb
          have HN := Lib.hid (fun j : Nat => fun (h1 : 1 ≤ j) (h2 : j ≤ 1) => show ¬ pre (lst s) j from by
            by_cases e : j = 1
            · subst e; exact hmiss
            · exact HPre.out j h1 (by omega))
          clear hmiss
          go_wp2_with fail
          go_quiet (fail)
          have hS := hS.drewN nq
          go_wp2
          go_round
          case rel => exact ⟨1, by omega, rfl, rfl, HN.out, hS⟩
          case measure => simp [intOf]
        · have HL := Lib.hid (pre_hit (k := 1) (W := [99, 111, 108, 108, 101, 99, 116, 32]) rfl hb)
          go_wp2_with fail
          go_quiet (fail)
          have hS := hS.drewN nq
          have RP := Lib.hid (fun w => rparse_any (s.extract 8 s.size) 1 9223372036854775807 w (by rw [ByteArray.size_extract]; omega) (by unfold I64; omega) (by unfold I64; omega))
          have HE := Lib.hid (evL_pre13 (k := 1) (by omega) (lst (s.extract 8 s.size)))
          go_wp2_with (first | ((with_reducible refine atList ?_); first | ((with_reducible refine isGuard ?_); first | go_skip | ((with_reducible refine guarded_no ?hw ?_); (case hw => (simp only [Region.wanted, yielded, List.getElem?_toArray, List.getElem?_cons_succ, List.getElem?_cons_zero, Option.bind_some]; first | exact (rfl : (some true == some false) = false) | exact (rfl : (some false == some true) = false))); (try simp only [Act.put, List.setIfInBounds_toArray, List.set_cons_succ, List.set_cons_zero])) | ((with_reducible refine guarded_yes ?hw ?_); case hw => (simp only [Region.wanted, yielded, List.getElem?_toArray, List.getElem?_cons_succ, List.getElem?_cons_zero, Option.bind_some, beq_self_eq_true]; done)) | ((refine' guarded_cases (b := _) ?hy ?_ ?_); (case hy => (simp only [yielded, List.getElem?_toArray, List.getElem?_cons_succ, List.getElem?_cons_zero, Option.bind_some]; exact rfl)); all_goals (intro hb; (try simp only [Bool.not_true, Bool.not_false] at hb); (try simp only [hb]); (try simp only [Act.put, List.setIfInBounds_toArray, List.set_cons_succ, List.set_cons_zero]); first | ((have hf : False := by (simp at hb; done)); cases hf) | ((have hf : False := by (simp at hb; omega)); cases hf) | skip))) | ((with_reducible refine isLoad ?_); first | (refine ld1 0 hS rfl rfl ?ha rfl rfl rfl ?_; (case ha => first | exact ty_agg9); (try simp only [Act.put, List.setIfInBounds_toArray, List.set_cons_succ, List.set_cons_zero])) | (refine ld1 1 hS rfl rfl ?ha rfl rfl rfl ?_; (case ha => first | exact ty_agg9); (try simp only [Act.put, List.setIfInBounds_toArray, List.set_cons_succ, List.set_cons_zero])) | (refine ldN 0 hS rfl rfl ?ha rfl rfl ?hb ?_; (case ha => first | exact ty_agg47); (case hb => first | exact ty_sz47); (try simp only [Act.put, List.setIfInBounds_toArray, List.set_cons_succ, List.set_cons_zero])) | (refine ldN 1 hS rfl rfl ?ha rfl rfl ?hb ?_; (case ha => first | exact ty_agg47); (case hb => first | exact ty_sz47); (try simp only [Act.put, List.setIfInBounds_toArray, List.set_cons_succ, List.set_cons_zero])) | ((refine' ldI1 (v := _) hS rfl rfl ?ha rfl ?hb ?_); (case ha => first | exact ty_agg9); (case hb => assumption); (try simp only [Act.put, List.setIfInBounds_toArray, List.set_cons_succ, List.set_cons_zero])) | ((refine' ldIN (vs := _) hS rfl rfl ?ha rfl ?hc ?hb ?_); (case ha => first | exact ty_agg47); (case hc => assumption); (case hb => first | exact ty_sz47); (try simp only [Act.put, List.setIfInBounds_toArray, List.set_cons_succ, List.set_cons_zero]))) | ((with_reducible refine isStore ?_); first | (refine st1 0 hS rfl rfl rfl rfl rfl ?ha rfl rfl ?hb ?_; (case ha => first | exact ty_sz9); (case hb => (simp; done)); clear hS; intro w hS; (try simp only [List.set_cons_succ, List.set_cons_zero, List.setIfInBounds_toArray, Act.eval, Array.getD_eq_getD_getElem?, List.getElem?_toArray, List.getElem?_cons_succ, List.getElem?_cons_zero, Option.getD_some, Value.cells] at hS); (try simp only [Act.put, List.setIfInBounds_toArray, List.set_cons_succ, List.set_cons_zero])) | (refine st1 1 hS rfl rfl rfl rfl rfl ?ha rfl rfl ?hb ?_; (case ha => first | exact ty_sz9); (case hb => (simp; done)); clear hS; intro w hS; (try simp only [List.set_cons_succ, List.set_cons_zero, List.setIfInBounds_toArray, Act.eval, Array.getD_eq_getD_getElem?, List.getElem?_toArray, List.getElem?_cons_succ, List.getElem?_cons_zero, Option.getD_some, Value.cells] at hS); (try simp only [Act.put, List.setIfInBounds_toArray, List.set_cons_succ, List.set_cons_zero])) | (refine stN 0 hS rfl rfl rfl rfl rfl ?ha rfl rfl ?_; (case ha => first | exact ty_sz47); clear hS; intro w hS; (try simp only [List.set_cons_succ, List.set_cons_zero, List.setIfInBounds_toArray, Act.eval, Array.getD_eq_getD_getElem?, List.getElem?_toArray, List.getElem?_cons_succ, List.getElem?_cons_zero, Option.getD_some, Value.cells] at hS); (try simp only [Act.put, List.setIfInBounds_toArray, List.set_cons_succ, List.set_cons_zero])) | (refine stN 1 hS rfl rfl rfl rfl rfl ?ha rfl rfl ?_; (case ha => first | exact ty_sz47); clear hS; intro w hS; (try simp only [List.set_cons_succ, List.set_cons_zero, List.setIfInBounds_toArray, Act.eval, Array.getD_eq_getD_getElem?, List.getElem?_toArray, List.getElem?_cons_succ, List.getElem?_cons_zero, Option.getD_some, Value.cells] at hS); (try simp only [Act.put, List.setIfInBounds_toArray, List.set_cons_succ, List.set_cons_zero]))) | ((with_reducible refine isBox ?_); refine bx hS rfl rfl rfl ?_; clear hS; intro X w hS; (try simp only [Act.eval, Array.getD_eq_getD_getElem?, List.getElem?_toArray, List.getElem?_cons_succ, List.getElem?_cons_zero, Option.getD_some, Value.cells] at hS); (try simp only [Act.put, List.setIfInBounds_toArray, List.set_cons_succ, List.set_cons_zero])) | ((with_reducible refine isAlloc ?_); (refine' al (z := _) hS rfl rfl ?ha ?_); (case ha => first | exact ty_z9 | exact ty_z47); clear hS; intro X w hS; (try simp only [Act.eval, Array.getD_eq_getD_getElem?, List.getElem?_toArray, List.getElem?_cons_succ, List.getElem?_cons_zero, Option.getD_some, Value.cells] at hS); (try simp only [Act.put, List.setIfInBounds_toArray, List.set_cons_succ, List.set_cons_zero]))) | (go_at_call 45; (with_reducible refine Calls.mono (RP.out _) ?_); rintro e w ⟨rfl, hb⟩; have hS2 := hS.below_ hb; clear hS hb; have hS := hS2; clear hS2))
          refine bodyPost_ret (res2 rfl (rvN 1 hS rfl rfl ty_agg47 ty_sz47) (rvt rfl)) rfl ?_
          refine ⟨_, _, _, _, rfl, ?_, hS.drop.drop⟩
          unfold EvR
          rw [HL.out, HE.out]
          exact ifC
    by_cases h1 : n = 1
    · subst h1
      by_cases hlen : s.size ≤ 5
      · have hd : decide ((s.size : Int) ≤ 5) = true := decide_eq_true (by omega)
        have hmiss : ¬ pre (lst s) 2 := pre_short (L := 5) rfl hlen
        have HN := Lib.hid (fun j : Nat => fun (h1 : 1 ≤ j) (h2 : j ≤ 2) => show ¬ pre (lst s) j from by
          by_cases e : j = 2
          · subst e; exact hmiss
          · exact HPre.out j h1 (by omega))
        clear hmiss
        go_wp2_with fail
        go_quiet (fail)
        have hS := hS.drewN nq
        go_wp2
        go_round
        case rel => exact ⟨2, by omega, rfl, rfl, HN.out, hS⟩
        case measure => simp [intOf]
      · have hd : decide ((s.size : Int) ≤ 5) = false := decide_eq_false (by omega)
        have hl : (5 : Int) ≤ s.size := by omega
        cases hb : ((s.extract 0 5).toList == [115, 119, 97, 112, 32])
        · have hmiss : ¬ pre (lst s) 2 := pre_miss (L := 5) (W := [115, 119, 97, 112, 32]) rfl rfl hb
          have HN := Lib.hid (fun j : Nat => fun (h1 : 1 ≤ j) (h2 : j ≤ 2) => show ¬ pre (lst s) j from by
            by_cases e : j = 2
            · subst e; exact hmiss
            · exact HPre.out j h1 (by omega))
          clear hmiss
          go_wp2_with fail
          go_quiet (fail)
          have hS := hS.drewN nq
          go_wp2
          go_round
          case rel => exact ⟨2, by omega, rfl, rfl, HN.out, hS⟩
          case measure => simp [intOf]
        · have HL := Lib.hid (pre_hit (k := 2) (W := [115, 119, 97, 112, 32]) rfl hb)
          go_wp2_with fail
          go_quiet (fail)
          have hS := hS.drewN nq
          generalize hd2 : s.extract 5 s.size = d at *
          have hds : d.size ≤ 70000 := by rw [← hd2, ByteArray.size_extract]; omega
          clear hd hb hlen c0 c1 c2
          go_wp2_with (first | ((with_reducible refine atList ?_); first | ((with_reducible refine isGuard ?_); first | go_skip | ((with_reducible refine guarded_no ?hw ?_); (case hw => (simp only [Region.wanted, yielded, List.getElem?_toArray, List.getElem?_cons_succ, List.getElem?_cons_zero, Option.bind_some]; first | exact (rfl : (some true == some false) = false) | exact (rfl : (some false == some true) = false))); (try simp only [Act.put, List.setIfInBounds_toArray, List.set_cons_succ, List.set_cons_zero])) | ((with_reducible refine guarded_yes ?hw ?_); case hw => (simp only [Region.wanted, yielded, List.getElem?_toArray, List.getElem?_cons_succ, List.getElem?_cons_zero, Option.bind_some, beq_self_eq_true]; done)) | ((refine' guarded_cases (b := _) ?hy ?_ ?_); (case hy => (simp only [yielded, List.getElem?_toArray, List.getElem?_cons_succ, List.getElem?_cons_zero, Option.bind_some]; exact rfl)); all_goals (intro hb; (try simp only [Bool.not_true, Bool.not_false] at hb); (try simp only [hb]); (try simp only [Act.put, List.setIfInBounds_toArray, List.set_cons_succ, List.set_cons_zero]); first | ((have hf : False := by (simp at hb; done)); cases hf) | ((have hf : False := by (simp at hb; omega)); cases hf) | skip))) | ((with_reducible refine isLoad ?_); first | (refine ld1 0 hS rfl rfl ?ha rfl rfl rfl ?_; (case ha => first | exact ty_agg9); (try simp only [Act.put, List.setIfInBounds_toArray, List.set_cons_succ, List.set_cons_zero])) | (refine ld1 1 hS rfl rfl ?ha rfl rfl rfl ?_; (case ha => first | exact ty_agg9); (try simp only [Act.put, List.setIfInBounds_toArray, List.set_cons_succ, List.set_cons_zero])) | (refine ldN 0 hS rfl rfl ?ha rfl rfl ?hb ?_; (case ha => first | exact ty_agg47); (case hb => first | exact ty_sz47); (try simp only [Act.put, List.setIfInBounds_toArray, List.set_cons_succ, List.set_cons_zero])) | (refine ldN 1 hS rfl rfl ?ha rfl rfl ?hb ?_; (case ha => first | exact ty_agg47); (case hb => first | exact ty_sz47); (try simp only [Act.put, List.setIfInBounds_toArray, List.set_cons_succ, List.set_cons_zero])) | ((refine' ldI1 (v := _) hS rfl rfl ?ha rfl ?hb ?_); (case ha => first | exact ty_agg9); (case hb => assumption); (try simp only [Act.put, List.setIfInBounds_toArray, List.set_cons_succ, List.set_cons_zero])) | ((refine' ldIN (vs := _) hS rfl rfl ?ha rfl ?hc ?hb ?_); (case ha => first | exact ty_agg47); (case hc => assumption); (case hb => first | exact ty_sz47); (try simp only [Act.put, List.setIfInBounds_toArray, List.set_cons_succ, List.set_cons_zero]))) | ((with_reducible refine isStore ?_); first | (refine st1 0 hS rfl rfl rfl rfl rfl ?ha rfl rfl ?hb ?_; (case ha => first | exact ty_sz9); (case hb => (simp; done)); clear hS; intro w hS; (try simp only [List.set_cons_succ, List.set_cons_zero, List.setIfInBounds_toArray, Act.eval, Array.getD_eq_getD_getElem?, List.getElem?_toArray, List.getElem?_cons_succ, List.getElem?_cons_zero, Option.getD_some, Value.cells] at hS); (try simp only [Act.put, List.setIfInBounds_toArray, List.set_cons_succ, List.set_cons_zero])) | (refine st1 1 hS rfl rfl rfl rfl rfl ?ha rfl rfl ?hb ?_; (case ha => first | exact ty_sz9); (case hb => (simp; done)); clear hS; intro w hS; (try simp only [List.set_cons_succ, List.set_cons_zero, List.setIfInBounds_toArray, Act.eval, Array.getD_eq_getD_getElem?, List.getElem?_toArray, List.getElem?_cons_succ, List.getElem?_cons_zero, Option.getD_some, Value.cells] at hS); (try simp only [Act.put, List.setIfInBounds_toArray, List.set_cons_succ, List.set_cons_zero])) | (refine stN 0 hS rfl rfl rfl rfl rfl ?ha rfl rfl ?_; (case ha => first | exact ty_sz47); clear hS; intro w hS; (try simp only [List.set_cons_succ, List.set_cons_zero, List.setIfInBounds_toArray, Act.eval, Array.getD_eq_getD_getElem?, List.getElem?_toArray, List.getElem?_cons_succ, List.getElem?_cons_zero, Option.getD_some, Value.cells] at hS); (try simp only [Act.put, List.setIfInBounds_toArray, List.set_cons_succ, List.set_cons_zero])) | (refine stN 1 hS rfl rfl rfl rfl rfl ?ha rfl rfl ?_; (case ha => first | exact ty_sz47); clear hS; intro w hS; (try simp only [List.set_cons_succ, List.set_cons_zero, List.setIfInBounds_toArray, Act.eval, Array.getD_eq_getD_getElem?, List.getElem?_toArray, List.getElem?_cons_succ, List.getElem?_cons_zero, Option.getD_some, Value.cells] at hS); (try simp only [Act.put, List.setIfInBounds_toArray, List.set_cons_succ, List.set_cons_zero]))) | ((with_reducible refine isBox ?_); refine bx hS rfl rfl rfl ?_; clear hS; intro X w hS; (try simp only [Act.eval, Array.getD_eq_getD_getElem?, List.getElem?_toArray, List.getElem?_cons_succ, List.getElem?_cons_zero, Option.getD_some, Value.cells] at hS); (try simp only [Act.put, List.setIfInBounds_toArray, List.set_cons_succ, List.set_cons_zero])) | ((with_reducible refine isAlloc ?_); (refine' al (z := _) hS rfl rfl ?ha ?_); (case ha => first | exact ty_z9 | exact ty_z47); clear hS; intro X w hS; (try simp only [Act.eval, Array.getD_eq_getD_getElem?, List.getElem?_toArray, List.getElem?_cons_succ, List.getElem?_cons_zero, Option.getD_some, Value.cells] at hS); (try simp only [Act.put, List.setIfInBounds_toArray, List.set_cons_succ, List.set_cons_zero]))))
          clear hd2 hl
          go_loopw [7] (fun v7 wr => ∃ j : Nat, j ≤ d.size ∧ v7 = .int .i64 (j : Int) ∧ (∀ t c, t < j → (lst d)[t]? = some c → c ≠ 32) ∧ Sat E I (PH.one XS (.cells #[.string wS0, .string wS1, .string wS2] 9) :: PH.one XR (.cells #[.int .i64 0, .int .i64 0, .int .i64 0] 47) :: ms) wr) (fun v7 _ => (d.size - intOf v7).toNat)
          case atStart => exact ⟨0, by omega, rfl, fun t c h => by omega, hS⟩
          case round =>
            clear hS
            obtain ⟨j, hj, rfl, hno, hS⟩ := hrel
            have HNo := Lib.hid hno
            clear hno
            by_cases hlt : j < d.size
            · obtain ⟨c, hc, hc2, hcl⟩ := byteI d j hlt
              have Hcl := Lib.hid hcl
              clear hcl
              by_cases h32 : c = 32
              · subst h32
                have hat := Lib.hid (split_at Hcl.out HNo.out)
                have RP2 := Lib.hid (fun w => rparse_any (d.extract (j + 1) d.size) 0 9223372036854775807 w (by rw [ByteArray.size_extract]; omega) (by unfold I64; omega) (by unfold I64; omega))
                have RP1 := Lib.hid (fun w => rparse_any (d.extract 0 j) 1 9223372036854775807 w (by rw [ByteArray.size_extract]; omega) (by unfold I64; omega) (by unfold I64; omega))
                have HE := Lib.hid (evL_pre2 (x := lst (d.extract 0 j)) (y := lst (d.extract (j + 1) d.size)) hat.out.2)
                have hat := Lib.hid hat.out.1
                have hlt2 : (j : Int) < d.size := by omega
                go_wp2_with (first | ((with_reducible refine atList ?_); first | ((with_reducible refine isGuard ?_); first | go_skip | ((with_reducible refine guarded_no ?hw ?_); (case hw => (simp only [Region.wanted, yielded, List.getElem?_toArray, List.getElem?_cons_succ, List.getElem?_cons_zero, Option.bind_some]; first | exact (rfl : (some true == some false) = false) | exact (rfl : (some false == some true) = false))); (try simp only [Act.put, List.setIfInBounds_toArray, List.set_cons_succ, List.set_cons_zero])) | ((with_reducible refine guarded_yes ?hw ?_); case hw => (simp only [Region.wanted, yielded, List.getElem?_toArray, List.getElem?_cons_succ, List.getElem?_cons_zero, Option.bind_some, beq_self_eq_true]; done)) | ((refine' guarded_cases (b := _) ?hy ?_ ?_); (case hy => (simp only [yielded, List.getElem?_toArray, List.getElem?_cons_succ, List.getElem?_cons_zero, Option.bind_some]; exact rfl)); all_goals (intro hb; (try simp only [Bool.not_true, Bool.not_false] at hb); (try simp only [hb]); (try simp only [Act.put, List.setIfInBounds_toArray, List.set_cons_succ, List.set_cons_zero]); first | ((have hf : False := by (simp at hb; done)); cases hf) | ((have hf : False := by (simp at hb; omega)); cases hf) | skip))) | ((with_reducible refine isLoad ?_); first | (refine ld1 0 hS rfl rfl ?ha rfl rfl rfl ?_; (case ha => first | exact ty_agg9); (try simp only [Act.put, List.setIfInBounds_toArray, List.set_cons_succ, List.set_cons_zero])) | (refine ld1 1 hS rfl rfl ?ha rfl rfl rfl ?_; (case ha => first | exact ty_agg9); (try simp only [Act.put, List.setIfInBounds_toArray, List.set_cons_succ, List.set_cons_zero])) | (refine ldN 0 hS rfl rfl ?ha rfl rfl ?hb ?_; (case ha => first | exact ty_agg47); (case hb => first | exact ty_sz47); (try simp only [Act.put, List.setIfInBounds_toArray, List.set_cons_succ, List.set_cons_zero])) | (refine ldN 1 hS rfl rfl ?ha rfl rfl ?hb ?_; (case ha => first | exact ty_agg47); (case hb => first | exact ty_sz47); (try simp only [Act.put, List.setIfInBounds_toArray, List.set_cons_succ, List.set_cons_zero])) | ((refine' ldI1 (v := _) hS rfl rfl ?ha rfl ?hb ?_); (case ha => first | exact ty_agg9); (case hb => assumption); (try simp only [Act.put, List.setIfInBounds_toArray, List.set_cons_succ, List.set_cons_zero])) | ((refine' ldIN (vs := _) hS rfl rfl ?ha rfl ?hc ?hb ?_); (case ha => first | exact ty_agg47); (case hc => assumption); (case hb => first | exact ty_sz47); (try simp only [Act.put, List.setIfInBounds_toArray, List.set_cons_succ, List.set_cons_zero]))) | ((with_reducible refine isStore ?_); first | (refine st1 0 hS rfl rfl rfl rfl rfl ?ha rfl rfl ?hb ?_; (case ha => first | exact ty_sz9); (case hb => (simp; done)); clear hS; intro w hS; (try simp only [List.set_cons_succ, List.set_cons_zero, List.setIfInBounds_toArray, Act.eval, Array.getD_eq_getD_getElem?, List.getElem?_toArray, List.getElem?_cons_succ, List.getElem?_cons_zero, Option.getD_some, Value.cells] at hS); (try simp only [Act.put, List.setIfInBounds_toArray, List.set_cons_succ, List.set_cons_zero])) | (refine st1 1 hS rfl rfl rfl rfl rfl ?ha rfl rfl ?hb ?_; (case ha => first | exact ty_sz9); (case hb => (simp; done)); clear hS; intro w hS; (try simp only [List.set_cons_succ, List.set_cons_zero, List.setIfInBounds_toArray, Act.eval, Array.getD_eq_getD_getElem?, List.getElem?_toArray, List.getElem?_cons_succ, List.getElem?_cons_zero, Option.getD_some, Value.cells] at hS); (try simp only [Act.put, List.setIfInBounds_toArray, List.set_cons_succ, List.set_cons_zero])) | (refine stN 0 hS rfl rfl rfl rfl rfl ?ha rfl rfl ?_; (case ha => first | exact ty_sz47); clear hS; intro w hS; (try simp only [List.set_cons_succ, List.set_cons_zero, List.setIfInBounds_toArray, Act.eval, Array.getD_eq_getD_getElem?, List.getElem?_toArray, List.getElem?_cons_succ, List.getElem?_cons_zero, Option.getD_some, Value.cells] at hS); (try simp only [Act.put, List.setIfInBounds_toArray, List.set_cons_succ, List.set_cons_zero])) | (refine stN 1 hS rfl rfl rfl rfl rfl ?ha rfl rfl ?_; (case ha => first | exact ty_sz47); clear hS; intro w hS; (try simp only [List.set_cons_succ, List.set_cons_zero, List.setIfInBounds_toArray, Act.eval, Array.getD_eq_getD_getElem?, List.getElem?_toArray, List.getElem?_cons_succ, List.getElem?_cons_zero, Option.getD_some, Value.cells] at hS); (try simp only [Act.put, List.setIfInBounds_toArray, List.set_cons_succ, List.set_cons_zero]))) | ((with_reducible refine isBox ?_); refine bx hS rfl rfl rfl ?_; clear hS; intro X w hS; (try simp only [Act.eval, Array.getD_eq_getD_getElem?, List.getElem?_toArray, List.getElem?_cons_succ, List.getElem?_cons_zero, Option.getD_some, Value.cells] at hS); (try simp only [Act.put, List.setIfInBounds_toArray, List.set_cons_succ, List.set_cons_zero])) | ((with_reducible refine isAlloc ?_); (refine' al (z := _) hS rfl rfl ?ha ?_); (case ha => first | exact ty_z9 | exact ty_z47); clear hS; intro X w hS; (try simp only [Act.eval, Array.getD_eq_getD_getElem?, List.getElem?_toArray, List.getElem?_cons_succ, List.getElem?_cons_zero, Option.getD_some, Value.cells] at hS); (try simp only [Act.put, List.setIfInBounds_toArray, List.set_cons_succ, List.set_cons_zero]))) | (go_at_call 45; first | ((with_reducible refine Calls.mono (RP2.out _) ?_); rintro e w ⟨rfl, hb⟩; have hS2 := hS.below_ hb; clear hS hb; have hS := hS2; clear hS2) | ((with_reducible refine Calls.mono (RP1.out _) ?_); rintro e w ⟨rfl, hb⟩; have hS2 := hS.below_ hb; clear hS hb; have hS := hS2; clear hS2)))
                all_goals
                  (refine bodyPost_ret (res2 rfl (rvN 1 hS rfl rfl ty_agg47 ty_sz47) (rvt rfl)) rfl ?_; refine ⟨_, _, _, _, rfl, ?_, hS.drop.drop⟩; unfold EvR); rw [HL.out, hat.out, HE.out]
                  first | exact ifD (by assumption) | exact ifE (by assumption)
              · have hne : ((c : Int) != 32) = true := by rw [bne_iff_ne]; omega
                go_wp2
                go_round
                case rel => exact ⟨j + 1, by omega, by go_num, fun t c' ht hc' => by
                  by_cases e : t = j
                  · subst e; rw [Hcl.out] at hc'; injection hc' with hc'; omega
                  · exact HNo.out t c' (by omega) hc', hS⟩
                case measure => simp [intOf]; omega
            · have hje : j = d.size := by omega
              subst hje
              have HE := Lib.hid (evL_pre2n (x := lst d) (fun h => by
                obtain ⟨t, ht⟩ := List.mem_iff_getElem?.1 h
                refine HNo.out t 32 ?_ ht rfl
                have := (List.getElem?_eq_some_iff.1 ht).1
                rw [lst_length] at this; exact this))
              go_wp2_with (first | ((with_reducible refine atList ?_); first | ((with_reducible refine isGuard ?_); first | go_skip | ((with_reducible refine guarded_no ?hw ?_); (case hw => (simp only [Region.wanted, yielded, List.getElem?_toArray, List.getElem?_cons_succ, List.getElem?_cons_zero, Option.bind_some]; first | exact (rfl : (some true == some false) = false) | exact (rfl : (some false == some true) = false))); (try simp only [Act.put, List.setIfInBounds_toArray, List.set_cons_succ, List.set_cons_zero])) | ((with_reducible refine guarded_yes ?hw ?_); case hw => (simp only [Region.wanted, yielded, List.getElem?_toArray, List.getElem?_cons_succ, List.getElem?_cons_zero, Option.bind_some, beq_self_eq_true]; done)) | ((refine' guarded_cases (b := _) ?hy ?_ ?_); (case hy => (simp only [yielded, List.getElem?_toArray, List.getElem?_cons_succ, List.getElem?_cons_zero, Option.bind_some]; exact rfl)); all_goals (intro hb; (try simp only [Bool.not_true, Bool.not_false] at hb); (try simp only [hb]); (try simp only [Act.put, List.setIfInBounds_toArray, List.set_cons_succ, List.set_cons_zero]); first | ((have hf : False := by (simp at hb; done)); cases hf) | ((have hf : False := by (simp at hb; omega)); cases hf) | skip))) | ((with_reducible refine isLoad ?_); first | (refine ld1 0 hS rfl rfl ?ha rfl rfl rfl ?_; (case ha => first | exact ty_agg9); (try simp only [Act.put, List.setIfInBounds_toArray, List.set_cons_succ, List.set_cons_zero])) | (refine ld1 1 hS rfl rfl ?ha rfl rfl rfl ?_; (case ha => first | exact ty_agg9); (try simp only [Act.put, List.setIfInBounds_toArray, List.set_cons_succ, List.set_cons_zero])) | (refine ldN 0 hS rfl rfl ?ha rfl rfl ?hb ?_; (case ha => first | exact ty_agg47); (case hb => first | exact ty_sz47); (try simp only [Act.put, List.setIfInBounds_toArray, List.set_cons_succ, List.set_cons_zero])) | (refine ldN 1 hS rfl rfl ?ha rfl rfl ?hb ?_; (case ha => first | exact ty_agg47); (case hb => first | exact ty_sz47); (try simp only [Act.put, List.setIfInBounds_toArray, List.set_cons_succ, List.set_cons_zero])) | ((refine' ldI1 (v := _) hS rfl rfl ?ha rfl ?hb ?_); (case ha => first | exact ty_agg9); (case hb => assumption); (try simp only [Act.put, List.setIfInBounds_toArray, List.set_cons_succ, List.set_cons_zero])) | ((refine' ldIN (vs := _) hS rfl rfl ?ha rfl ?hc ?hb ?_); (case ha => first | exact ty_agg47); (case hc => assumption); (case hb => first | exact ty_sz47); (try simp only [Act.put, List.setIfInBounds_toArray, List.set_cons_succ, List.set_cons_zero]))) | ((with_reducible refine isStore ?_); first | (refine st1 0 hS rfl rfl rfl rfl rfl ?ha rfl rfl ?hb ?_; (case ha => first | exact ty_sz9); (case hb => (simp; done)); clear hS; intro w hS; (try simp only [List.set_cons_succ, List.set_cons_zero, List.setIfInBounds_toArray, Act.eval, Array.getD_eq_getD_getElem?, List.getElem?_toArray, List.getElem?_cons_succ, List.getElem?_cons_zero, Option.getD_some, Value.cells] at hS); (try simp only [Act.put, List.setIfInBounds_toArray, List.set_cons_succ, List.set_cons_zero])) | (refine st1 1 hS rfl rfl rfl rfl rfl ?ha rfl rfl ?hb ?_; (case ha => first | exact ty_sz9); (case hb => (simp; done)); clear hS; intro w hS; (try simp only [List.set_cons_succ, List.set_cons_zero, List.setIfInBounds_toArray, Act.eval, Array.getD_eq_getD_getElem?, List.getElem?_toArray, List.getElem?_cons_succ, List.getElem?_cons_zero, Option.getD_some, Value.cells] at hS); (try simp only [Act.put, List.setIfInBounds_toArray, List.set_cons_succ, List.set_cons_zero])) | (refine stN 0 hS rfl rfl rfl rfl rfl ?ha rfl rfl ?_; (case ha => first | exact ty_sz47); clear hS; intro w hS; (try simp only [List.set_cons_succ, List.set_cons_zero, List.setIfInBounds_toArray, Act.eval, Array.getD_eq_getD_getElem?, List.getElem?_toArray, List.getElem?_cons_succ, List.getElem?_cons_zero, Option.getD_some, Value.cells] at hS); (try simp only [Act.put, List.setIfInBounds_toArray, List.set_cons_succ, List.set_cons_zero])) | (refine stN 1 hS rfl rfl rfl rfl rfl ?ha rfl rfl ?_; (case ha => first | exact ty_sz47); clear hS; intro w hS; (try simp only [List.set_cons_succ, List.set_cons_zero, List.setIfInBounds_toArray, Act.eval, Array.getD_eq_getD_getElem?, List.getElem?_toArray, List.getElem?_cons_succ, List.getElem?_cons_zero, Option.getD_some, Value.cells] at hS); (try simp only [Act.put, List.setIfInBounds_toArray, List.set_cons_succ, List.set_cons_zero]))) | ((with_reducible refine isBox ?_); refine bx hS rfl rfl rfl ?_; clear hS; intro X w hS; (try simp only [Act.eval, Array.getD_eq_getD_getElem?, List.getElem?_toArray, List.getElem?_cons_succ, List.getElem?_cons_zero, Option.getD_some, Value.cells] at hS); (try simp only [Act.put, List.setIfInBounds_toArray, List.set_cons_succ, List.set_cons_zero])) | ((with_reducible refine isAlloc ?_); (refine' al (z := _) hS rfl rfl ?ha ?_); (case ha => first | exact ty_z9 | exact ty_z47); clear hS; intro X w hS; (try simp only [Act.eval, Array.getD_eq_getD_getElem?, List.getElem?_toArray, List.getElem?_cons_succ, List.getElem?_cons_zero, Option.getD_some, Value.cells] at hS); (try simp only [Act.put, List.setIfInBounds_toArray, List.set_cons_succ, List.set_cons_zero]))))
              (refine bodyPost_ret (res2 rfl (rvN 1 hS rfl rfl ty_agg47 ty_sz47) (rvt rfl)) rfl ?_; refine ⟨_, _, _, _, rfl, ?_, hS.drop.drop⟩; unfold EvR); rw [HL.out, HE.out]
              rfl
    by_cases h2 : n = 2
    · subst h2
      by_cases hlen : s.size ≤ 5
      · have hd : decide ((s.size : Int) ≤ 5) = true := decide_eq_true (by omega)
        have hmiss : ¬ pre (lst s) 3 := pre_short (L := 5) rfl hlen
        have HN := Lib.hid (fun j : Nat => fun (h1 : 1 ≤ j) (h2 : j ≤ 3) => show ¬ pre (lst s) j from by
          by_cases e : j = 3
          · subst e; exact hmiss
          · exact HPre.out j h1 (by omega))
        clear hmiss
        go_wp2_with fail
        go_quiet (fail)
        have hS := hS.drewN nq
        go_wp2
        go_round
        case rel => exact ⟨3, by omega, rfl, rfl, HN.out, hS⟩
        case measure => simp [intOf]
      · have hd : decide ((s.size : Int) ≤ 5) = false := decide_eq_false (by omega)
        have hl : (5 : Int) ≤ s.size := by omega
        cases hb : ((s.extract 0 5).toList == [116, 117, 114, 110, 32])
        · have hmiss : ¬ pre (lst s) 3 := pre_miss (L := 5) (W := [116, 117, 114, 110, 32]) rfl rfl hb
          have HN := Lib.hid (fun j : Nat => fun (h1 : 1 ≤ j) (h2 : j ≤ 3) => show ¬ pre (lst s) j from by
            by_cases e : j = 3
            · subst e; exact hmiss
            · exact HPre.out j h1 (by omega))
          clear hmiss
          go_wp2_with fail
          go_quiet (fail)
          have hS := hS.drewN nq
          go_wp2
          go_round
          case rel => exact ⟨3, by omega, rfl, rfl, HN.out, hS⟩
          case measure => simp [intOf]
        · have HL := Lib.hid (pre_hit (k := 3) (W := [116, 117, 114, 110, 32]) rfl hb)
          go_wp2_with fail
          go_quiet (fail)
          have hS := hS.drewN nq
          have RP := Lib.hid (fun w => rparse_any (s.extract 5 s.size) 1 9223372036854775807 w (by rw [ByteArray.size_extract]; omega) (by unfold I64; omega) (by unfold I64; omega))
          have HE := Lib.hid (evL_pre13 (k := 3) (by omega) (lst (s.extract 5 s.size)))
          go_wp2_with (first | ((with_reducible refine atList ?_); first | ((with_reducible refine isGuard ?_); first | go_skip | ((with_reducible refine guarded_no ?hw ?_); (case hw => (simp only [Region.wanted, yielded, List.getElem?_toArray, List.getElem?_cons_succ, List.getElem?_cons_zero, Option.bind_some]; first | exact (rfl : (some true == some false) = false) | exact (rfl : (some false == some true) = false))); (try simp only [Act.put, List.setIfInBounds_toArray, List.set_cons_succ, List.set_cons_zero])) | ((with_reducible refine guarded_yes ?hw ?_); case hw => (simp only [Region.wanted, yielded, List.getElem?_toArray, List.getElem?_cons_succ, List.getElem?_cons_zero, Option.bind_some, beq_self_eq_true]; done)) | ((refine' guarded_cases (b := _) ?hy ?_ ?_); (case hy => (simp only [yielded, List.getElem?_toArray, List.getElem?_cons_succ, List.getElem?_cons_zero, Option.bind_some]; exact rfl)); all_goals (intro hb; (try simp only [Bool.not_true, Bool.not_false] at hb); (try simp only [hb]); (try simp only [Act.put, List.setIfInBounds_toArray, List.set_cons_succ, List.set_cons_zero]); first | ((have hf : False := by (simp at hb; done)); cases hf) | ((have hf : False := by (simp at hb; omega)); cases hf) | skip))) | ((with_reducible refine isLoad ?_); first | (refine ld1 0 hS rfl rfl ?ha rfl rfl rfl ?_; (case ha => first | exact ty_agg9); (try simp only [Act.put, List.setIfInBounds_toArray, List.set_cons_succ, List.set_cons_zero])) | (refine ld1 1 hS rfl rfl ?ha rfl rfl rfl ?_; (case ha => first | exact ty_agg9); (try simp only [Act.put, List.setIfInBounds_toArray, List.set_cons_succ, List.set_cons_zero])) | (refine ldN 0 hS rfl rfl ?ha rfl rfl ?hb ?_; (case ha => first | exact ty_agg47); (case hb => first | exact ty_sz47); (try simp only [Act.put, List.setIfInBounds_toArray, List.set_cons_succ, List.set_cons_zero])) | (refine ldN 1 hS rfl rfl ?ha rfl rfl ?hb ?_; (case ha => first | exact ty_agg47); (case hb => first | exact ty_sz47); (try simp only [Act.put, List.setIfInBounds_toArray, List.set_cons_succ, List.set_cons_zero])) | ((refine' ldI1 (v := _) hS rfl rfl ?ha rfl ?hb ?_); (case ha => first | exact ty_agg9); (case hb => assumption); (try simp only [Act.put, List.setIfInBounds_toArray, List.set_cons_succ, List.set_cons_zero])) | ((refine' ldIN (vs := _) hS rfl rfl ?ha rfl ?hc ?hb ?_); (case ha => first | exact ty_agg47); (case hc => assumption); (case hb => first | exact ty_sz47); (try simp only [Act.put, List.setIfInBounds_toArray, List.set_cons_succ, List.set_cons_zero]))) | ((with_reducible refine isStore ?_); first | (refine st1 0 hS rfl rfl rfl rfl rfl ?ha rfl rfl ?hb ?_; (case ha => first | exact ty_sz9); (case hb => (simp; done)); clear hS; intro w hS; (try simp only [List.set_cons_succ, List.set_cons_zero, List.setIfInBounds_toArray, Act.eval, Array.getD_eq_getD_getElem?, List.getElem?_toArray, List.getElem?_cons_succ, List.getElem?_cons_zero, Option.getD_some, Value.cells] at hS); (try simp only [Act.put, List.setIfInBounds_toArray, List.set_cons_succ, List.set_cons_zero])) | (refine st1 1 hS rfl rfl rfl rfl rfl ?ha rfl rfl ?hb ?_; (case ha => first | exact ty_sz9); (case hb => (simp; done)); clear hS; intro w hS; (try simp only [List.set_cons_succ, List.set_cons_zero, List.setIfInBounds_toArray, Act.eval, Array.getD_eq_getD_getElem?, List.getElem?_toArray, List.getElem?_cons_succ, List.getElem?_cons_zero, Option.getD_some, Value.cells] at hS); (try simp only [Act.put, List.setIfInBounds_toArray, List.set_cons_succ, List.set_cons_zero])) | (refine stN 0 hS rfl rfl rfl rfl rfl ?ha rfl rfl ?_; (case ha => first | exact ty_sz47); clear hS; intro w hS; (try simp only [List.set_cons_succ, List.set_cons_zero, List.setIfInBounds_toArray, Act.eval, Array.getD_eq_getD_getElem?, List.getElem?_toArray, List.getElem?_cons_succ, List.getElem?_cons_zero, Option.getD_some, Value.cells] at hS); (try simp only [Act.put, List.setIfInBounds_toArray, List.set_cons_succ, List.set_cons_zero])) | (refine stN 1 hS rfl rfl rfl rfl rfl ?ha rfl rfl ?_; (case ha => first | exact ty_sz47); clear hS; intro w hS; (try simp only [List.set_cons_succ, List.set_cons_zero, List.setIfInBounds_toArray, Act.eval, Array.getD_eq_getD_getElem?, List.getElem?_toArray, List.getElem?_cons_succ, List.getElem?_cons_zero, Option.getD_some, Value.cells] at hS); (try simp only [Act.put, List.setIfInBounds_toArray, List.set_cons_succ, List.set_cons_zero]))) | ((with_reducible refine isBox ?_); refine bx hS rfl rfl rfl ?_; clear hS; intro X w hS; (try simp only [Act.eval, Array.getD_eq_getD_getElem?, List.getElem?_toArray, List.getElem?_cons_succ, List.getElem?_cons_zero, Option.getD_some, Value.cells] at hS); (try simp only [Act.put, List.setIfInBounds_toArray, List.set_cons_succ, List.set_cons_zero])) | ((with_reducible refine isAlloc ?_); (refine' al (z := _) hS rfl rfl ?ha ?_); (case ha => first | exact ty_z9 | exact ty_z47); clear hS; intro X w hS; (try simp only [Act.eval, Array.getD_eq_getD_getElem?, List.getElem?_toArray, List.getElem?_cons_succ, List.getElem?_cons_zero, Option.getD_some, Value.cells] at hS); (try simp only [Act.put, List.setIfInBounds_toArray, List.set_cons_succ, List.set_cons_zero]))) | (go_at_call 45; (with_reducible refine Calls.mono (RP.out _) ?_); rintro e w ⟨rfl, hb⟩; have hS2 := hS.below_ hb; clear hS hb; have hS := hS2; clear hS2))
          refine bodyPost_ret (res2 rfl (rvN 1 hS rfl rfl ty_agg47 ty_sz47) (rvt rfl)) rfl ?_
          refine ⟨_, _, _, _, rfl, ?_, hS.drop.drop⟩
          unfold EvR
          rw [HL.out, HE.out]
          exact ifC
    omega
end Go.Proofs.YtmgjoggffnogfaaDoor
