/- Contracts of the reference's Text. -/
import Derived.Test.YtcnejokbldohlaaNc
namespace Go.Proofs.Ytcnejokbldohlaa
open Go.ChangeShapes Go.WideShapes Go.ChangeAt Go.RowKit
set_option linter.unusedVariables false
theorem strOfNums_append (a b : List Int) : strOfNums a ++ strOfNums b = strOfNums (a ++ b) := by
  unfold strOfNums
  apply ByteArray.ext
  simp
def strLen : Value → Nat
  | .string b => b.size
  | _ => 0
theorem str_size (acc : List Nat) (h : acc.length ≤ 20) (x : Int) : ¬ 9223372036854775807 < (strOfNums [x]).size + (strOfNums (chars acc)).size := by
  rw [strOfNums_size, strOfNums_size, chars_length, List.length_singleton]; omega
theorem str_cons (d : Nat) (acc : List Nat) : strOfNums [((48 + d : Nat) : Int)] ++ strOfNums (chars acc) = strOfNums (chars (d :: acc)) := by
  rw [strOfNums_append]; rfl
theorem toList_empty (l : List Int) : (strOfNums l).toList.isEmpty = l.isEmpty := by
  rw [ByteArray.toList_eq, strOfNums_data]; cases l <;> rfl
set_option maxHeartbeats 1000000 in
theorem digits_any (m : Nat) (w : World) (hm : (m : Int) ≤ 9223372036854775808) :
    Calls Try.prog 45 #[.int .u64 (m : Int)] w fun r w' => r = .returned (.string (strOfNums (chars (dg m)))) ∧ Below w.heap.size w w' := by
  have hconv : ∀ (W : World) (v : Int) (k : Nat), k = W.heap.size → (convert 39 9 (.slice (some ⟨k, 0, none⟩) 1 1)).run Try.prog (W.alloc (.cells #[.int .u8 v] 5)) = .ok (.string (strOfNums [v])) (W.alloc (.cells #[.int .u8 v] 5)) := by
    intro W v k hk
    subst hk
    exact run_convert_bytes_arg (W.alloc (.cells #[.int .u8 v] 5)) 39 5 Try.underlying39 Try.underlying5 W.heap.size 0 1 1 [v] rfl (fun i hi => by
      obtain rfl : i = 0 := by omega
      rw [World.cell?_alloc_new]; rfl) 9 Try.underlying9
  have H19 := Lib.hid (dg_len_le m 19 (by omega) (by omega))
  go_enter Try.func45, Try.ntmps45
  go_wp2
  go_loopw [0, 3] (fun u s wr => ∃ (acc : List Nat) (v : Nat), u = .int .u64 v ∧ s = .string (strOfNums (chars acc)) ∧ (v : Int) ≤ 9223372036854775808 ∧ ((acc = [] ∧ v = m) ∨ (10 ≤ v ∧ acc ≠ [] ∧ dg v ++ acc = dg m) ∨ (v = 0 ∧ acc = dg m)) ∧ Below w.heap.size w wr) (fun u s _ => (intOf u).toNat + (1 - strLen s))
  case atStart => exact ⟨[], m, rfl, rfl, hm, Or.inl ⟨rfl, rfl⟩, Below.refl _ _⟩
  case round =>
    obtain ⟨acc, v, rfl, rfl, hv, hc, hb⟩ := hrel
    have hz := hb.size
    by_cases h3 : v = 0 ∧ acc = dg m
    · obtain ⟨rfl, rfl⟩ := h3
      clear hc
      have he : (strOfNums (chars (dg m))).toList.isEmpty = false := by
        rw [toList_empty]
        have := dg_ne m
        cases hd : dg m with
        | nil => exact absurd hd this
        | cons _ _ => rfl
      go_wp2
      go_ret
      exact ⟨rfl, hb⟩
    · have hl : acc.length ≤ 18 := by
        rcases hc with ⟨rfl, _⟩ | ⟨_, _, h⟩ | h
        · simp
        · have h' := congrArg List.length h
          have h4 : 0 < (dg v).length := List.length_pos_iff.2 (dg_ne v)
          have := H19.out
          rw [List.length_append] at h'
          omega
        · exact absurd h h3
      have hsz : ¬ 9223372036854775807 < (strOfNums [48 + (v : Int) % 10]).size + (strOfNums (chars acc)).size := str_size acc (by omega) _
      have hcons : strOfNums [48 + (v : Int) % 10] ++ strOfNums (chars acc) = strOfNums (chars (v % 10 :: acc)) := by
        rw [← str_cons, show (48 + (v : Int) % 10) = ((48 + v % 10 : Nat) : Int) from by omega]
      have hpre : dg v ++ acc = dg m := by
        rcases hc with ⟨rfl, rfl⟩ | ⟨_, _, h⟩ | h
        · simp
        · exact h
        · exact absurd h h3
      by_cases h9 : v ≤ 9
      · have hacc : acc = [] ∧ v = m := by
          rcases hc with h | ⟨h, _, _⟩ | h
          · exact h
          · omega
          · exact absurd h h3
        obtain ⟨rfl, rfl⟩ := hacc
        have he : (strOfNums (chars [])).toList.isEmpty = true := by rw [toList_empty]; rfl
        have h10 : ¬ (0 : Int) < (v : Int) / 10 := by omega
        have Hc := Lib.hid (show [v % 10] = dg v from by rw [dg_small (by omega), Nat.mod_eq_of_lt (by omega)])
        clear hc hpre h3 hl
        go_wp2
        go_roundw
        case rel => exact ⟨[v % 10], v / 10, by go_num, rfl, by omega, Or.inr (Or.inr ⟨by omega, Hc.out⟩), (hb.alloc hz _)⟩
        case measure =>
          go_light
          have e1 : strLen (.string (strOfNums (chars [v % 10]))) = 1 := (strOfNums_size _).trans rfl
          have e2 : strLen (.string (strOfNums (chars []))) = 0 := rfl
          rw [e1, e2]
          simp only [intOf]
          omega
      · have h9' : (9 : Int) < v := by omega
        have hpre2 : dg (v / 10) ++ (v % 10 :: acc) = dg m := by
          rw [← hpre, dg_big (n := v) (by omega), List.append_assoc]; rfl
        have Hp := Lib.hid hpre2
        clear hc hpre hpre2 h3
        by_cases h99 : v / 10 < 10
        · have h0 : (0 : Int) < (v : Int) / 10 := by omega
          have h1 : (v : Int) / 10 < 10 := by omega
          have hsz2 : ¬ 9223372036854775807 < (strOfNums [48 + (v : Int) / 10]).size + (strOfNums (chars (v % 10 :: acc))).size := str_size _ (by rw [List.length_cons]; omega) _
          have hcons2 : strOfNums [48 + (v : Int) / 10] ++ strOfNums (chars (v % 10 :: acc)) = strOfNums (chars (v / 10 :: v % 10 :: acc)) := by
            rw [← str_cons (v / 10), show (48 + (v : Int) / 10) = ((48 + v / 10 : Nat) : Int) from by omega]
          have Hq := Lib.hid (show v / 10 :: v % 10 :: acc = dg m from by rw [← Hp.out, dg_small h99]; rfl)
          go_wp2
          go_ret
          exact ⟨by rw [← Hq.out]; rfl, (hb.alloc hz _).alloc (by simp; omega) _⟩
        · have h0 : (0 : Int) < (v : Int) / 10 := by omega
          have h1 : (10 : Int) ≤ (v : Int) / 10 := by omega
          go_wp2
          go_roundw
          case rel => exact ⟨v % 10 :: acc, v / 10, by go_num, rfl, by omega, Or.inr (Or.inl ⟨by omega, by simp, Hp.out⟩), (hb.alloc hz _)⟩
          case measure =>
            go_light
            have e1 : strLen (.string (strOfNums (chars (v % 10 :: acc)))) = acc.length + 1 := (strOfNums_size _).trans (by rw [chars_length]; rfl)
            rw [e1]
            simp only [intOf]
            omega
theorem rtext_any (n : Int) (w : World) (hn : I64 n) :
    Calls Try.prog 19 #[.int .i64 n] w fun r w' => r = .returned (.string (textS n)) ∧ Below w.heap.size w w' := by
  have hs := fun w => rsize_any n w hn
  have hb : (n.natAbs : Int) ≤ 9223372036854775808 := by unfold I64 at hn; omega
  have hd := fun w => digits_any n.natAbs w hb
  have H19 := Lib.hid (dg_len19 n hn)
  have Hs := Lib.hid hs
  have Hd := Lib.hid hd
  clear hs hd hn
  by_cases hneg : n < 0
  · have hsz : ¬ 9223372036854775807 < (strOfNums [45]).size + (strOfNums (chars (dg n.natAbs))).size := str_size _ (by have := H19.out; omega) _
    have hv : textS n = strOfNums [45] ++ strOfNums (chars (dg n.natAbs)) := by unfold textS textL; rw [strOfNums_append, if_pos hneg]
    have Hv := Lib.hid hv
    have h45 : ({ data := #[45] } : ByteArray) = strOfNums [45] := rfl
    clear hv
    go_enter Try.func19, Try.ntmps19
    go_wp2_with (first | (go_at_call 46; refine (Hs.out _).mono ?_; rintro r w' ⟨rfl, rfl⟩) | (go_at_call 45; refine (Hd.out _).mono ?_; rintro r w' ⟨rfl, hb1⟩))
    go_ret
    exact ⟨by rw [Hv.out]; rfl, hb1⟩
  · have hv : textS n = strOfNums (chars (dg n.natAbs)) := by unfold textS textL; rw [if_neg hneg]; rfl
    have Hv := Lib.hid hv
    clear hv
    go_enter Try.func19, Try.ntmps19
    go_wp2_with (first | (go_at_call 46; refine (Hs.out _).mono ?_; rintro r w' ⟨rfl, rfl⟩) | (go_at_call 45; refine (Hd.out _).mono ?_; rintro r w' ⟨rfl, hb1⟩))
    go_ret
    exact ⟨by rw [Hv.out]; rfl, hb1⟩
end Go.Proofs.Ytcnejokbldohlaa
