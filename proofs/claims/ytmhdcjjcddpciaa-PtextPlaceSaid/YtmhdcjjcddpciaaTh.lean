/- ptext: the reader's is. -/
import Derived.Test.YtmhdcjjcddpciaaTg
import Derived.Lib.Strings
import Derived.Lib.Slices
import Derived.Lib.Walk
import Derived.Lib.Bytealg
import Derived.Lib.IndexAny
namespace Go.Proofs.Ytmhdcjjcddpciaa
set_option linter.unusedSimpArgs false
set_option linter.unusedVariables false
open Go.RowKit
set_option maxHeartbeats 1000000 in
set_option maxRecDepth 100000 in
theorem lite_any (s : ByteArray) (c : Int) (w : World) :
    Calls Try.prog 39 #[.string s, .int .u8 c] w fun e w' => e = .returned (.int .i64 (Lib.indexByte s.data.toList c.toNat.toUInt8)) ∧ w' = w := by
  go_enter Try.func39, Try.ntmps39
  go_wp2
  rw [run_callFunc_extern Try.func46 (by kernel_rfl) (by kernel_rfl) (by kernel_rfl) (e := Extern.BytealgIndexByte.indexByte) (by kernel_rfl), Lib.run_indexByteString]
  simp only [Result.andThen]
  rw [Oper.upon_value]
  go_wp2
  go_ret
  exact ⟨rfl, rfl⟩
theorem index_any (s : ByteArray) (c : Int) (w : World) :
    Calls Try.prog 26 #[.string s, .int .u8 c] w fun e w' => e = .returned (.int .i64 (Lib.indexByte s.data.toList c.toNat.toUInt8)) ∧ w' = w := by
  go_enter Try.func26, Try.ntmps26
  go_wp2_with (go_at_call 39; refine (lite_any _ _ _).mono ?_; rintro e w' ⟨rfl, rfl⟩)
  go_ret
  exact ⟨rfl, rfl⟩
def hasB (l : List Nat) (o : Option Nat) : Bool := match o with | some c => l.contains c | none => false
theorem hasB_index (set : ByteArray) (c : Nat) (hc : c < 256) : decide (Lib.indexByte set.data.toList (c : Int).toNat.toUInt8 ≥ 0) = hasB (lst set) (some c) := by
  have h := Lib.contains_iff_indexByte set.data.toList c.toUInt8
  have e : (c : Int).toNat = c := by omega
  rw [e]
  unfold hasB lst
  have h2 : (set.data.toList.map (·.toNat)).contains c = set.data.toList.contains c.toUInt8 := by
    rw [Bool.eq_iff_iff]
    simp only [List.contains_eq_mem, decide_eq_true_eq, List.mem_map]
    constructor
    · rintro ⟨x, hx, rfl⟩
      simpa using hx
    · intro hx
      exact ⟨_, hx, by simp [UInt8.toNat_ofNat]; omega⟩
  show _ = (set.data.toList.map (·.toNat)).contains c
  rw [h2, h]
/-- The reader: the text, the offset. -/
def rd (R : Nat) (s : ByteArray) (at_ : Int) : PH := PH.one R (.cells #[.string s, .int .i64 at_] 44)
set_option maxHeartbeats 2000000 in
set_option maxRecDepth 100000 in
theorem is_any (E : World) (I : PH) (ms : List PH) (R : Nat) (s set : ByteArray) (a : Nat) (w : World) (hs : s.size ≤ 66000) (ha : a ≤ 66000) (hS : Sat E I (rd R s a :: ms) w) :
    Calls Try.prog 23 #[.pointer (some ⟨R, 0, none⟩), .string set] w fun e w' => e = .returned (.bool (hasB (lst set) (lst s)[a]?)) ∧ Sat E I (rd R s a :: ms) w' := by
  have a0 : (0 : Int) ≤ (a : Int) := by omega
  have a1 : (a : Int) ≤ 66000 := by omega
  have hq := hS.rule 0 rfl
  have f0 := hq.1 0
  have f1 := hq.1 1
  simp only [List.getElem?_toArray, List.getElem?_cons_zero, List.getElem?_cons_succ] at f0 f1
  clear hq
  by_cases hin : a < s.size
  · obtain ⟨c, hc, hc2, hcl⟩ := byteI s a hin
    rw [hcl]
    have HX := Lib.hid (hasB_index set c hc2)
    have dl : decide ((a : Int) < (s.size : Int)) = true := by simp; omega
    have b1 : (a : Int) < (s.size : Int) := by omega
    clear hcl
    go_enter Try.func23, Try.ntmps23
    go_wp2_with fail
    go_quiet ((go_at_call 26; exact Calls.quiet_of_same (index_any _ _ _)))
    have hS2 := hS.drewN nq
    clear hS f0 f1
    go_wp2_with fail
    go_ret
    refine ⟨?_, hS2⟩
    rw [← HX.out]
    rfl
  · have dl : decide ((a : Int) < (s.size : Int)) = false := by simp; omega
    rw [List.getElem?_eq_none (by rw [lst_length]; omega)]
    go_enter Try.func23, Try.ntmps23
    go_wp2_with fail
    go_quiet ((go_at_call 26; exact Calls.quiet_of_same (index_any _ _ _)))
    have hS2 := hS.drewN nq
    clear hS f0 f1
    go_wp2_with fail
    go_ret
    exact ⟨rfl, hS2⟩
theorem hasB_one (c : Nat) (o : Option Nat) : hasB [c] o = decide (o = some c) := by
  unfold hasB
  cases o with
  | none => rfl
  | some x => rw [Bool.eq_iff_iff]; simp
theorem lst_cut (wd : ByteArray) (i c : Nat) (h : (lst wd)[i]? = some c) : lst (wd.extract i (i + 1)) = [c] := by
  have hlt : i < (lst wd).length := (List.getElem?_eq_some_iff.1 h).1
  have e : lst (wd.extract i (i + 1)) = ((lst wd).drop i).take 1 := by
    unfold lst
    rw [Lib.extract_data, ← List.map_drop, ← List.map_take, show i + 1 - i = 1 by omega]
  rw [e, List.drop_eq_getElem_cons hlt]
  have := (List.getElem?_eq_some_iff.1 h).2
  rw [this]; rfl
def wrongE (b : Int) : Ending := .panicked [{ v := .iface 41 (.int .i64 b), recovered := false }]
def wordE (q : Nat × Bool) : Ending := if q.2 = true then .returned (.tuple #[]) else wrongE (q.1 : Int)
end Go.Proofs.Ytmhdcjjcddpciaa
