/- ptext: words of a text; the reference's word. -/
import Derived.Test.YtmhdcjjcddpciaaKn
import Derived.Test.YtmhdcjjcddpciaaKa
import Derived.Test.YtmhdcjjcddpciaaSg
import Derived.Deep.QuietTactic
import Derived.BigQuiet
namespace Go.Proofs.Ytmhdcjjcddpciaa
set_option linter.unusedSimpArgs false
set_option linter.unusedVariables false
open Go.RowKit
/-- Where the word ends, or where the text parts from it. -/
def sword (l : List Nat) : Nat → List Nat → Nat × Bool
  | at_, [] => (at_, true)
  | at_, c :: cs => if l[at_]? = some c then sword l (at_ + 1) cs else (at_, false)
/-- The first i bytes of the word stand in the text. -/
def Stood (l : List Nat) (at_ : Nat) (wd : List Nat) (i : Nat) : Prop := sword l at_ wd = sword l (at_ + i) (wd.drop i)
theorem Stood.zero (l : List Nat) (at_ : Nat) (wd : List Nat) : Stood l at_ wd 0 := by simp [Stood]
theorem Stood.step {l : List Nat} {at_ i c : Nat} {wd : List Nat} (h : Stood l at_ wd i) (hw : wd[i]? = some c) (hl : l[at_ + i]? = some c) : Stood l at_ wd (i + 1) := by
  unfold Stood at *
  rw [h]
  have hd : wd.drop i = c :: wd.drop (i + 1) := by
    obtain ⟨hlt, he⟩ := List.getElem?_eq_some_iff.1 hw
    rw [List.drop_eq_getElem_cons hlt, he]
  rw [hd, sword, if_pos hl, Nat.add_assoc]
theorem Stood.stop {l : List Nat} {at_ i c : Nat} {wd : List Nat} (h : Stood l at_ wd i) (hw : wd[i]? = some c) (hl : l[at_ + i]? ≠ some c) : sword l at_ wd = (at_ + i, false) := by
  unfold Stood at h
  rw [h]
  have hd : wd.drop i = c :: wd.drop (i + 1) := by
    obtain ⟨hlt, he⟩ := List.getElem?_eq_some_iff.1 hw
    rw [List.drop_eq_getElem_cons hlt, he]
  rw [hd, sword, if_neg hl]
theorem Stood.all {l : List Nat} {at_ : Nat} {wd : List Nat} (h : Stood l at_ wd wd.length) : sword l at_ wd = (at_ + wd.length, true) := by
  unfold Stood at h
  rw [h, List.drop_length]
  rfl
set_option maxHeartbeats 1000000 in
theorem rword_any (E : World) (I : PH) (ms : List PH) (s wd : ByteArray) (at_ : Nat) (w : World) (hs : s.size ≤ 100000) (ha : at_ ≤ 100000) (hw : wd.size ≤ 10) (hS : Sat E I ms w) :
    Calls Try.prog 30 #[.string s, .int .i64 (at_ : Int), .string wd] w fun e w' => e = .returned (.tuple #[.int .i64 ((sword (lst s) at_ (lst wd)).1 : Int), .bool (sword (lst s) at_ (lst wd)).2]) ∧ Sat E I ms w' := by
  have a0 : (0 : Int) ≤ (at_ : Int) := by omega
  have a1 : (at_ : Int) ≤ 100000 := by omega
  go_enter Try.func30, Try.ntmps30
  go_wp2_with fail
  have HS0 := Lib.hid hS
  clear hS
  go_loopw [8] (fun v8 wr => ∃ i : Nat, i ≤ wd.size ∧ v8 = .int .i64 (i : Int) ∧ Stood (lst s) at_ (lst wd) i ∧ Sat E I ms wr) (fun i _ => (10 - intOf i).toNat)
  case atStart => exact ⟨0, by omega, rfl, Stood.zero _ _ _, HS0.out⟩
  case round =>
    obtain ⟨i, hi, rfl, hst, hS⟩ := hrel
    clear HS0
    have i0 : (0 : Int) ≤ (i : Int) := by omega
    have i1 : (i : Int) ≤ 10 := by omega
    have HSt := Lib.hid hst
    clear hst
    by_cases hlt : i < wd.size
    · obtain ⟨c, hc, hc2, hcl⟩ := byteI wd i hlt
      have dl : decide ((i : Int) < (wd.size : Int)) = true := by simp; omega
      have HC := Lib.hid hcl
      clear hcl
      have j0 : (i : Int) < (wd.size : Int) := by omega
      by_cases hin : at_ + i < s.size
      · obtain ⟨b, hb, hb2, hbl⟩ := byteI s (at_ + i) hin
        have HB := Lib.hid hbl
        clear hbl
        have et : ((at_ : Int) + (i : Int)).toNat = at_ + i := by omega
        have hb3 : ∀ h : ((at_ : Int) + (i : Int)).toNat < s.size, ((s[((at_ : Int) + (i : Int)).toNat]'h).toNat : Int) = (b : Int) := fun h => by simp only [et]; exact hb
        have dg_ : decide ((at_ : Int) + (i : Int) ≥ (s.size : Int)) = false := by simp; omega
        have b0 : (0 : Int) ≤ (at_ : Int) + (i : Int) := by omega
        have b1 : (at_ : Int) + (i : Int) < (s.size : Int) := by omega
        clear et
        by_cases hbc : b = c
        · subst hbc
          have dn : ((b : Int) != (b : Int)) = false := by simp
          go_wp2_with fail
          go_quiet (fail)
          have hS2 := hS.drewN nq
          clear hb hb3 hc hc2 hb2 hS
          go_wp2_with fail
          exact ⟨⟨i + 1, by omega, by go_num, HSt.out.step HC.out HB.out, hS2⟩, by simp [intOf]; omega⟩
        · have dn : ((b : Int) != (c : Int)) = true := by simp; omega
          go_wp2_with fail
          go_quiet (fail)
          have hS2 := hS.drewN nq
          clear hb hb3 hc hc2 hb2 hS
          go_wp2_with fail
          go_ret2
          rw [HSt.out.stop HC.out (by rw [HB.out]; intro h; exact hbc (Option.some.inj h))]
          exact ⟨by rw [Int.natCast_add]; rfl, hS2⟩
      · have dg_ : decide ((at_ : Int) + (i : Int) ≥ (s.size : Int)) = true := by simp; omega
        go_wp2_with fail
        go_quiet (fail)
        have hS2 := hS.drewN nq
        clear hc hc2 hS
        go_wp2_with fail
        go_ret2
        rw [HSt.out.stop HC.out (by rw [List.getElem?_eq_none (by rw [lst_length]; omega)]; simp)]
        exact ⟨by rw [Int.natCast_add]; rfl, hS2⟩
    · obtain rfl : i = wd.size := by omega
      have dl : decide ((wd.size : Int) < (wd.size : Int)) = false := by simp
      go_wp2_with fail
      go_ret2
      have h := HSt.out
      rw [← lst_length] at h
      rw [h.all, lst_length]
      exact ⟨by rw [Int.natCast_add]; rfl, hS⟩
end Go.Proofs.Ytmhdcjjcddpciaa
