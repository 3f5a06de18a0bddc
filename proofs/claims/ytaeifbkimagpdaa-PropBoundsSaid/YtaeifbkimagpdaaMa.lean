/- Joined: Ba, Bb, Bc, Bd, Be, Bf, Bg, Bh, Bi, Bj, Bk, Bl, Bm. -/
import Derived.Test.YtaeifbkimagpdaaRL
import Derived.Deep.QuietTactic
import Derived.BigQuiet
import Derived.Laws.CopyOwn
import Derived.Laws.IdiomStrings
import Derived.Test.YtaeifbkimagpdaaIterG
import Derived.Test.YtaeifbkimagpdaaTail
import Derived.Shelf.Abstract
import Derived.Shelf.RegionOpen
import Derived.TacticsInMore
import Derived.LoopNIn
import Derived.LoopIn
import Derived.Outline
/- Slices that are read: where their elements lie; the reference's Same. -/
namespace Go.Proofs.Ytaeifbkimagpdaa
set_option linter.unusedSimpArgs false
set_option linter.unusedVariables false
open Go.ChangeShapes Go.WideShapes Go.ChangeAt Go.RowKit
set_option linter.unusedVariables false
def bools (l : List Bool) : List Value := l.map Value.bool
theorem bools_length (l : List Bool) : (bools l).length = l.length := by simp [bools]
theorem bools_get (l : List Bool) (k : Nat) (hk : k < l.length) : (bools l)[k]? = some (.bool l[k]) := by simp [bools, hk]
theorem retb {a b : Bool} (h : b = a) : Ending.returned (.bool a) = .returned (.bool b) := by rw [h]
theorem same_take {l m : List Bool} {k : Nat} (hl : k < l.length) (hm : k < m.length) (h : l.take k = m.take k) (e : l[k] = m[k]) : l.take (k + 1) = m.take (k + 1) := by
  rw [List.take_add_one, List.take_add_one, h, List.getElem?_eq_getElem hl, List.getElem?_eq_getElem hm, e]
set_option maxHeartbeats 1000000 in
theorem same_any (w : World) (B : Nat) (A C : Option Addr) (n m ca cb : Nat) (l r : List Bool) (hn : l.length = n) (hm : r.length = m) (hA : RL w B 1 A n (bools l)) (hC : RL w B 1 C m (bools r)) (sn : n ≤ 4000000000000) (sm : m ≤ 4000000000000) :
    Calls Try.prog 13 #[.slice A n ca, .slice C m cb] w fun e w' => e = .returned (.bool (decide (l = r))) ∧ ∃ k, w' = w.drewN k := by
  by_cases hnm : n = m
  · subst hnm
    have hne : ((n : Int) != (n : Int)) = false := by simp
    generalize hV : decide (l = r) = V at *
    have HV := Lib.hid hV
    have Hn := Lib.hid hn
    have Hm := Lib.hid hm
    have HA := Lib.hid hA
    have HC := Lib.hid hC
    clear hV hn hm hA hC
    go_enter Try.func13, Try.ntmps13
    go_wp2
    go_loopw [5] (fun i wr => ∃ k j : Nat, k ≤ n ∧ i = .int .i64 k ∧ l.take k = r.take k ∧ wr = w.drewN j) (fun i _ => (n - intOf i).toNat)
    case atStart => exact ⟨0, 0, by omega, rfl, rfl, rfl⟩
    case round =>
      obtain ⟨k, j, hk, rfl, hpre, rfl⟩ := hrel
      have Hpre := Lib.hid hpre
      clear hpre
      by_cases hlt : k < n
      · obtain ⟨b, o, rfl, _, hc⟩ := HA.out.at_ (by omega)
        obtain ⟨b', o', rfl, _, hc'⟩ := HC.out.at_ (by omega)
        have hl : k < l.length := by rw [Hn.out]; exact hlt
        have hr : k < r.length := by rw [Hm.out]; exact hlt
        have e1 := hc k (by omega)
        have e2 := hc' k (by omega)
        rw [bools_get _ _ hl] at e1
        rw [bools_get _ _ hr] at e2
        have hst := fun e => same_take hl hr Hpre.out e
        have hdf : l[k] ≠ r[k] → V = false := fun hne => by
          rw [← HV.out, decide_eq_false_iff_not]
          intro h
          subst h
          exact hne rfl
        generalize l[k] = x at *
        generalize r[k] = y at *
        have k1 : (k : Int) < (n : Int) := by omega
        have k0 : (0 : Int) ≤ (k : Int) := by omega
        clear hc hc' hl hr
        by_cases hxy : x = y
        · subst hxy
          have Hst := Lib.hid (hst rfl)
          clear hst hdf
          go_wp2_with fail
          go_quiet (fail)
          go_wp2
          go_roundw
          case rel => exact ⟨k + 1, _, by omega, by go_num, Hst.out, rfl⟩
          case measure => simp [intOf]; omega
        · have Hdf := Lib.hid (hdf hxy)
          have hb : (x != y) = true := by rw [bne_iff_ne]; exact hxy
          have hb2 : (x == y) = false := by rw [beq_eq_false_iff_ne]; exact hxy
          clear hst hdf hxy
          go_wp2_with fail
          go_quiet (fail)
          go_wp2
          go_ret
          exact ⟨retb Hdf.out, _, by rw [World.drewN_drewN]⟩
      · have Hfin := Lib.hid (show V = true from by
          rw [← HV.out, decide_eq_true_iff]
          have h := Hpre.out
          rwa [List.take_of_length_le (by rw [Hn.out]; omega), List.take_of_length_le (by rw [Hm.out]; omega)] at h)
        go_wp2
        go_ret
        exact ⟨retb Hfin.out, _, rfl⟩
  · have hne : ((n : Int) != (m : Int)) = true := by rw [bne_iff_ne]; omega
    have Hfin := Lib.hid (show decide (l = r) = false from by
      rw [decide_eq_false_iff_not]; intro h; subst h; omega)
    clear hnm hn hm hA hC
    go_enter Try.func13, Try.ntmps13
    go_wp2
    go_ret
    exact ⟨retb Hfin.out, 0, rfl⟩
end Go.Proofs.Ytaeifbkimagpdaa

/- Package bits: hold, Of, and the reference's. -/
namespace Go.Proofs.Ytaeifbkimagpdaa
open Go.ChangeShapes Go.WideShapes Go.ChangeAt Go.RowKit
set_option linter.unusedVariables false
theorem reti {k : IntKind} {a b : Int} (h : b = a) : Ending.returned (.int k a) = .returned (.int k b) := by rw [h]
theorem hold_any (n m : Int) (w : World) (hm : 0 ≤ m) :
    Calls Try.prog 46 #[.int .i64 n, .int .i64 m] w fun r w' => r = .returned (.int .i64 (min (max n 0) m)) ∧ w = w' := by
  by_cases h : 0 ≤ n
  · by_cases h2 : n ≤ m
    · have e : min (max n 0) m = n := by omega
      rw [e]
      clear e
      go_enter Try.func46, Try.ntmps46
      go_wp2
      go_ret
      exact ⟨rfl, rfl⟩
    · have e : min (max n 0) m = m := by omega
      rw [e]
      clear e
      go_enter Try.func46, Try.ntmps46
      go_wp2
      go_ret
      exact ⟨rfl, rfl⟩
  · have e : min (max n 0) m = 0 := by omega
    rw [e]
    clear e
    go_enter Try.func46, Try.ntmps46
    go_wp2
    go_ret
    exact ⟨rfl, rfl⟩
theorem bool_info : (Try.prog.info? 4).map (fun i => (i.zero, i.size, i.bytes)) = some (some (.bool false), 1, 1) := by kernel_rfl
/-- The lowest k bits of n. -/
def bitsOf (n k : Nat) : List Bool := (List.range k).map fun i => n.testBit i
theorem bitsOf_length (n k : Nat) : (bitsOf n k).length = k := by simp [bitsOf]
theorem bitsOf_succ (n k : Nat) : bitsOf n (k + 1) = bitsOf n k ++ [n.testBit k] := by simp [bitsOf, List.range_succ]
/-- The end of a call that hands back a new list of truth values. -/
theorem Own.low {w : World} {base e size n c : Nat} {A : Option Addr} {xs : List Value} (h : Own w base e size (.slice A n c) n xs) : ∀ b o, A = some ⟨b, o, none⟩ → base ≤ b := fun b o e => (h.lt b (by rw [e]; rfl)).1
def NewBL (w : World) (l : List Bool) (e : Ending) (w' : World) : Prop := ∃ A c, e = .returned (.slice A l.length c) ∧ (l.length ≤ c ∧ ∀ b o, A = some ⟨b, o, none⟩ → w.heap.size ≤ b) ∧ RL w' w'.heap.size 1 A l.length (bools l) ∧ Below w.heap.size w w'
theorem bools_set_pad (a : List Bool) (x : Bool) (r : Nat) (hr : 0 < r) : (bools (a ++ List.replicate r false)).set a.length (.bool x) = bools ((a ++ [x]) ++ List.replicate (r - 1) false) := by
  obtain ⟨q, rfl⟩ : ∃ q, r = q + 1 := ⟨r - 1, by omega⟩
  simp [bools, List.replicate_succ]
theorem bit_at (n j : Nat) (hn : n < 18446744073709551616) : (bits BinOp.and IntKind.u64 ((n : Int) / 2 ^ j) 1 == 1) = n.testBit j := by
  have e : (n : Int) / 2 ^ j = ((n / 2 ^ j : Nat) : Int) := by rw [Int.natCast_ediv, Int.natCast_pow]; rfl
  have hlt : n / 2 ^ j < 18446744073709551616 := Nat.lt_of_le_of_lt (Nat.div_le_self _ _) hn
  rw [e, Nat.testBit_eq_decide_div_mod_eq]
  generalize n / 2 ^ j = x at *
  have h := (bits_nat .u64 64 (by decide) (fun y h0 h1 => by rw [IntKind.wrap_u64]; omega) x 1 (by omega) (by omega)).1
  rw [show (1 : Int) = ((1 : Nat) : Int) from rfl, h, Nat.and_one_is_mod]
  rw [Bool.eq_iff_iff, beq_iff_eq, decide_eq_true_iff]
  omega
set_option maxHeartbeats 400000 in
theorem of_any (n : Nat) (m : Int) (w : World) (hn : n < 18446744073709551616) :
    Calls Try.prog 14 #[.int .u64 (n : Int), .int .i64 m] w (NewBL w (bitsOf n (min (max m 0) 64).toNat)) := by
  obtain ⟨k, hk⟩ : ∃ k : Nat, min (max m 0) 64 = (k : Int) := Int.eq_ofNat_of_zero_le (by omega)
  have hk64 : k ≤ 64 := by omega
  have C1 := Lib.hid (fun w => hold_any m 64 w (by omega))
  rw [hk] at C1 ⊢
  rw [Int.toNat_natCast]
  obtain ⟨i2, hi2, hz2, hs2, hy2⟩ := info_parts bool_info
  have hmk := fun W => run_make (P := Try.prog) W 23 4 i2 (.bool false) Try.underlying23 hi2 hz2 .i64 .i64 k k (by omega) (Int.le_refl _) (by rw [hy2]; omega) (by omega)
  have Hn := Lib.hid hn
  clear hk hn
  go_enter Try.func14, Try.ntmps14
  go_wp2_with (go_at_call 46; refine (C1.out _).mono ?_; rintro r w' ⟨rfl, rfl⟩)
  go_loopw [6, 12] (fun _ i wr => ∃ j : Nat, j ≤ k ∧ i = .int .i64 j ∧ Own wr w.heap.size 4 1 (.slice (some ⟨w.heap.size, 0, none⟩) k k) k (bools (bitsOf n j ++ List.replicate (k - j) false)) ∧ Below w.heap.size w wr) (fun _ i _ => (k - intOf i).toNat)
  case atStart =>
    refine ⟨0, by omega, rfl, ?_, (Below.refl _ _).alloc (Nat.le_refl _) _⟩
    have h := Own.ofRow (World.ownsRow_lit (base := w.heap.size) (size := 1) (e := 4) w (madeCells #[.bool false] k) k (Nat.le_refl _) (by unfold maxLen; omega) (by rw [size_madeCells]; omega))
    rw [toList_madeCells_one] at h
    simpa [bools, bitsOf] using h
  case round =>
    obtain ⟨j, hj, rfl, hown, hb⟩ := hrel
    by_cases hlt : j < k
    · have hc := hown.cellAt j (by omega)
      have hf := hown.frozenAt j
      have Hown := Lib.hid hown
      have Hb := Lib.hid hb
      have hbl := hb.size
      have ki : (j : Int) < (k : Int) := by omega
      have k0 : (0 : Int) ≤ (j : Int) := by omega
      have hu : (bools (bitsOf n j ++ List.replicate (k - j) false))[j]? = some (.bool false) := by
        simp only [bools, List.getElem?_map]
        rw [List.getElem?_append_right (by rw [bitsOf_length]; omega), List.getElem?_replicate, if_pos (by rw [bitsOf_length]; omega)]
        rfl
      rw [hu] at hc
      clear hown hb hu
      go_wp2
      go_roundw
      case rel =>
        go_light
        refine ⟨j + 1, by omega, by go_num, ?_, Hb.out.setCell (Nat.le_refl _) _⟩
        have ho := Hown.out.stored j (.bool (n.testBit j))
        have h1 := bools_set_pad (bitsOf n j) (n.testBit j) (k - j) (by omega)
        rw [bitsOf_length] at h1
        rw [h1, ← bitsOf_succ] at ho
        rw [bit_at n j Hn.out]
        exact ho
      case measure => simp [intOf]; omega
    · have hjk : j = k := by omega
      subst hjk
      have Hown := Lib.hid hown
      have Hb := Lib.hid hb
      clear hown hb
      go_wp2
      go_ret
      have ho := Hown.out
      rw [Nat.sub_self, List.replicate_zero, List.append_nil] at ho
      refine ⟨_, _, by rw [bitsOf_length]; rfl, ?_, ?_, Hb.out⟩
      · rw [bitsOf_length]; exact ⟨Nat.le_refl _, ho.low⟩
      · rw [bitsOf_length]; exact RL.of_own ho
end Go.Proofs.Ytaeifbkimagpdaa

/- Package bits: Num, and the reference's. -/
namespace Go.Proofs.Ytaeifbkimagpdaa
open Go.ChangeShapes Go.WideShapes Go.ChangeAt Go.RowKit
set_option linter.unusedVariables false
/-- The number of the first i elements. -/
def nb (l : List Bool) : Nat → Nat
  | 0 => 0
  | i + 1 => nb l i + (if l.getD i false = true then 2 ^ i else 0)
theorem nb_lt (l : List Bool) (i : Nat) : nb l i < 2 ^ i := by
  induction i with
  | zero => simp [nb]
  | succ i ih => unfold nb; rw [Nat.pow_succ]; split <;> omega
def numOf (l : List Bool) : Nat := nb l (min l.length 64)
theorem or_pow (x i : Nat) (hx : x < 2 ^ i) (hi : i < 64) : bits BinOp.or .u64 (x : Int) (IntKind.u64.wrap ((2 : Int) ^ i)) = ((x + 2 ^ i : Nat) : Int) := by
  have h64 : (2 : Nat) ^ i ≤ 2 ^ 63 := Nat.pow_le_pow_right (by omega) (by omega)
  have e63 : (2 : Nat) ^ 63 = 9223372036854775808 := by decide
  rw [e63] at h64
  have e : IntKind.u64.wrap ((2 : Int) ^ i) = ((2 ^ i : Nat) : Int) := by
    rw [IntKind.wrap_u64, show ((2 : Int) ^ i) = ((2 ^ i : Nat) : Int) from (Int.natCast_pow 2 i).symm]
    generalize (2 : Nat) ^ i = q at *
    omega
  have h := (bits_nat .u64 64 (by decide) (fun y h0 h1 => by rw [IntKind.wrap_u64]; omega) x (2 ^ i) (by omega) (by omega)).2
  rw [e, h]
  congr 1
  have h2 := Nat.two_pow_add_eq_or_of_lt hx 1
  rw [Nat.mul_one] at h2
  rw [Nat.or_comm, ← h2, Nat.add_comm]
set_option maxHeartbeats 400000 in
theorem num_any (w : World) (B : Nat) (A : Option Addr) (n c : Nat) (l : List Bool) (hn : l.length = n) (hA : RL w B 1 A n (bools l)) (sn : n ≤ 4000000000000) :
    Calls Try.prog 16 #[.slice A n c] w fun e w' => e = .returned (.int .u64 (numOf l : Nat)) ∧ w = w' := by
  have hm : min (max (n : Int) 0) 64 = ((min n 64 : Nat) : Int) := by omega
  have C1 := Lib.hid (fun w => hold_any (n : Int) 64 w (by omega))
  rw [hm] at C1
  have hv : numOf l = nb l (min n 64) := by unfold numOf; rw [hn]
  have hk64 : min n 64 ≤ 64 := by omega
  have hkn : min n 64 ≤ n := by omega
  rw [hv]
  clear hv hm
  generalize min n 64 = k at *
  have Hn := Lib.hid hn
  have HA := Lib.hid hA
  clear hn hA
  go_enter Try.func16, Try.ntmps16
  go_wp2_with (go_at_call 46; refine (C1.out _).mono ?_; rintro r w' ⟨rfl, rfl⟩)
  go_loop [3, 4, 8] (fun v _ i => ∃ j : Nat, j ≤ k ∧ i = .int .i64 j ∧ v = .int .u64 (nb l j : Nat)) (fun _ _ i => (k - intOf i).toNat)
  case atStart => exact ⟨0, by omega, rfl, rfl⟩
  case round =>
    obtain ⟨j, hj, rfl, rfl⟩ := hrel
    by_cases hlt : j < k
    · obtain ⟨b, o, rfl, _, hc⟩ := HA.out.at_ (by omega)
      have hl : j < l.length := by rw [Hn.out]; omega
      have e1 := hc j (by omega)
      rw [bools_get _ _ hl] at e1
      have Hs := Lib.hid (show nb l (j + 1) = nb l j + (if l[j] = true then 2 ^ j else 0) from by simp [nb, hl])
      have Ho := or_pow (nb l j) j (nb_lt l j) (by omega)
      generalize l[j] = x at *
      have ki : (j : Int) < (n : Int) := by omega
      have kk : (j : Int) < (k : Int) := by omega
      have k0 : (0 : Int) ≤ (j : Int) := by omega
      clear hc hl
      cases x
      all_goals
        go_wp2
        go_round
        case rel => exact ⟨j + 1, by omega, by go_num, by rw [Hs.out]; simp⟩
        case measure => simp [intOf]; omega
    · have hjk : j = k := by omega
      subst hjk
      go_wp2
      go_ret
      exact ⟨rfl, rfl⟩
/-- The power that the reference carries along: at 64 it has left the word. -/
def pw (i : Nat) : Int := if i < 64 then ((2 ^ i : Nat) : Int) else 0
theorem pw_succ (i : Nat) (h : i < 64) : IntKind.u64.wrap (2 * pw i) = pw (i + 1) := by
  unfold pw
  rw [if_pos h, IntKind.wrap_u64]
  have e : (2 : Nat) ^ (i + 1) = 2 ^ i * 2 := Nat.pow_succ 2 i
  by_cases h2 : i + 1 < 64
  · rw [if_pos h2]
    have h3 : (2 : Nat) ^ i ≤ 2 ^ 62 := Nat.pow_le_pow_right (by omega) (by omega)
    rw [show (2 : Nat) ^ 62 = 4611686018427387904 from by decide] at h3
    generalize (2 : Nat) ^ i = q at *
    omega
  · rw [if_neg h2]
    obtain rfl : i = 63 := by omega
    decide
theorem nb_add (l : List Bool) (i : Nat) (h : i < 64) : IntKind.u64.wrap ((nb l i : Nat) + pw i) = ((nb l i + 2 ^ i : Nat) : Int) := by
  unfold pw
  rw [if_pos h, IntKind.wrap_u64]
  have h1 := nb_lt l i
  have h3 : (2 : Nat) ^ i ≤ 2 ^ 63 := Nat.pow_le_pow_right (by omega) (by omega)
  rw [show (2 : Nat) ^ 63 = 9223372036854775808 from by decide] at h3
  generalize (2 : Nat) ^ i = q at *
  omega
set_option maxHeartbeats 400000 in
theorem rnum_any (w : World) (B : Nat) (A : Option Addr) (n c : Nat) (l : List Bool) (hn : l.length = n) (hA : RL w B 1 A n (bools l)) (sn : n ≤ 4000000000000) :
    Calls Try.prog 17 #[.slice A n c] w fun e w' => e = .returned (.int .u64 (numOf l : Nat)) ∧ w = w' := by
  have Hv := Lib.hid (show numOf l = nb l (min n 64) from by unfold numOf; rw [hn])
  have Hn := Lib.hid hn
  have HA := Lib.hid hA
  clear hn hA
  go_enter Try.func17, Try.ntmps17
  go_wp2
  go_loop [3, 4, 5] (fun v p i => ∃ j : Nat, j ≤ n ∧ j ≤ 64 ∧ i = .int .i64 j ∧ v = .int .u64 (nb l j : Nat) ∧ p = .int .u64 (pw j)) (fun _ _ i => (n - intOf i).toNat)
  case atStart => exact ⟨0, by omega, by omega, rfl, rfl, rfl⟩
  case round =>
    obtain ⟨j, hj, hj2, rfl, rfl, rfl⟩ := hrel
    by_cases hlt : j < n
    · by_cases h64 : j < 64
      · obtain ⟨b, o, rfl, _, hc⟩ := HA.out.at_ (by omega)
        have hl : j < l.length := by rw [Hn.out]; omega
        have e1 := hc j (by omega)
        rw [bools_get _ _ hl] at e1
        have Hs := Lib.hid (show nb l (j + 1) = nb l j + (if l[j] = true then 2 ^ j else 0) from by simp [nb, hl])
        have Hp := Lib.hid (pw_succ j h64)
        have Ha := Lib.hid (nb_add l j h64)
        generalize l[j] = x at *
        have ki : (j : Int) < (n : Int) := by omega
        have kk : (j : Int) < 64 := by omega
        have k0 : (0 : Int) ≤ (j : Int) := by omega
        clear hc hl
        generalize hpj : pw j = pj at *
        have Hpj := Lib.hid hpj
        clear hpj
        cases x
        all_goals
          go_wp2
          go_round
          case rel => exact ⟨j + 1, by omega, by omega, by go_num, by rw [Hs.out]; first | (rw [Ha.out]; simp) | simp, by rw [Hp.out]⟩
          case measure => simp [intOf]; omega
      · have k64 : (64 : Int) ≤ (j : Int) := by omega
        have Hj := Lib.hid (show min n 64 = j from by omega)
        go_wp2
        go_ret
        exact ⟨reti (by rw [Hv.out, Hj.out]), rfl⟩
    · have Hj := Lib.hid (show min n 64 = j from by omega)
      have kn : (n : Int) ≤ (j : Int) := by omega
      go_wp2
      go_ret
      exact ⟨reti (by rw [Hv.out, Hj.out]), rfl⟩
end Go.Proofs.Ytaeifbkimagpdaa

/- The reference's Hold and Of: a list made by append. -/
namespace Go.Proofs.Ytaeifbkimagpdaa
open Go.ChangeShapes Go.WideShapes Go.ChangeAt Go.RowKit
set_option linter.unusedVariables false
theorem rhold_any (n : Int) (w : World) :
    Calls Try.prog 47 #[.int .i64 n, .int .i64 0, .int .i64 64] w fun r w' => r = .returned (.int .i64 (min (max n 0) 64)) ∧ w = w' := by
  by_cases h : n < 0
  · have e : min (max n 0) 64 = 0 := by omega
    rw [e]
    clear e
    go_enter Try.func47, Try.ntmps47
    go_wp2
    go_ret
    exact ⟨rfl, rfl⟩
  · by_cases h2 : 64 < n
    · have e : min (max n 0) 64 = 64 := by omega
      rw [e]
      clear e
      go_enter Try.func47, Try.ntmps47
      go_wp2
      go_ret
      exact ⟨rfl, rfl⟩
    · have e : min (max n 0) 64 = n := by omega
      rw [e]
      clear e
      go_enter Try.func47, Try.ntmps47
      go_wp2
      go_ret
      exact ⟨rfl, rfl⟩
theorem u64_half {x : Nat} (h : (x : Int) ≤ 18446744073709551615) : IntKind.u64.wrap ((x : Int) / 2) = ((x / 2 : Nat) : Int) := by rw [IntKind.wrap_u64]; omega
set_option maxHeartbeats 1000000 in
theorem rof_any (n : Nat) (m : Int) (w : World) (hn : n < 18446744073709551616) :
    Calls Try.prog 15 #[.int .u64 (n : Int), .int .i64 m] w (NewBL w (bitsOf n (min (max m 0) 64).toNat)) := by
  obtain ⟨k, hk⟩ : ∃ k : Nat, min (max m 0) 64 = (k : Int) := Int.eq_ofNat_of_zero_le (by omega)
  have hk64 : k ≤ 64 := by omega
  have C1 := Lib.hid (fun w => rhold_any m w)
  rw [hk] at C1 ⊢
  rw [Int.toNat_natCast]
  obtain ⟨i2, hi2, hz2, hs2, hy2⟩ := info_parts bool_info
  have Hn := Lib.hid hn
  clear hk hn
  go_enter Try.func15, Try.ntmps15
  go_wp2
  go_loopw [0, 5, 6] (fun u v i wr => ∃ j : Nat, j ≤ k ∧ i = .int .i64 j ∧ u = .int .u64 ((n / 2 ^ j : Nat) : Int) ∧ Own wr w.heap.size 4 1 v j (bools (bitsOf n j)) ∧ Below w.heap.size w wr) (fun _ _ i _ => (k - intOf i).toNat)
  case atStart =>
    refine ⟨0, by omega, rfl, by simp, ?_, (Below.refl _ _).alloc (Nat.le_refl _) _⟩
    exact Own.ofRow (World.ownsRow_lit (base := w.heap.size) (size := 1) (e := 4) w #[] 0 (Nat.le_refl _) (by unfold maxLen; omega) rfl)
  case round =>
    obtain ⟨j, hj, rfl, rfl, hown, hb⟩ := hrel
    obtain ⟨A, c, rfl, _⟩ := hown.shape
    have hbz := hb.size
    have Hown := Lib.hid hown
    have Hb := Lib.hid hb
    clear hown hb
    by_cases hlt : j < k
    · have kk : (j : Int) < (k : Int) := by omega
      have Hq := Lib.hid (show (((n / 2 ^ j : Nat) : Int) % 2 == 1) = n.testBit j from by
        rw [Nat.testBit_eq_decide_div_mod_eq, Bool.eq_iff_iff, beq_iff_eq, decide_eq_true_iff]; omega)
      have Hd := Lib.hid (show n / 2 ^ (j + 1) = n / 2 ^ j / 2 from by rw [Nat.pow_succ, Nat.div_div_eq_div_mul])
      have hx : (((n / 2 ^ j : Nat) : Int)) ≤ 18446744073709551615 := by
        have := Nat.lt_of_le_of_lt (Nat.div_le_self n (2 ^ j)) Hn.out
        omega
      generalize n / 2 ^ j = x at *
      have Hx := Lib.hid hx
      clear hx
      go_wp2_with (first | (go_at_call 47; refine (C1.out _).mono ?_; rintro r w' ⟨rfl, rfl⟩) | (at_builtin; refine wpList_append_Own _ rfl (.tmp 14) (.tmp 18) _ rfl w.heap.size 4 i2 (.bool false) 1 1 Try.underlying23 hi2 hz2 hs2 hy2 rfl (by omega) (.slice A j c) j (bools (bitsOf n j)) rfl (Hown.out.alloc _) ⟨wr.heap.size, 0, none⟩ 1 1 [.bool ((x : Int) % 2 == 1)] rfl rfl (cell_one_new wr _ _) (by intro u hu; simp at hu; subst hu; rfl) (by unfold maxLen; omega) (by omega) (by simp; omega) ?_; intro v1 w1 hown1 hgrow hat; have Hown1 := Lib.hid hown1; have Hgrow := Lib.hid hgrow; clear hown1 hgrow hat))
      go_roundw
      case rel =>
        go_light
        refine ⟨j + 1, by omega, by go_num, by rw [Hd.out]; exact congrArg (Value.int .u64) (u64_half Hx.out), ?_, ?_⟩
        · have h := Hown1.out
          rw [Hq.out] at h
          rw [bitsOf_succ]
          simpa [bools] using h
        · exact ((Hb.out.alloc hbz _).grown Hgrow.out (by simp; omega) (fun g hg => ((Hown.out.lt g hg).1)))
      case measure => simp [intOf]; omega
    · have hjk : j = k := by omega
      subst hjk
      go_wp2_with (go_at_call 47; refine (C1.out _).mono ?_; rintro r w' ⟨rfl, rfl⟩)
      go_ret
      refine ⟨A, c, by rw [bitsOf_length]; rfl, by rw [bitsOf_length]; exact ⟨by assumption, Hown.out.low⟩, by rw [bitsOf_length]; exact RL.of_own Hown.out, Hb.out⟩
end Go.Proofs.Ytaeifbkimagpdaa

/- Next, and the reference's. -/
namespace Go.Proofs.Ytaeifbkimagpdaa
open Go.ChangeShapes Go.WideShapes Go.ChangeAt Go.RowKit
set_option linter.unusedVariables false
/-- Whether the carry reaches place i. -/
def cy (l : List Bool) (i : Nat) : Bool := (l.take i).all id
def nextL (l : List Bool) : List Bool := (List.range l.length).map fun i => l.getD i false != cy l i
theorem nextL_length (l : List Bool) : (nextL l).length = l.length := by simp [nextL]
theorem cy_succ (l : List Bool) (i : Nat) (h : i < l.length) : cy l (i + 1) = (cy l i && l[i]) := by
  unfold cy
  rw [List.take_add_one, List.getElem?_eq_getElem h, List.all_append]
  simp
theorem nextL_get (l : List Bool) (i : Nat) (h : i < l.length) : (nextL l)[i]? = some (l[i] != cy l i) := by
  simp [nextL, h]
theorem nextL_take_succ (l : List Bool) (i : Nat) (h : i < l.length) : (nextL l).take (i + 1) = (nextL l).take i ++ [l[i] != cy l i] := by
  rw [List.take_add_one, nextL_get l i h]; rfl
set_option maxHeartbeats 1000000 in
theorem rnext_any (w : World) (A : Option Addr) (n c : Nat) (l : List Bool) (hn : l.length = n) (hA : RL w w.heap.size 1 A n (bools l)) (sn : n ≤ 4000000000000) :
    Calls Try.prog 19 #[.slice A n c] w (NewBL w (nextL l)) := by
  obtain ⟨i2, hi2, hz2, hs2, hy2⟩ := info_parts bool_info
  have Hn := Lib.hid hn
  have HA := Lib.hid hA
  clear hn hA
  go_enter Try.func19, Try.ntmps19
  go_wp2
  go_loopw [3, 4, 5] (fun v cr i wr => ∃ j : Nat, j ≤ n ∧ i = .int .i64 j ∧ cr = .bool (cy l j) ∧ Own wr w.heap.size 4 1 v j (bools ((nextL l).take j)) ∧ Below w.heap.size w wr) (fun _ _ i _ => (n - intOf i).toNat)
  case atStart =>
    refine ⟨0, by omega, rfl, by simp [cy], ?_, (Below.refl _ _).alloc (Nat.le_refl _) _⟩
    exact Own.ofRow (World.ownsRow_lit (base := w.heap.size) (size := 1) (e := 4) w #[] 0 (Nat.le_refl _) (by unfold maxLen; omega) rfl)
  case round =>
    obtain ⟨j, hj, rfl, rfl, hown, hb⟩ := hrel
    obtain ⟨A1, c1, rfl, hc1⟩ := hown.shape
    have hbz := hb.size
    have hr := HA.out.below hb
    have Hown := Lib.hid hown
    have Hb := Lib.hid hb
    clear hown hb
    by_cases hlt : j < n
    · obtain ⟨b, o, rfl, hbw, hc⟩ := hr.at_ (by omega)
      have hl : j < l.length := by rw [Hn.out]; exact hlt
      have e1 := hc j (by omega)
      rw [bools_get _ _ hl] at e1
      have Hts := Lib.hid (nextL_take_succ l j hl)
      have Hcs := Lib.hid (cy_succ l j hl)
      generalize l[j] = x at *
      have ki : (j : Int) < (n : Int) := by omega
      have k0 : (0 : Int) ≤ (j : Int) := by omega
      have hbr : b < wr.heap.size := by omega
      have Hbw := Lib.hid hbw
      clear hc hl hr hbw
      generalize hcr : cy l j = cr at *
      have HB := Lib.hid Hbw.out
      clear hcr
      cases cr
      all_goals
        go_wp2_with (at_builtin; refine wpList_append_Own _ rfl (.tmp 13) (.tmp 20) _ rfl w.heap.size 4 i2 (.bool false) 1 1 Try.underlying23 hi2 hz2 hs2 hy2 rfl (by omega) (.slice A1 j c1) j (bools ((nextL l).take j)) rfl (Hown.out.alloc _) ⟨wr.heap.size, 0, none⟩ 1 1 [.bool _] rfl rfl (cell_one_new wr _ _) (by intro u hu; simp at hu; subst hu; rfl) (by unfold maxLen; omega) (by omega) (by simp; omega) ?_; intro v1 w1 hown1 hgrow hat; have e2 : w1.cell? ⟨b, o + j, none⟩ = some (.bool x) := (World.cell?_of_block (w := wr.alloc _) (a := ⟨b, o + j, none⟩) (hgrow.block b (by simp; omega) (fun e => by have := (Hown.out.lt b e.symm).1; have := HB.out; omega))).trans ((World.cell?_alloc_lt wr _ ⟨b, o + j, none⟩ hbr).trans e1); have Hown1 := Lib.hid hown1; have Hgrow := Lib.hid hgrow; clear hown1 hgrow hat)
        go_roundw
        case rel =>
          go_light
          refine ⟨j + 1, by omega, by go_num, by rw [Hcs.out]; simp, ?_, ?_⟩
          · have h := Hown1.out
            rw [Hts.out]
            simpa [bools] using h
          · exact ((Hb.out.alloc hbz _).grown Hgrow.out (by simp; omega) (fun g hg => ((Hown.out.lt g hg).1)))
        case measure => simp [intOf]; omega
    · have hjn : j = n := by omega
      subst hjn
      have hl := nextL_length l
      rw [Hn.out] at hl
      have Hl := Lib.hid hl
      clear hr hl
      go_wp2
      go_ret
      have ho := Hown.out
      rw [List.take_of_length_le (by rw [Hl.out]; exact Nat.le_refl _)] at ho
      refine ⟨A1, c1, by rw [Hl.out]; rfl, by rw [Hl.out]; exact ⟨hc1, ho.low⟩, by rw [Hl.out]; exact RL.of_own ho, Hb.out⟩
end Go.Proofs.Ytaeifbkimagpdaa

/- Package bits: Next. -/
namespace Go.Proofs.Ytaeifbkimagpdaa
open Go.ChangeShapes Go.WideShapes Go.ChangeAt Go.RowKit
set_option linter.unusedVariables false
theorem add_at (b o j : Nat) : (⟨b, o, none⟩ : Addr).add j = ⟨b, o + j, none⟩ := by
  unfold Addr.add
  by_cases h : j = 0 <;> simp [h]
theorem bool_size : (Try.prog.info? 4).map (·.size) = some 1 := by kernel_rfl
/-- The list behind i flips: the first i places are those of the next list. -/
def flipped (l : List Bool) (i : Nat) : List Bool := (nextL l).take i ++ l.drop i
theorem flipped_zero (l : List Bool) : flipped l 0 = l := by simp [flipped]
theorem flipped_length (l : List Bool) (i : Nat) (h : i ≤ l.length) : (flipped l i).length = l.length := by
  simp [flipped, nextL_length]; omega
theorem flipped_get (l : List Bool) (i : Nat) (h : i < l.length) : (flipped l i)[i]? = some l[i] := by
  unfold flipped
  rw [List.getElem?_append_right (by simp [nextL_length]; omega)]
  simp [nextL_length, Nat.min_eq_left (Nat.le_of_lt h), h]
theorem flipped_set (l : List Bool) (i : Nat) (h : i < l.length) (hc : cy l i = true) : (flipped l i).set i (!l[i]) = flipped l (i + 1) := by
  unfold flipped
  rw [List.set_append_right _ _ (by simp [nextL_length]; omega), nextL_take_succ l i h, hc, List.append_assoc]
  congr 1
  rw [List.length_take, nextL_length, Nat.min_eq_left (Nat.le_of_lt h), Nat.sub_self, List.drop_eq_getElem_cons h, List.set_cons_zero]
  cases l[i] <;> rfl
theorem cy_false (l : List Bool) (i j : Nat) (h : i < l.length) (hf : l[i] = false) (hij : i < j) : cy l j = false := by
  unfold cy
  rw [Bool.eq_false_iff]
  intro ha
  rw [List.all_eq_true] at ha
  have hm : l[i] ∈ l.take j := by
    rw [List.mem_take_iff_getElem]
    exact ⟨i, by omega, rfl⟩
  have := ha _ hm
  rw [hf] at this
  cases this
theorem flipped_stop (l : List Bool) (i : Nat) (h : i < l.length) (hf : l[i] = false) : flipped l (i + 1) = nextL l := by
  apply List.ext_getElem?
  intro j
  unfold flipped
  by_cases hj : j < i + 1
  · rw [List.getElem?_append_left (by simp [nextL_length]; omega), List.getElem?_take_of_lt hj]
  · rw [List.getElem?_append_right (by simp [nextL_length]; omega), List.length_take, nextL_length, Nat.min_eq_left (by omega), List.getElem?_drop]
    rw [show i + 1 + (j - (i + 1)) = j by omega]
    by_cases hjl : j < l.length
    · rw [nextL_get l j hjl, cy_false l i j h hf (by omega), List.getElem?_eq_getElem hjl]; simp
    · rw [List.getElem?_eq_none (by omega), List.getElem?_eq_none (by rw [nextL_length]; omega)]
theorem flipped_end (l : List Bool) : flipped l l.length = nextL l := by
  unfold flipped
  rw [List.take_of_length_le (by rw [nextL_length]; exact Nat.le_refl _)]; simp
set_option maxHeartbeats 1000000 in
theorem next_any (w : World) (A : Option Addr) (n c : Nat) (l : List Bool) (hn : l.length = n) (hA : RL w w.heap.size 1 A n (bools l)) (sn : n ≤ 4000000000000) :
    Calls Try.prog 18 #[.slice A n c] w (NewBL w (nextL l)) := by
  obtain ⟨i2, hi2, hz2, hs2, hy2⟩ := info_parts bool_info
  have hmk := fun W => run_make (P := Try.prog) W 23 4 i2 (.bool false) Try.underlying23 hi2 hz2 .i64 .i64 n n (by omega) (Int.le_refl _) (by rw [hy2]; omega) (by omega)
  have Hn := Lib.hid hn
  have HA := Lib.hid hA
  clear hn hA
  go_enter Try.func18, Try.ntmps18
  have hg0 : (w.alloc (.cells (madeCells #[.bool false] n) 4)).heap[w.heap.size]? = some (.cells (List.replicate n (Value.bool false)).toArray 4 (0, 0)) := by
    rw [heap_alloc_new, ← toList_madeCells_one]
  have hsrc : 0 < (bools l).length → (some (⟨w.heap.size, 0, none⟩ : Addr)) = some ⟨w.heap.size, 0, none⟩ ∧ ∃ ad, A = some ad ∧ ∀ j v, (bools l)[j]? = some v → (w.alloc (.cells (madeCells #[.bool false] n) 4)).cell? (ad.add j) = some v := by
    intro h0
    rw [bools_length, Hn.out] at h0
    obtain ⟨b, o, rfl, hb, hc⟩ := HA.out.at_ h0
    refine ⟨rfl, _, rfl, fun j v hv => ?_⟩
    have hj : j < n := by rw [← Hn.out, ← bools_length l]; exact (List.getElem?_eq_some_iff.1 hv).1
    rw [add_at, World.cell?_alloc_lt w _ ⟨b, o + j, none⟩ hb, hc j (by omega), hv]
  have Hg0 := Lib.hid hg0
  have Hsrc := Lib.hid hsrc
  clear hg0 hsrc
  go_wp2_with (refine wpList_copy_splice rfl (.tmp 8) (.tmp 9) _ _ rfl 4 Try.underlying23 bool_size (some ⟨w.heap.size, 0, none⟩) A n n n c rfl rfl w.heap.size 0 (List.replicate n (Value.bool false)) 4 Hg0.out (bools l) (by rw [bools_length, Hn.out]; exact (Nat.min_self n).symm) Hsrc.out (by rw [bools_length, Hn.out]; simp) (by intro v hv; unfold bools at hv; obtain ⟨b, _, rfl⟩ := List.mem_map.1 hv; rfl) w.heap.size w ((Below.refl _ _).alloc (Nat.le_refl _) _) (Nat.le_refl _) ?_; intro w1 hg1 hb1; have Hb1 := Lib.hid hb1; clear hb1)
  have ho1 : Own w1 w.heap.size 4 1 (.slice (some ⟨w.heap.size, 0, none⟩) n n) n (bools (flipped l 0)) := by
    have h := hg1.out
    rw [flipped_zero]
    refine ⟨by rw [bools_length, Hn.out]; simp, .inr ⟨_, n, _, rfl, Nat.le_refl _, h, Nat.le_refl _, by unfold maxLen; omega, ?_, ?_⟩⟩
    · have hl := bools_length l
      simp only [splice, List.size_toArray, List.length_append, List.length_take, List.length_drop, List.length_replicate]
      rw [hl, Hn.out]; omega
    · have hl := bools_length l
      simp only [splice, List.take_zero, List.nil_append, Nat.mul_one, Nat.zero_add]
      rw [show n = (bools l).length from by rw [hl, Hn.out]]
      exact List.take_left
  have Ho1 := Lib.hid ho1
  clear ho1 hg1 Hg0 Hsrc
  go_loopw [13] (fun i wr => ∃ j : Nat, j ≤ n ∧ i = .int .i64 j ∧ Hid (cy l j = true) ∧ Own wr w.heap.size 4 1 (.slice (some ⟨w.heap.size, 0, none⟩) n n) n (bools (flipped l j)) ∧ Below w.heap.size w wr) (fun i _ => (n - intOf i).toNat)
  case atStart => exact ⟨0, by omega, rfl, by simp [cy, Hid], Ho1.out, Hb1.out⟩
  case round =>
    obtain ⟨j, hj, rfl, hcy, hown, hb⟩ := hrel
    have Hown := Lib.hid hown
    have Hb := Lib.hid hb
    by_cases hlt : j < n
    · have hl : j < l.length := by rw [Hn.out]; exact hlt
      have hc := hown.cellAt j (by omega)
      have hf := hown.frozenAt j
      rw [show (bools (flipped l j))[j]? = some (.bool l[j]) from by unfold bools; rw [List.getElem?_map, flipped_get l j hl]; rfl] at hc
      have Hset := Lib.hid (flipped_set l j hl hcy.out)
      have Hstop := Lib.hid (flipped_stop l j hl)
      have Hcs := Lib.hid (cy_succ l j hl)
      have hbl := hb.size
      have hbl2 : w.heap.size < wr.heap.size := (hown.lt w.heap.size rfl).2
      generalize l[j] = x at *
      have ki : (j : Int) < (n : Int) := by omega
      have k0 : (0 : Int) ≤ (j : Int) := by omega
      clear hown hb hl
      cases x
      · go_wp2
        go_ret
        have ho := Hown.out.stored j (.bool true)
        rw [show (bools (flipped l j)).set j (.bool true) = bools (nextL l) from by
          have h1 := Hset.out
          rw [show (!false) = true from rfl] at h1
          rw [← Hstop.out (by simp), ← h1]; simp [bools, List.map_set]] at ho
        have hl := (nextL_length l).trans Hn.out
        exact ⟨_, n, by rw [hl]; rfl, by rw [hl]; exact ⟨Nat.le_refl _, ho.low⟩, by rw [hl]; exact RL.of_own ho, Hb.out.setCell (Nat.le_refl _) _⟩
      · go_wp2
        go_roundw
        case rel =>
          go_light
          refine ⟨j + 1, by omega, by go_num, ?_, ?_, Hb.out.setCell (Nat.le_refl _) _⟩
          · show cy l (j + 1) = true
            rw [Hcs.out, hcy.out]; rfl
          · have ho := Hown.out.stored j (.bool false)
            rw [show (bools (flipped l j)).set j (.bool false) = bools (flipped l (j + 1)) from by
              have h1 := Hset.out
              rw [show (!true) = false from rfl] at h1
              rw [← h1]; simp [bools, List.map_set]] at ho
            exact ho
        case measure => simp [intOf]; omega
    · have hjn : j = n := by omega
      subst hjn
      clear hown hb hcy
      go_wp2
      go_ret
      have hl := (nextL_length l).trans Hn.out
      have ho := Hown.out
      rw [show flipped l j = nextL l from by rw [← Hn.out]; exact flipped_end l] at ho
      exact ⟨_, j, by rw [hl]; rfl, by rw [hl]; exact ⟨Nat.le_refl _, ho.low⟩, by rw [hl]; exact RL.of_own ho, Hb.out⟩
end Go.Proofs.Ytaeifbkimagpdaa

/- Package bits: Text, and the reference's. -/
namespace Go.Proofs.Ytaeifbkimagpdaa
open Go.ChangeShapes Go.WideShapes Go.ChangeAt Go.RowKit
set_option linter.unusedVariables false
def digit (b : Bool) : UInt8 := if b then 49 else 48
/-- The text of a list. -/
def textOf (l : List Bool) : ByteArray := ⟨(l.map digit).toArray⟩
theorem textOf_snoc (l : List Bool) (b : Bool) : textOf (l ++ [b]) = textOf l ++ ⟨#[digit b]⟩ := by
  apply ByteArray.ext
  rw [ByteArray.data_append]
  simp [textOf]
theorem textOf_size (l : List Bool) : (textOf l).size = l.length := by simp [textOf, ByteArray.size]
set_option maxHeartbeats 1000000 in
theorem rtext_any (w : World) (B : Nat) (A : Option Addr) (n c : Nat) (l : List Bool) (hn : l.length = n) (hA : RL w B 1 A n (bools l)) (sn : n ≤ 100000) :
    Calls Try.prog 21 #[.slice A n c] w fun e w' => e = .returned (.string (textOf l)) ∧ w = w' := by
  have Hn := Lib.hid hn
  have HA := Lib.hid hA
  clear hn hA
  go_enter Try.func21, Try.ntmps21
  go_wp2
  go_loop [3, 4] (fun v i => ∃ j : Nat, j ≤ n ∧ i = .int .i64 j ∧ v = .string (textOf (l.take j))) (fun _ i => (n - intOf i).toNat)
  case atStart => exact ⟨0, by omega, rfl, rfl⟩
  case round =>
    obtain ⟨j, hj, rfl, rfl⟩ := hrel
    by_cases hlt : j < n
    · obtain ⟨b, o, rfl, hbw, hc⟩ := HA.out.at_ (by omega)
      have hl : j < l.length := by rw [Hn.out]; exact hlt
      have e1 := hc j (by omega)
      rw [bools_get _ _ hl] at e1
      have Hs := Lib.hid (show textOf (l.take (j + 1)) = textOf (l.take j) ++ ⟨#[digit l[j]]⟩ from by rw [← textOf_snoc, List.take_append_getElem])
      have hsz : ¬ (9223372036854775807 < (textOf (l.take j)).size + 1) := by
        rw [textOf_size, List.length_take]; omega
      generalize l[j] = x at *
      have ki : (j : Int) < (n : Int) := by omega
      have k0 : (0 : Int) ≤ (j : Int) := by omega
      clear hc hl
      cases x
      all_goals
        go_wp2
        go_round
        case rel => exact ⟨j + 1, by omega, by go_num, by rw [Hs.out]; rfl⟩
        case measure => simp [intOf]; omega
    · have hjn : j = n := by omega
      subst hjn
      have Hl := Lib.hid (show l.take j = l from List.take_of_length_le (by rw [Hn.out]; exact Nat.le_refl _))
      go_wp2
      go_ret
      exact ⟨by rw [← Hl.out]; simp [Hl.out], rfl⟩
/-- The bytes of Text's buffer: the first j digits, zeros behind. -/
def bytes (l : List UInt8) : List Value := l.map fun c => Value.int .u8 (c.toNat : Int)
theorem byte_info : (Try.prog.info? 5).map (fun i => (i.zero, i.size, i.bytes)) = some (some (.int .u8 0), 1, 1) := by kernel_rfl
theorem bytes_set (a : List UInt8) (x : UInt8) (r : Nat) (hr : 0 < r) : (bytes (a ++ List.replicate r 0)).set a.length (.int .u8 (x.toNat : Int)) = bytes ((a ++ [x]) ++ List.replicate (r - 1) 0) := by
  obtain ⟨q, rfl⟩ : ∃ q, r = q + 1 := ⟨r - 1, by omega⟩
  simp [bytes, List.replicate_succ]
set_option maxHeartbeats 1000000 in
theorem text_any (w : World) (A : Option Addr) (n c : Nat) (l : List Bool) (hn : l.length = n) (hA : RL w w.heap.size 1 A n (bools l)) (sn : n ≤ 100000) :
    Calls Try.prog 20 #[.slice A n c] w fun e w' => e = .returned (.string (textOf l)) ∧ Below w.heap.size w w' := by
  obtain ⟨i2, hi2, hz2, hs2, hy2⟩ := info_parts byte_info
  have hmk := fun W => run_make (P := Try.prog) W 67 5 i2 (.int .u8 0) Try.underlying67 hi2 hz2 .i64 .i64 n n (by omega) (Int.le_refl _) (by rw [hy2]; omega) (by omega)
  have Hn := Lib.hid hn
  have HA := Lib.hid hA
  clear hn hA
  go_enter Try.func20, Try.ntmps20
  go_wp2
  go_loopw [5, 11] (fun _ i wr => ∃ j : Nat, j ≤ n ∧ i = .int .i64 j ∧ Own wr w.heap.size 5 1 (.slice (some ⟨w.heap.size, 0, none⟩) n n) n (bytes ((l.take j).map digit ++ List.replicate (n - j) 0)) ∧ Below w.heap.size w wr) (fun _ i _ => (n - intOf i).toNat)
  case atStart =>
    refine ⟨0, by omega, rfl, ?_, (Below.refl _ _).alloc (Nat.le_refl _) _⟩
    have h := Own.ofRow (World.ownsRow_lit (base := w.heap.size) (size := 1) (e := 5) w (madeCells #[.int .u8 0] n) n (Nat.le_refl _) (by unfold maxLen; omega) (by rw [size_madeCells]; omega))
    rw [toList_madeCells_one] at h
    simpa [bytes] using h
  case round =>
    obtain ⟨j, hj, rfl, hown, hb⟩ := hrel
    have Hown := Lib.hid hown
    have Hb := Lib.hid hb
    by_cases hlt : j < n
    · obtain ⟨b, o, rfl, hbw, hc⟩ := (HA.out.below hb).at_ (by omega)
      have hl : j < l.length := by rw [Hn.out]; exact hlt
      have e1 := hc j (by omega)
      rw [bools_get _ _ hl] at e1
      have hc2 := hown.cellAt j (by omega)
      have hf2 := hown.frozenAt j
      have Hset := Lib.hid (fun x => bytes_set ((l.take j).map digit) x (n - j) (by omega))
      have Htk := Lib.hid (show (l.take (j + 1)).map digit = (l.take j).map digit ++ [digit l[j]] from by rw [← List.take_append_getElem hl, List.map_append]; rfl)
      have Hlen := Lib.hid (show ((l.take j).map digit).length = j from by rw [List.length_map, List.length_take]; omega)
      generalize l[j] = x at *
      have hu : (bytes ((l.take j).map digit ++ List.replicate (n - j) 0))[j]? = some (.int .u8 0) := by
        simp only [bytes, List.getElem?_map]
        rw [List.getElem?_append_right (by rw [Hlen.out]; omega), List.getElem?_replicate, if_pos (by rw [Hlen.out]; omega)]
        rfl
      rw [hu] at hc2
      have hbl := hb.size
      have hbl2 : w.heap.size < wr.heap.size := (hown.lt w.heap.size rfl).2
      have nb : ¬ (b = w.heap.size) := by omega
      have ki : (j : Int) < (n : Int) := by omega
      have k0 : (0 : Int) ≤ (j : Int) := by omega
      clear hown hb hl hc hu
      cases x
      · go_wp2
        go_roundw
        case rel =>
          go_light
          refine ⟨j + 1, by omega, by go_num, ?_, Hb.out.setCell (Nat.le_refl _) _⟩
          have ho := Hown.out.stored j (.int .u8 48)
          have h1 := Hset.out 48
          rw [Hlen.out] at h1
          rw [show ((48 : UInt8).toNat : Int) = 48 from rfl] at h1
          rw [h1] at ho
          rw [Htk.out]
          exact ho
        case measure => simp [intOf]; omega
      · go_wp2
        go_roundw
        case rel =>
          go_light
          refine ⟨j + 1, by omega, by go_num, ?_, (Hb.out.setCell (Nat.le_refl _) _).setCell (Nat.le_refl _) _⟩
          have ho := (Hown.out.stored j (.int .u8 48)).stored j (.int .u8 49)
          rw [List.set_set] at ho
          have h1 := Hset.out 49
          rw [Hlen.out] at h1
          rw [show ((49 : UInt8).toNat : Int) = 49 from rfl] at h1
          rw [h1] at ho
          rw [Htk.out]
          exact ho
        case measure => simp [intOf]; omega
    · have hjn : j = n := by omega
      subst hjn
      have hcv := run_convert_bytes_back (P := Try.prog) wr 67 9 5 ⟨w.heap.size, 0, none⟩ j (l.map digit) Try.underlying67 Try.underlying5 Try.underlying9 (fun q hq => by
        rw [List.length_map, Hn.out] at hq
        rw [add_at, Nat.zero_add, hown.cellAt q (by omega)]
        have hlj : l.take j = l := List.take_of_length_le (by rw [Hn.out]; exact Nat.le_refl _)
        rw [hlj, Nat.sub_self, List.replicate_zero, List.append_nil]
        simp [bytes, Hn.out, hq])
      rw [List.length_map, Hn.out] at hcv
      clear hown hb
      go_wp2
      go_ret
      exact ⟨rfl, Hb.out⟩
end Go.Proofs.Ytaeifbkimagpdaa

/- Package bits: Parse, and the reference's. -/
namespace Go.Proofs.Ytaeifbkimagpdaa
open Go.ChangeShapes Go.WideShapes Go.ChangeAt Go.RowKit
set_option linter.unusedVariables false
def dg (c : UInt8) : Bool := c == 48 || c == 49
def parseL (s : ByteArray) : List Bool := s.data.toList.map (· == 49)
/-- How many digits stand at the head. -/
def lead (s : ByteArray) : Nat := (s.data.toList.takeWhile dg).length
theorem lead_le (s : ByteArray) : lead s ≤ s.size := by
  unfold lead
  have := (List.takeWhile_prefix dg (l := s.data.toList)).length_le
  simpa using this
theorem lead_lt (s : ByteArray) (j : Nat) (h : j < lead s) (hs : j < s.size) : dg s[j] = true := by
  have h1 : (s.data.toList.takeWhile dg)[j]? = some s[j] := by
    have : s.data.toList.takeWhile dg <+: s.data.toList := List.takeWhile_prefix dg
    obtain ⟨t, ht⟩ := this
    have h2 : s.data.toList[j]? = some s[j] := by
      rw [List.getElem?_eq_getElem (by simpa using hs)]; rfl
    rw [← ht, List.getElem?_append_left h] at h2
    exact h2
  exact List.all_eq_true.1 (List.all_takeWhile) _ (List.mem_of_getElem? h1)
theorem lead_at (s : ByteArray) (hs : lead s < s.size) : dg s[lead s] = false := by
  have h2 : ∀ (l : List UInt8) (h : (l.takeWhile dg).length < l.length), dg (l[(l.takeWhile dg).length]'h) = false := by
    intro l
    induction l with
    | nil => intro h; simp at h
    | cons a l ih =>
      intro h
      cases ha : dg a
      · simp only [List.takeWhile_cons, ha]
        simpa using ha
      · simp only [List.takeWhile_cons, ha, if_true, List.length_cons] at h ⊢
        simpa using ih (by omega)
  have := h2 s.data.toList (by simpa [lead] using hs)
  exact this
theorem lead_all (s : ByteArray) : s.data.toList.all dg = decide (lead s = s.size) := by
  have h : ∀ l : List UInt8, l.all dg = decide ((l.takeWhile dg).length = l.length) := by
    intro l
    induction l with
    | nil => rfl
    | cons a l ih =>
      cases ha : dg a <;> simp [ha, ih]
  have := h s.data.toList
  rw [this]
  unfold lead
  congr 1
def ParsePost (w : World) (s : ByteArray) (e : Ending) (w' : World) : Prop := Below w.heap.size w w' ∧
  ((4096 < s.size ∧ e = .returned (.tuple #[.slice none 0 0, .int .i64 4])) ∨ (s.size ≤ 4096 ∧ s.data.toList.all dg = false ∧ e = .returned (.tuple #[.slice none 0 0, .int .i64 3])) ∨
   (s.size ≤ 4096 ∧ s.data.toList.all dg = true ∧ ∃ A c, e = .returned (.tuple #[.slice A s.size c, .int .i64 0]) ∧ RL w' w'.heap.size 1 A s.size (bools (parseL s))))
theorem parseL_length (s : ByteArray) : (parseL s).length = s.size := by simp [parseL]
theorem parseL_take (s : ByteArray) (j : Nat) (h : j < s.size) : (parseL s).take (j + 1) = (parseL s).take j ++ [s[j] == 49] := by
  rw [List.take_add_one, List.getElem?_eq_getElem (by rw [parseL_length]; exact h)]
  simp [parseL]
  rfl
theorem dg_cases {x : UInt8} (h : dg x = true) : x = 48 ∨ x = 49 := by
  unfold dg at h
  simpa using h
theorem dg_zero {x : UInt8} (h : x = 48) : ((x.toNat : Int) != 48) = false ∧ ((x.toNat : Int) == 49) = false ∧ (x == 49) = false := by subst h; exact ⟨rfl, rfl, rfl⟩
theorem dg_one {x : UInt8} (h : x = 49) : ((x.toNat : Int) != 48) = true ∧ ((x.toNat : Int) != 49) = false ∧ ((x.toNat : Int) == 49) = true ∧ (x == 49) = true := by subst h; exact ⟨rfl, rfl, rfl, rfl⟩
theorem dg_not {x : UInt8} (h : dg x = false) : (((x.toNat : Int) != 48) = true ∧ ((x.toNat : Int) != 49) = true) ∧ (((x.toNat : Int) == 48) = false ∧ ((x.toNat : Int) == 49) = false) := by
  unfold dg at h
  simp only [Bool.or_eq_false_iff, beq_eq_false_iff_ne] at h
  have h1 : x.toNat ≠ 48 := fun e => h.1 (UInt8.toNat_inj.1 e)
  have h2 : x.toNat ≠ 49 := fun e => h.2 (UInt8.toNat_inj.1 e)
  simp only [bne_iff_ne, beq_eq_false_iff_ne]
  omega
set_option maxHeartbeats 1000000 in
theorem rparse_any (w : World) (s : ByteArray) (hs : s.size ≤ 100000) : Calls Try.prog 25 #[.string s] w (ParsePost w s) := by
  obtain ⟨i2, hi2, hz2, hs2, hy2⟩ := info_parts bool_info
  by_cases hlong : 4096 < s.size
  · go_enter Try.func25, Try.ntmps25
    go_wp2
    go_ret2
    exact ⟨Below.refl _ _, .inl ⟨hlong, rfl⟩⟩
  · have hle := lead_le s
    have Hal := Lib.hid (lead_all s)
    go_enter Try.func25, Try.ntmps25
    go_wp2
    go_loopw [4, 5] (fun v i wr => ∃ j : Nat, j ≤ lead s ∧ i = .int .i64 j ∧ Own wr w.heap.size 4 1 v j (bools ((parseL s).take j)) ∧ Below w.heap.size w wr) (fun _ i _ => (s.size - intOf i).toNat)
    case atStart =>
      refine ⟨0, by omega, rfl, ?_, (Below.refl _ _).alloc (Nat.le_refl _) _⟩
      exact Own.ofRow (World.ownsRow_lit (base := w.heap.size) (size := 1) (e := 4) w #[] 0 (Nat.le_refl _) (by unfold maxLen; omega) rfl)
    case round =>
      obtain ⟨j, hj, rfl, hown, hb⟩ := hrel
      obtain ⟨A1, c1, rfl, hc1⟩ := hown.shape
      have hbz := hb.size
      have Hown := Lib.hid hown
      have Hb := Lib.hid hb
      clear hown hb
      by_cases hlt : j < s.size
      · by_cases hjl : j < lead s
        · have hd := dg_cases (lead_lt s j hjl hlt)
          have Hts := Lib.hid (parseL_take s j hlt)
          rcases hd with hd | hd
          · obtain ⟨t1, t2, t3⟩ := dg_zero hd
            have Ht3 := Lib.hid t3
            clear hd t3
            go_wp2_with (at_builtin; refine wpList_append_Own _ rfl (.tmp 26) (.tmp 31) _ rfl w.heap.size 4 i2 (.bool false) 1 1 Try.underlying23 hi2 hz2 hs2 hy2 rfl (by omega) (.slice A1 j c1) j (bools ((parseL s).take j)) rfl (Hown.out.alloc _) ⟨wr.heap.size, 0, none⟩ 1 1 [.bool false] rfl rfl (cell_one_new wr _ _) (by intro u hu; simp at hu; subst hu; rfl) (by unfold maxLen; omega) (by omega) (by simp; omega) ?_; intro v1 w1 hown1 hgrow hat; have Hown1 := Lib.hid hown1; have Hgrow := Lib.hid hgrow; clear hown1 hgrow hat)
            go_roundw
            case rel =>
              go_light
              refine ⟨j + 1, by omega, by go_num, ?_, ?_⟩
              · have h := Hown1.out
                rw [Hts.out, Ht3.out]
                simpa [bools] using h
              · exact ((Hb.out.alloc hbz _).grown Hgrow.out (by simp; omega) (fun g hg => ((Hown.out.lt g hg).1)))
            case measure => simp [intOf]; omega
          · obtain ⟨t1, t2, t3, t4⟩ := dg_one hd
            have Ht3 := Lib.hid t4
            clear hd t4
            go_wp2_with (at_builtin; refine wpList_append_Own _ rfl (.tmp 26) (.tmp 31) _ rfl w.heap.size 4 i2 (.bool false) 1 1 Try.underlying23 hi2 hz2 hs2 hy2 rfl (by omega) (.slice A1 j c1) j (bools ((parseL s).take j)) rfl (Hown.out.alloc _) ⟨wr.heap.size, 0, none⟩ 1 1 [.bool true] rfl rfl (cell_one_new wr _ _) (by intro u hu; simp at hu; subst hu; rfl) (by unfold maxLen; omega) (by omega) (by simp; omega) ?_; intro v1 w1 hown1 hgrow hat; have Hown1 := Lib.hid hown1; have Hgrow := Lib.hid hgrow; clear hown1 hgrow hat)
            go_roundw
            case rel =>
              go_light
              refine ⟨j + 1, by omega, by go_num, ?_, ?_⟩
              · have h := Hown1.out
                rw [Hts.out, Ht3.out]
                simpa [bools] using h
              · exact ((Hb.out.alloc hbz _).grown Hgrow.out (by simp; omega) (fun g hg => ((Hown.out.lt g hg).1)))
            case measure => simp [intOf]; omega
        · obtain rfl : j = lead s := by omega
          obtain ⟨⟨n1, n2⟩, n3, n4⟩ := dg_not (lead_at s hlt)
          have Hf := Lib.hid (show s.data.toList.all dg = false from by rw [Hal.out, decide_eq_false_iff_not]; omega)
          go_wp2
          go_ret2
          exact ⟨Hb.out, .inr (.inl ⟨by omega, Hf.out, rfl⟩)⟩
      · obtain rfl : j = s.size := by omega
        have Ht := Lib.hid (show s.data.toList.all dg = true from by rw [Hal.out, decide_eq_true_iff]; omega)
        go_wp2
        go_ret2
        refine ⟨Hb.out, .inr (.inr ⟨by omega, Ht.out, A1, c1, rfl, ?_⟩)⟩
        have ho := Hown.out
        rw [List.take_of_length_le (by rw [parseL_length]; exact Nat.le_refl _)] at ho
        exact RL.of_own ho
theorem parse_set (s : ByteArray) (j : Nat) (h : j < s.size) : (bools ((parseL s).take j ++ List.replicate (s.size - j) false)).set j (.bool (s[j] == 49)) = bools ((parseL s).take (j + 1) ++ List.replicate (s.size - (j + 1)) false) := by
  have h1 := bools_set_pad ((parseL s).take j) (s[j] == 49) (s.size - j) (by omega)
  rw [List.length_take, parseL_length, Nat.min_eq_left (by omega)] at h1
  rw [h1, parseL_take s j h, show s.size - j - 1 = s.size - (j + 1) by omega]
theorem parse_at (s : ByteArray) (j : Nat) (h : j < s.size) : (bools ((parseL s).take j ++ List.replicate (s.size - j) false))[j]? = some (.bool false) := by
  simp only [bools, List.getElem?_map]
  rw [List.getElem?_append_right (by rw [List.length_take, parseL_length]; omega), List.getElem?_replicate, if_pos (by rw [List.length_take, parseL_length]; omega)]
  rfl
set_option maxHeartbeats 1000000 in
theorem parse_any (w : World) (s : ByteArray) (hs : s.size ≤ 100000) : Calls Try.prog 24 #[.string s] w (ParsePost w s) := by
  obtain ⟨i2, hi2, hz2, hs2, hy2⟩ := info_parts bool_info
  by_cases hlong : 4096 < s.size
  · go_enter Try.func24, Try.ntmps24
    go_wp2
    go_ret2
    exact ⟨Below.refl _ _, .inl ⟨hlong, rfl⟩⟩
  · have hle := lead_le s
    have Hal := Lib.hid (lead_all s)
    have hmk := fun W => run_make (P := Try.prog) W 23 4 i2 (.bool false) Try.underlying23 hi2 hz2 .i64 .i64 s.size s.size (by omega) (Int.le_refl _) (by rw [hy2]; omega) (by omega)
    go_enter Try.func24, Try.ntmps24
    go_wp2
    go_loopw [14] (fun i wr => ∃ j : Nat, j ≤ lead s ∧ i = .int .i64 j ∧ Own wr w.heap.size 4 1 (.slice (some ⟨w.heap.size, 0, none⟩) s.size s.size) s.size (bools ((parseL s).take j ++ List.replicate (s.size - j) false)) ∧ Below w.heap.size w wr) (fun i _ => (s.size - intOf i).toNat)
    case atStart =>
      refine ⟨0, by omega, rfl, ?_, (Below.refl _ _).alloc (Nat.le_refl _) _⟩
      have h := Own.ofRow (World.ownsRow_lit (base := w.heap.size) (size := 1) (e := 4) w (madeCells #[.bool false] s.size) s.size (Nat.le_refl _) (by unfold maxLen; omega) (by rw [size_madeCells]; omega))
      rw [toList_madeCells_one] at h
      simpa [bools] using h
    case round =>
      obtain ⟨j, hj, rfl, hown, hb⟩ := hrel
      have hbz := hb.size
      have Hown := Lib.hid hown
      have Hb := Lib.hid hb
      by_cases hlt : j < s.size
      · have hc := hown.cellAt j (by omega)
        have hf := hown.frozenAt j
        rw [parse_at s j hlt] at hc
        have ki : (j : Int) < (s.size : Int) := by omega
        have k0 : (0 : Int) ≤ (j : Int) := by omega
        have hbl2 : w.heap.size < wr.heap.size := (hown.lt w.heap.size rfl).2
        clear hown hb
        by_cases hjl : j < lead s
        · have hd := dg_cases (lead_lt s j hjl hlt)
          have Hset := Lib.hid (parse_set s j hlt)
          rcases hd with hd | hd
          · obtain ⟨t1, t2, t3⟩ := dg_zero hd
            have Ht3 := Lib.hid t3
            clear hd t3
            go_wp2
            go_roundw
            case rel =>
              go_light
              refine ⟨j + 1, by omega, by go_num, ?_, Hb.out.setCell (Nat.le_refl _) _⟩
              rw [← Hset.out, Ht3.out]
              exact Hown.out.stored j _
            case measure => simp [intOf]; omega
          · obtain ⟨t1, t2, t3, t4⟩ := dg_one hd
            have Ht3 := Lib.hid t4
            clear hd t4
            go_wp2
            go_roundw
            case rel =>
              go_light
              refine ⟨j + 1, by omega, by go_num, ?_, Hb.out.setCell (Nat.le_refl _) _⟩
              rw [← Hset.out, Ht3.out]
              exact Hown.out.stored j _
            case measure => simp [intOf]; omega
        · obtain rfl : j = lead s := by omega
          obtain ⟨⟨n1, n2⟩, n3, n4⟩ := dg_not (lead_at s hlt)
          have Hf := Lib.hid (show s.data.toList.all dg = false from by rw [Hal.out, decide_eq_false_iff_not]; omega)
          go_wp2
          go_ret2
          exact ⟨Hb.out, .inr (.inl ⟨by omega, Hf.out, rfl⟩)⟩
      · obtain rfl : j = s.size := by omega
        have Ht := Lib.hid (show s.data.toList.all dg = true from by rw [Hal.out, decide_eq_true_iff]; omega)
        clear hown hb
        go_wp2
        go_ret2
        refine ⟨Hb.out, .inr (.inr ⟨by omega, Ht.out, _, s.size, rfl, ?_⟩)⟩
        have ho := Hown.out
        rw [List.take_of_length_le (by rw [parseL_length]; exact Nat.le_refl _), Nat.sub_self, List.replicate_zero, List.append_nil] at ho
        exact RL.of_own ho
end Go.Proofs.Ytaeifbkimagpdaa

/- Package bits: Less, and the reference's. -/
namespace Go.Proofs.Ytaeifbkimagpdaa
open Go.ChangeShapes Go.WideShapes Go.ChangeAt Go.RowKit
set_option linter.unusedVariables false
def cmpB (x y : Bool) : Int := if x = y then 0 else if y = true then -1 else 1
def cmpL : List Bool → List Bool → Int
  | [], [] => 0
  | [], _ :: _ => -1
  | _ :: _, [] => 1
  | x :: a, y :: b => if x = y then cmpL a b else cmpB x y
def lessL (a b : List Bool) : Bool := decide (cmpL a b < 0)
theorem cmpB_any (x y : Bool) (w : World) : Calls Try.prog 49 #[.bool x, .bool y] w fun e w' => e = .returned (.int .i64 (cmpB x y)) ∧ w = w' := by
  cases x <;> cases y
  all_goals
    go_enter Try.func49, Try.ntmps49
    go_wp2
    go_ret
    exact ⟨rfl, rfl⟩
theorem cmpL_step {l r : List Bool} {k : Nat} (hl : k < l.length) (hr : k < r.length) : cmpL (l.drop k) (r.drop k) = if l[k] = r[k] then cmpL (l.drop (k + 1)) (r.drop (k + 1)) else cmpB l[k] r[k] := by
  rw [List.drop_eq_getElem_cons hl, List.drop_eq_getElem_cons hr]; rfl
theorem cmpL_endl {l r : List Bool} {k : Nat} (hl : k = l.length) (hr : k < r.length) : cmpL (l.drop k) (r.drop k) = -1 := by
  rw [List.drop_of_length_le (by omega), List.drop_eq_getElem_cons hr]; rfl
theorem cmpL_endr {l r : List Bool} {k : Nat} (hl : k < l.length) (hr : k = r.length) : cmpL (l.drop k) (r.drop k) = 1 := by
  rw [List.drop_eq_getElem_cons hl, List.drop_of_length_le (l := r) (by omega)]; rfl
theorem cmpL_end {l r : List Bool} {k : Nat} (hl : k = l.length) (hr : k = r.length) : cmpL (l.drop k) (r.drop k) = 0 := by
  rw [List.drop_of_length_le (by omega), List.drop_of_length_le (by omega)]; rfl
set_option maxHeartbeats 1000000 in
theorem cmpf_any (w : World) (B : Nat) (A C : Option Addr) (n m ca cb : Nat) (l r : List Bool) (hn : l.length = n) (hm : r.length = m) (hA : RL w B 1 A n (bools l)) (hC : RL w B 1 C m (bools r)) (sn : n ≤ 4000000000000) (sm : m ≤ 4000000000000) :
    Calls Try.prog 48 #[.slice A n ca, .slice C m cb, .func (.func 49) #[] #[]] w fun e w' => e = .returned (.int .i64 (cmpL l r)) ∧ w = w' := by
  generalize hV : cmpL l r = V at *
  have HV := Lib.hid hV
  have Hn := Lib.hid hn
  have Hm := Lib.hid hm
  have HA := Lib.hid hA
  have HC := Lib.hid hC
  clear hV hn hm hA hC
  go_enter Try.func48, Try.ntmps48
  go_wp2
  go_loop [13] (fun i => ∃ k : Nat, k ≤ n ∧ i = .int .i64 k ∧ k ≤ m ∧ Hid (cmpL (l.drop k) (r.drop k) = V)) (fun i => (n - intOf i).toNat)
  case atStart => exact ⟨0, by omega, rfl, by omega, HV.out⟩
  case round =>
    obtain ⟨k, hk, rfl, hkm, hpre⟩ := hrel
    by_cases hlt : k < n
    · obtain ⟨b, o, rfl, _, hc⟩ := HA.out.at_ (by omega)
      have hl : k < l.length := by rw [Hn.out]; exact hlt
      have e1 := hc k (by omega)
      rw [bools_get _ _ hl] at e1
      have k1 : (k : Int) < (n : Int) := by omega
      have k0 : (0 : Int) ≤ (k : Int) := by omega
      by_cases hltm : k < m
      · obtain ⟨b', o', rfl, _, hc'⟩ := HC.out.at_ (by omega)
        have hr : k < r.length := by rw [Hm.out]; exact hltm
        have e2 := hc' k (by omega)
        rw [bools_get _ _ hr] at e2
        have k2 : (k : Int) < (m : Int) := by omega
        have hst := cmpL_step hl hr
        rw [hpre.out] at hst
        generalize l[k] = x at *
        generalize r[k] = y at *
        clear hc hc' hl hr hpre
        by_cases hxy : x = y
        · subst hxy
          rw [if_pos rfl] at hst
          have Hst := Lib.hid hst
          have Hz := Lib.hid (show cmpB x x = 0 from by unfold cmpB; rw [if_pos rfl])
          clear hst
          go_wp2_with (go_at_call 49; refine (cmpB_any _ _ _).mono ?_; rw [Hz.out]; rintro e w' ⟨rfl, rfl⟩)
          go_round
          case rel => exact ⟨k + 1, by omega, by go_num, by omega, Hst.out.symm⟩
          case measure => simp [intOf]; omega
        · rw [if_neg hxy] at hst
          have Hst := Lib.hid hst
          have hnz : ((cmpB x y) != 0) = true := by unfold cmpB; rw [if_neg hxy]; cases y <;> rfl
          clear hst hxy
          go_wp2_with (go_at_call 49; refine (cmpB_any _ _ _).mono ?_; rintro e w' ⟨rfl, rfl⟩)
          go_ret
          exact ⟨reti Hst.out, rfl⟩
      · have hke : k = m := by omega
        subst hke
        have Hst := Lib.hid (hpre.out.symm.trans (cmpL_endr hl Hm.out.symm))
        generalize l[k] = x at *
        clear hpre hc hl
        go_wp2
        go_ret
        exact ⟨reti Hst.out, rfl⟩
    · have hke : k = n := by omega
      subst hke
      by_cases hltm : k < m
      · have Hst := Lib.hid (hpre.out.symm.trans (cmpL_endl Hn.out.symm (by rw [Hm.out]; exact hltm)))
        clear hpre
        go_wp2
        go_ret
        exact ⟨reti Hst.out, rfl⟩
      · have Hst := Lib.hid (hpre.out.symm.trans (cmpL_end Hn.out.symm (by rw [Hm.out]; omega)))
        clear hpre
        go_wp2
        go_ret
        exact ⟨reti Hst.out, rfl⟩
theorem less_any (w : World) (B : Nat) (A C : Option Addr) (n m ca cb : Nat) (l r : List Bool) (hn : l.length = n) (hm : r.length = m) (hA : RL w B 1 A n (bools l)) (hC : RL w B 1 C m (bools r)) (sn : n ≤ 4000000000000) (sm : m ≤ 4000000000000) :
    Calls Try.prog 22 #[.slice A n ca, .slice C m cb] w fun e w' => e = .returned (.bool (lessL l r)) ∧ w = w' := by
  have C1 := Lib.hid (cmpf_any w B A C n m ca cb l r hn hm hA hC sn sm)
  clear hA hC hn hm
  go_enter Try.func22, Try.ntmps22
  go_wp2_with (go_at_call 48; refine C1.out.mono ?_; rintro e w' ⟨rfl, rfl⟩)
  go_ret
  exact ⟨rfl, rfl⟩
set_option maxHeartbeats 1000000 in
theorem rless_any (w : World) (B : Nat) (A C : Option Addr) (n m ca cb : Nat) (l r : List Bool) (hn : l.length = n) (hm : r.length = m) (hA : RL w B 1 A n (bools l)) (hC : RL w B 1 C m (bools r)) (sn : n ≤ 4000000000000) (sm : m ≤ 4000000000000) :
    Calls Try.prog 23 #[.slice A n ca, .slice C m cb] w fun e w' => e = .returned (.bool (lessL l r)) ∧ ∃ k, w' = w.drewN k := by
  generalize hV : cmpL l r = V at *
  have hW : lessL l r = decide (V < 0) := by unfold lessL; rw [hV]
  generalize hL : lessL l r = L at *
  have HL := Lib.hid hW
  have HV := Lib.hid hV
  have Hn := Lib.hid hn
  have Hm := Lib.hid hm
  have HA := Lib.hid hA
  have HC := Lib.hid hC
  clear hV hn hm hA hC hW hL
  go_enter Try.func23, Try.ntmps23
  go_wp2
  go_loopw [5] (fun i wr => ∃ k j : Nat, k ≤ n ∧ i = .int .i64 k ∧ k ≤ m ∧ Hid (cmpL (l.drop k) (r.drop k) = V) ∧ wr = w.drewN j) (fun i _ => (n - intOf i).toNat)
  case atStart => exact ⟨0, 0, by omega, rfl, by omega, HV.out, rfl⟩
  case round =>
    obtain ⟨k, j, hk, rfl, hkm, hpre, rfl⟩ := hrel
    by_cases hlt : k < n ∧ k < m
    · obtain ⟨hlt, hltm⟩ := hlt
      obtain ⟨b, o, rfl, _, hc⟩ := HA.out.at_ (by omega)
      have hl : k < l.length := by rw [Hn.out]; exact hlt
      have e1 := hc k (by omega)
      rw [bools_get _ _ hl] at e1
      have k1 : (k : Int) < (n : Int) := by omega
      have k0 : (0 : Int) ≤ (k : Int) := by omega
      obtain ⟨b', o', rfl, _, hc'⟩ := HC.out.at_ (by omega)
      have hr : k < r.length := by rw [Hm.out]; exact hltm
      have e2 := hc' k (by omega)
      rw [bools_get _ _ hr] at e2
      have k2 : (k : Int) < (m : Int) := by omega
      have hst := cmpL_step hl hr
      rw [hpre.out] at hst
      generalize l[k] = x at *
      generalize r[k] = y at *
      clear hc hc' hl hr hpre
      by_cases hxy : x = y
      · subst hxy
        rw [if_pos rfl] at hst
        have Hst := Lib.hid hst
        clear hst
        go_wp2_with fail
        go_quiet (fail)
        go_wp2
        go_roundw
        case rel => exact ⟨k + 1, _, by omega, by go_num, by omega, Hst.out.symm, rfl⟩
        case measure => simp [intOf]; omega
      · rw [if_neg hxy] at hst
        have Hst := Lib.hid (show L = y from by rw [HL.out, hst]; unfold cmpB; rw [if_neg hxy]; cases y <;> rfl)
        have hb : (x != y) = true := by rw [bne_iff_ne]; exact hxy
        have hb2 : (x == y) = false := by rw [beq_eq_false_iff_ne]; exact hxy
        clear hst hxy
        go_wp2_with fail
        go_quiet (fail)
        go_wp2
        go_ret
        exact ⟨retb Hst.out, _, rfl⟩
    · have hcase : (k = n ∧ k = m) ∨ (k = n ∧ k < m) ∨ (k < n ∧ k = m) := by omega
      rcases hcase with ⟨h1, h2⟩ | ⟨h1, h2⟩ | ⟨h1, h2⟩
      · have Hst := Lib.hid (show L = decide (n < m) from by rw [HL.out, ← hpre.out, cmpL_end (h1.trans Hn.out.symm) (h2.trans Hm.out.symm)]; simp; omega)
        subst h1
        subst h2
        clear hpre hlt
        go_wp2
        go_ret
        exact ⟨retb (by rw [Hst.out]; simp), _, rfl⟩
      · have Hst := Lib.hid (show L = true from by rw [HL.out, ← hpre.out, cmpL_endl (h1.trans Hn.out.symm) (by rw [Hm.out]; exact h2)]; rfl)
        subst h1
        clear hpre hlt
        go_wp2
        go_ret
        exact ⟨retb (by first | exact Hst.out | (rw [Hst.out]; simp [h2])), _, rfl⟩
      · have Hst := Lib.hid (show L = false from by rw [HL.out, ← hpre.out, cmpL_endr (by rw [Hn.out]; exact h1) (h2.trans Hm.out.symm)]; rfl)
        subst h2
        clear hpre hlt
        go_wp2
        go_ret
        exact ⟨retb (by first | exact Hst.out | (rw [Hst.out]; simp; omega)), _, rfl⟩
end Go.Proofs.Ytaeifbkimagpdaa

/- Package bits: All's value; the chapter's examples. -/
namespace Go.Proofs.Ytaeifbkimagpdaa
open Go.ChangeShapes Go.WideShapes Go.ChangeAt Go.RowKit
set_option linter.unusedVariables false
theorem all_makes (m : Int) (w : World) :
    Calls Try.prog 27 #[.int .i64 m] w fun e w' => e = .returned (.func (.func 50) #[] #[.pointer (some ⟨w.heap.size, 0, none⟩)]) ∧ w' = w.alloc (.cells #[.int .i64 (min (max m 0) 12)] 3) := by
  have C1 := Lib.hid (fun w => hold_any m 12 w (by omega))
  generalize min (max m 0) 12 = k at *
  go_enter Try.func27, Try.ntmps27
  go_wp2_with (go_at_call 46; refine (C1.out _).mono ?_; rintro r w' ⟨rfl, rfl⟩)
  go_ret
  exact ⟨rfl, rfl⟩
theorem bdrewN {n : Nat} {a w : World} (h : Below n a w) (k : Nat) : Below n a (w.drewN k) := ⟨h.os, h.tape, h.output, h.size, h.block⟩
theorem lv_of : bitsOf 6 (min (max 4 0) 64 : Int).toNat = [false, true, true, false] := by decide
theorem lv_num : numOf [false, true, true, false] = 6 := by decide
theorem lv_next : nextL [false, true, true, false] = [true, true, true, false] := by decide
theorem lv_less : lessL [false, true, true, false] [true, true, true, false] = true := by decide
theorem lv_parse : parseL ⟨#[48, 49, 49, 48]⟩ = [false, true, true, false] := by decide
set_option maxHeartbeats 1000000 in
theorem lives_any (w : World) : Calls Try.prog 12 #[] w fun e w' => e = .returned (.bool true) ∧ Below w.heap.size w w' := by
  have hnf : ∀ (W : World) (a : Array Value), (binOp BinOp.neq 41 (Value.func (Fn.func 50) #[] a) Value.nilFunc).run Try.prog W = .ok (.bool true) W := fun _ _ => by kernel_rfl
  go_enter Try.func12, Try.ntmps12
  go_wp2_with fail
  refine (of_any 6 4 w (by omega)).mono ?_
  rw [lv_of]
  rintro e w1 ⟨A1, c1, rfl, _, hr1, hb1⟩
  have R1 := Lib.hid hr1
  have B1 := Lib.hid hb1
  clear hr1 hb1
  go_wp2_with fail
  refine (parse_any w1 ⟨#[48, 49, 49, 48]⟩ (by decide)).mono ?_
  rintro e w2 ⟨hb2, (⟨h, _⟩ | ⟨_, h, _⟩ | ⟨_, _, A2, c2, rfl, hr2⟩)⟩
  · exact absurd h (by decide)
  · exact absurd h (by decide)
  have R2 := Lib.hid hr2
  have R1' := Lib.hid (R1.out.below hb2 |>.more hb2.size)
  have B2 := Lib.hid (Bthen B1.out hb2)
  rw [lv_parse] at R2
  clear hb2 hr2 R1 B1
  go_wp2_with fail
  refine (text_any w2 A1 4 c1 [false, true, true, false] rfl R1'.out (by omega)).mono ?_
  rintro e w3 ⟨rfl, hb⟩
  have B3 := Lib.hid (Bthen B2.out hb)
  have R1'' := Lib.hid (R1'.out.below hb |>.more hb.size)
  have R2' := Lib.hid (R2.out.below hb |>.more hb.size)
  rw [show textOf [false, true, true, false] = ⟨#[48, 49, 49, 48]⟩ from rfl]
  clear hb B2 R1' R2
  go_wp2_with (go_at_call 16; refine (num_any _ _ A1 4 c1 [false, true, true, false] rfl R1''.out (by omega)).mono ?_; rw [lv_num]; rintro e w' ⟨rfl, rfl⟩)
  refine (next_any w3 A1 4 c1 [false, true, true, false] rfl R1''.out (by omega)).mono ?_
  rw [lv_next]
  rintro e w4 ⟨A4, c4, rfl, _, hr4, hb⟩
  have B4 := Lib.hid (Bthen B3.out hb)
  have R1 := Lib.hid (R1''.out.below hb |>.more hb.size)
  have R2 := Lib.hid (R2'.out.below hb |>.more hb.size)
  have R4 := Lib.hid hr4
  clear hb hr4 B3 R1'' R2'
  go_wp2_with fail
  refine (text_any w4 A4 4 c4 [true, true, true, false] rfl R4.out (by omega)).mono ?_
  rintro e w5 ⟨rfl, hb⟩
  have B5 := Lib.hid (Bthen B4.out hb)
  have R1' := Lib.hid (R1.out.below hb |>.more hb.size)
  have R2' := Lib.hid (R2.out.below hb |>.more hb.size)
  rw [show textOf [true, true, true, false] = ⟨#[49, 49, 49, 48]⟩ from rfl]
  clear hb B4 R1 R2 R4
  go_wp2_with fail
  refine (same_any w5 _ A2 A1 4 4 c2 c1 [false, true, true, false] [false, true, true, false] rfl rfl R2'.out R1'.out (by omega) (by omega)).mono ?_
  rw [decide_eq_true rfl]
  rintro e w6 ⟨rfl, q, rfl⟩
  go_wp2_with fail
  refine (next_any (w5.drewN q) A1 4 c1 [false, true, true, false] rfl (R1'.out.drewN q) (by omega)).mono ?_
  rw [lv_next]
  rintro e w7 ⟨A7, c7, rfl, _, hr7, hb⟩
  have B7 := Lib.hid ((bdrewN B5.out q).trans (hb.mono B5.out.size))
  have R1 := Lib.hid ((R1'.out.drewN q).below hb |>.more hb.size)
  have R7 := Lib.hid hr7
  clear hb hr7 B5 R1' R2'
  go_wp2_with fail
  refine (less_any w7 _ A1 A7 4 4 c1 c7 [false, true, true, false] [true, true, true, false] rfl rfl R1.out R7.out (by omega) (by omega)).mono ?_
  rw [lv_less]
  rintro e w' ⟨rfl, rfl⟩
  go_wp2_with fail
  refine (all_makes 1 w7).mono ?_
  rintro e w' ⟨rfl, rfl⟩
  clear R1 R7
  go_wp2
  go_ret
  exact ⟨rfl, B7.out.alloc B7.out.size _⟩
end Go.Proofs.Ytaeifbkimagpdaa

/- The laws of bits: Tells, Orders, Reads. -/
namespace Go.Proofs.Ytaeifbkimagpdaa
open Go.ChangeShapes Go.WideShapes Go.ChangeAt Go.RowKit
set_option linter.unusedVariables false
/-- The list l lies at A, from the first world on. -/
def At (w0 w : World) (A : Option Addr) (l : List Bool) : Prop := Below w0.heap.size w0 w ∧ RL w w.heap.size 1 A l.length (bools l)
theorem At.step {w0 w w' : World} {A : Option Addr} {l : List Bool} (h : At w0 w A l) (hb : Below w.heap.size w w') : At w0 w' A l := ⟨h.1.trans (hb.mono h.1.size), (h.2.below hb).more hb.size⟩
theorem At.drewN {w0 w : World} {A : Option Addr} {l : List Bool} (h : At w0 w A l) (k : Nat) : At w0 (w.drewN k) A l := ⟨bdrewN h.1 k, h.2.drewN k⟩
theorem At.lives {w0 w w' : World} (h : Below w0.heap.size w0 w) (hb : Below w.heap.size w w') : Below w0.heap.size w0 w' := h.trans (hb.mono h.size)
/-- The two lists that Same compares are equal. -/
theorem same_eq {w0 w : World} {A C : Option Addr} {n m ca cb : Nat} {l r : List Bool} (hA : At w0 w A l) (hC : At w0 w C r) (h : l = r) (hn : n = l.length) (hm : m = r.length) (sn : l.length ≤ 4000000000000) :
    Calls Try.prog 13 #[.slice A n ca, .slice C m cb] w fun e w' => e = .returned (.bool true) ∧ ∃ k, w' = w.drewN k := by
  subst h; subst hn; subst hm
  have := same_any w w.heap.size A C l.length l.length ca cb l l rfl rfl hA.2 hC.2 sn sn
  rwa [decide_eq_true rfl] at this
theorem new_at {w0 w w' : World} {l : List Bool} {e : Ending} (h : Below w0.heap.size w0 w) (k : NewBL w l e w') : ∃ A c, e = .returned (.slice A l.length c) ∧ At w0 w' A l ∧ Below w.heap.size w w' := by
  obtain ⟨A, c, he, _, hr, hb⟩ := k
  exact ⟨A, c, he, ⟨h.trans (hb.mono h.size), hr⟩, hb⟩
set_option maxHeartbeats 2000000 in
theorem tells_any (n : Nat) (hn : n < 18446744073709551616) (m : Int) (A : Option Addr) (L c : Nat) (l : List Bool) (hl : l.length = L) (w : World) (hA : RL w w.heap.size 1 A L (bools l)) :
    Calls Try.prog 3 #[.int .u64 (n : Int), .int .i64 m, .slice A L c] w fun e w' => e = .returned (.bool true) ∧ Below w.heap.size w w' := by
  by_cases hlong : 300 < L
  · go_enter Try.func3, Try.ntmps3
    go_wp2_with (go_at_call 12; refine (lives_any _).mono ?_; rintro e w1 ⟨rfl, hb⟩; have Hb := Lib.hid hb; clear hb)
    go_ret
    exact ⟨rfl, Hb.out⟩
  · subst hl
    have H0 := Lib.hid (show At w w A l from ⟨Below.refl _ _, hA⟩)
    have Hn := Lib.hid hn
    have hL3 : l.length ≤ 300 := by omega
    clear hA hn hlong
    generalize hb1 : bitsOf n (min (max m 0) 64).toNat = lb at *
    have Hlb := Lib.hid (show lb.length ≤ 64 from by rw [← hb1, bitsOf_length]; omega)
    have C1 := Lib.hid (fun w => by have := of_any n m w Hn.out; rw [hb1] at this; exact this)
    have C2 := Lib.hid (fun w => by have := rof_any n m w Hn.out; rw [hb1] at this; exact this)
    clear hb1
    go_enter Try.func3, Try.ntmps3
    go_wp2_with fail
    refine (C1.out w).mono ?_
    intro e w1 hk
    obtain ⟨A1, c1, rfl, h1, hb⟩ := new_at (Below.refl w.heap.size w) hk
    have H1 := Lib.hid h1
    have H0' := Lib.hid (H0.out.step hb)
    clear h1 hb hk H0
    go_wp2_with fail
    refine (C2.out w1).mono ?_
    intro e w2 hk
    obtain ⟨A2, c2, rfl, h2, hb⟩ := new_at H1.out.1 hk
    have H2 := Lib.hid h2
    have H1' := Lib.hid (H1.out.step hb)
    have H0 := Lib.hid (H0'.out.step hb)
    clear h2 hb hk H0' H1
    go_wp2_with fail
    refine (same_eq H1'.out H2.out rfl rfl rfl (by have := Hlb.out; omega)).mono ?_
    rintro e w3 ⟨rfl, q, rfl⟩
    have H0' := Lib.hid (H0.out.drewN q)
    clear H0 H1' H2
    go_wp2_with (first | (go_at_call 16; refine (num_any _ _ A l.length c l rfl H0'.out.2 (by omega)).mono ?_; rintro e w' ⟨rfl, rfl⟩) | (go_at_call 17; refine (rnum_any _ _ A l.length c l rfl H0'.out.2 (by omega)).mono ?_; rintro e w' ⟨rfl, rfl⟩) | (go_at_call 18; fail))
    refine (next_any _ A l.length c l rfl H0'.out.2 (by omega)).mono ?_
    intro e w4 hk
    obtain ⟨A4, c4, rfl, h4, hb⟩ := new_at H0'.out.1 hk
    have H4 := Lib.hid h4
    have H0 := Lib.hid (H0'.out.step hb)
    clear h4 hb hk H0'
    go_wp2_with fail
    refine (rnext_any _ A l.length c l rfl H0.out.2 (by omega)).mono ?_
    intro e w5 hk
    obtain ⟨A5, c5, rfl, h5, hb⟩ := new_at H0.out.1 hk
    have H5 := Lib.hid h5
    have H4' := Lib.hid (H4.out.step hb)
    have H0' := Lib.hid (H0.out.step hb)
    clear h5 hb hk H0 H4
    go_wp2_with fail
    refine (same_eq H4'.out H5.out rfl rfl rfl (by rw [nextL_length]; omega)).mono ?_
    rintro e w6 ⟨rfl, q2, rfl⟩
    have H0 := Lib.hid (H0'.out.drewN q2)
    clear H0' H4' H5
    go_wp2_with fail
    refine (text_any _ A l.length c l rfl H0.out.2 (by omega)).mono ?_
    rintro e w7 ⟨rfl, hb⟩
    have H0' := Lib.hid (H0.out.step hb)
    clear hb H0
    go_wp2_with (go_at_call 21; refine (rtext_any _ _ A l.length c l rfl H0'.out.2 (by omega)).mono ?_; rintro e w' ⟨rfl, rfl⟩)
    refine (lives_any _).mono ?_
    rintro e w8 ⟨rfl, hb⟩
    have HB := Lib.hid (At.lives H0'.out.1 hb)
    clear hb H0'
    go_wp2
    go_ret
    exact ⟨rfl, HB.out⟩
theorem cmpB_neg (x y : Bool) : cmpB y x = - cmpB x y := by cases x <;> cases y <;> rfl
theorem cmpL_neg : ∀ a b : List Bool, cmpL b a = - cmpL a b
  | [], [] => rfl
  | [], _ :: _ => rfl
  | _ :: _, [] => rfl
  | x :: a, y :: b => by
    simp only [cmpL]
    by_cases h : x = y
    · rw [if_pos h, if_pos h.symm]; exact cmpL_neg a b
    · rw [if_neg h, if_neg (Ne.symm h)]; exact cmpB_neg x y
theorem cmpL_zero : ∀ a b : List Bool, cmpL a b = 0 ↔ a = b
  | [], [] => by simp [cmpL]
  | [], _ :: _ => by simp [cmpL]
  | _ :: _, [] => by simp [cmpL]
  | x :: a, y :: b => by
    simp only [cmpL]
    by_cases h : x = y
    · rw [if_pos h, cmpL_zero a b]; simp [h]
    · rw [if_neg h]
      constructor
      · intro h2
        unfold cmpB at h2
        rw [if_neg h] at h2
        split at h2 <;> simp at h2
      · intro h2
        injection h2 with h2
        exact absurd h2 h
theorem less_three (a b : List Bool) : (lessL a b = true ∧ lessL b a = false ∧ decide (a = b) = false) ∨ (lessL a b = false ∧ lessL b a = true ∧ decide (a = b) = false) ∨ (lessL a b = false ∧ lessL b a = false ∧ decide (a = b) = true) := by
  have h1 := cmpL_neg a b
  have h2 := cmpL_zero a b
  unfold lessL
  rcases Int.lt_trichotomy (cmpL a b) 0 with h | h | h
  · refine .inl ⟨by simp [h], by simp; omega, ?_⟩
    rw [decide_eq_false_iff_not]
    intro e
    have := h2.2 e
    omega
  · exact .inr (.inr ⟨by simp [h], by simp; omega, by simp [h2.1 h]⟩)
  · refine .inr (.inl ⟨by simp; omega, by simp; omega, ?_⟩)
    rw [decide_eq_false_iff_not]
    intro e
    have := h2.2 e
    omega
set_option maxHeartbeats 2000000 in
theorem orders_any (A C : Option Addr) (n m ca cb : Nat) (l r : List Bool) (hn : l.length = n) (hm : r.length = m) (w : World) (hA : RL w w.heap.size 1 A n (bools l)) (hC : RL w w.heap.size 1 C m (bools r)) :
    Calls Try.prog 4 #[.slice A n ca, .slice C m cb] w fun e w' => e = .returned (.bool true) ∧ Below w.heap.size w w' := by
  by_cases h1 : 300 < n
  · clear hA hC hn hm
    go_enter Try.func4, Try.ntmps4
    go_wp2_with (go_at_call 12; refine (lives_any _).mono ?_; rintro e w1 ⟨rfl, hb⟩; have Hb := Lib.hid hb; clear hb)
    go_ret
    exact ⟨rfl, Hb.out⟩
  · by_cases h2 : 300 < m
    · clear hA hC hn hm
      go_enter Try.func4, Try.ntmps4
      go_wp2_with (go_at_call 12; refine (lives_any _).mono ?_; rintro e w1 ⟨rfl, hb⟩; have Hb := Lib.hid hb; clear hb)
      go_ret
      exact ⟨rfl, Hb.out⟩
    · have L1 := Lib.hid (less_any w w.heap.size A C n m ca cb l r hn hm hA hC (by omega) (by omega))
      have L2 := Lib.hid (less_any w w.heap.size C A m n cb ca r l hm hn hC hA (by omega) (by omega))
      have R1 := Lib.hid (rless_any w w.heap.size A C n m ca cb l r hn hm hA hC (by omega) (by omega))
      have R2 := Lib.hid (fun k => rless_any (w.drewN k) w.heap.size C A m n cb ca r l hm hn (hC.drewN k) (hA.drewN k) (by omega) (by omega))
      have S1 := Lib.hid (fun k => same_any (w.drewN k) w.heap.size A C n m ca cb l r hn hm (hA.drewN k) (hC.drewN k) (by omega) (by omega))
      have h3 := less_three l r
      clear hA hC hn hm
      generalize lessL l r = x at *
      generalize lessL r l = y at *
      generalize decide (l = r) = z at *
      rcases h3 with ⟨rfl, rfl, rfl⟩ | ⟨rfl, rfl, rfl⟩ | ⟨rfl, rfl, rfl⟩
      all_goals
        go_enter Try.func4, Try.ntmps4
        go_wp2_with fail
        refine L1.out.mono ?_
        rintro e w' ⟨rfl, rfl⟩
        go_wp2_with fail
        refine L2.out.mono ?_
        rintro e w' ⟨rfl, rfl⟩
        go_wp2_with fail
        refine R1.out.mono ?_
        rintro e w' ⟨rfl, k1, rfl⟩
        go_wp2_with fail
        refine (R2.out _).mono ?_
        rintro e w' ⟨rfl, k2, rfl⟩
        rw [World.drewN_drewN]
        go_wp2_with fail
        refine (S1.out _).mono ?_
        rintro e w' ⟨rfl, k3, rfl⟩
        rw [World.drewN_drewN]
        go_wp2_with fail
        refine (lives_any _).mono ?_
        rintro e w8 ⟨rfl, hb⟩
        have HB := Lib.hid (At.lives (bdrewN (Below.refl w.heap.size w) _) hb)
        clear hb
        go_wp2
        go_ret
        exact ⟨rfl, HB.out⟩
theorem text_parse (s : ByteArray) (h : s.data.toList.all dg = true) : textOf (parseL s) = s := by
  unfold textOf parseL
  apply ByteArray.ext
  apply Array.toList_inj.1
  simp only [List.map_map]
  conv => rhs; rw [← List.map_id s.data.toList]
  apply List.map_congr_left
  intro c hc
  rcases dg_cases (List.all_eq_true.1 h c hc) with rfl | rfl <;> rfl
theorem RL.nothing (w : World) (B : Nat) : RL w B 1 none 0 (bools []) := ⟨rfl, fun h => absurd h (by omega)⟩
set_option maxHeartbeats 2000000 in
theorem reads_any (s : ByteArray) (w : World) (hs : s.size ≤ 9223372036854775807) :
    Calls Try.prog 5 #[.string s] w fun e w' => e = .returned (.bool true) ∧ Below w.heap.size w w' := by
  by_cases h1 : 5000 < s.size
  · go_enter Try.func5, Try.ntmps5
    go_wp2_with (go_at_call 12; refine (lives_any _).mono ?_; rintro e w1 ⟨rfl, hb⟩; have Hb := Lib.hid hb; clear hb)
    go_ret
    exact ⟨rfl, Hb.out⟩
  · have hz : s.size ≤ 5000 := by omega
    clear h1 hs
    go_enter Try.func5, Try.ntmps5
    go_wp2_with fail
    refine (parse_any w s (by omega)).mono ?_
    rintro e w1 ⟨hb, hc⟩
    have B1 := Lib.hid hb
    clear hb
    rcases hc with ⟨hl, rfl⟩ | ⟨hl, hf, rfl⟩ | ⟨hl, ht, A1, c1, rfl, hr1⟩
    · go_wp2_with fail
      refine (rparse_any w1 s (by omega)).mono ?_
      rintro e w2 ⟨hb, (⟨_, rfl⟩ | ⟨hl2, _⟩ | ⟨hl2, _⟩)⟩
      · have B2 := Lib.hid (Bthen B1.out hb)
        clear hb
        go_wp2_with fail
        refine (same_any w2 0 none none 0 0 0 0 [] [] rfl rfl (RL.nothing _ _) (RL.nothing _ _) (by omega) (by omega)).mono ?_
        rw [decide_eq_true rfl]
        rintro e w3 ⟨rfl, q, rfl⟩
        go_wp2_with fail
        refine (lives_any _).mono ?_
        rintro e w4 ⟨rfl, hb⟩
        have HB := Lib.hid (At.lives (bdrewN B2.out q) hb)
        clear hb
        go_wp2
        go_ret
        exact ⟨rfl, HB.out⟩
      · omega
      · omega
    · go_wp2_with fail
      refine (rparse_any w1 s (by omega)).mono ?_
      rintro e w2 ⟨hb, (⟨hl2, _⟩ | ⟨_, _, rfl⟩ | ⟨_, ht2, _⟩)⟩
      · omega
      · have B2 := Lib.hid (Bthen B1.out hb)
        clear hb hf
        go_wp2_with fail
        refine (same_any w2 0 none none 0 0 0 0 [] [] rfl rfl (RL.nothing _ _) (RL.nothing _ _) (by omega) (by omega)).mono ?_
        rw [decide_eq_true rfl]
        rintro e w3 ⟨rfl, q, rfl⟩
        go_wp2_with fail
        refine (lives_any _).mono ?_
        rintro e w4 ⟨rfl, hb⟩
        have HB := Lib.hid (At.lives (bdrewN B2.out q) hb)
        clear hb
        go_wp2
        go_ret
        exact ⟨rfl, HB.out⟩
      · rw [hf] at ht2; cases ht2
    · have R1 := Lib.hid hr1
      have Ht := Lib.hid ht
      clear hr1 ht
      go_wp2_with fail
      refine (rparse_any w1 s (by omega)).mono ?_
      rintro e w2 ⟨hb, (⟨hl2, _⟩ | ⟨_, hf2, _⟩ | ⟨_, _, A2, c2, rfl, hr2⟩)⟩
      · omega
      · rw [Ht.out] at hf2; cases hf2
      · have B2 := Lib.hid (Bthen B1.out hb)
        have R1' := Lib.hid ((R1.out.below hb).more hb.size)
        have R2 := Lib.hid hr2
        have hpl := Lib.hid (parseL_length s)
        have Htp := Lib.hid (text_parse s Ht.out)
        clear hb hr2 R1
        generalize parseL s = l at *
        go_wp2_with fail
        refine (same_any w2 _ A1 A2 s.size s.size c1 c2 l l hpl.out hpl.out R1'.out R2.out (by omega) (by omega)).mono ?_
        rw [decide_eq_true rfl]
        rintro e w3 ⟨rfl, q, rfl⟩
        go_wp2_with fail
        refine (text_any _ A1 s.size c1 l hpl.out (R1'.out.drewN q) (by omega)).mono ?_
        rw [Htp.out]
        rintro e w4 ⟨rfl, hb⟩
        have B4 := Lib.hid (At.lives (bdrewN B2.out q) hb)
        clear hb R1' R2
        go_wp2_with fail
        refine (lives_any _).mono ?_
        rintro e w5 ⟨rfl, hb⟩
        have HB := Lib.hid (At.lives B4.out hb)
        clear hb
        go_wp2
        go_ret
        exact ⟨rfl, HB.out⟩
end Go.Proofs.Ytaeifbkimagpdaa

/- BitsRound: Of and Num are inverse to each other, Next adds one, Parse inverts Text. -/
namespace Go.Proofs.Ytaeifbkimagpdaa
open Go.ChangeShapes Go.WideShapes Go.ChangeAt Go.RowKit
set_option linter.unusedVariables false
theorem nb_bit (l : List Bool) (i j : Nat) : (nb l i).testBit j = (decide (j < i) && l.getD j false) := by
  induction i with
  | zero => simp [nb]
  | succ i ih =>
    unfold nb
    have hlt := nb_lt l i
    by_cases hb : l.getD i false = true
    · rw [if_pos hb, Nat.add_comm]
      rcases Nat.lt_trichotomy j i with h | h | h
      · rw [Nat.testBit_two_pow_add_gt h, ih, decide_eq_true h, decide_eq_true (show j < i + 1 by omega)]
      · subst h
        rw [Nat.testBit_two_pow_add_eq, ih, decide_eq_false (Nat.lt_irrefl j), decide_eq_true (show j < j + 1 by omega), hb]; rfl
      · rw [decide_eq_false (show ¬ j < i + 1 by omega), Bool.false_and]
        apply Nat.testBit_lt_two_pow
        have h2 : (2 : Nat) ^ (i + 1) ≤ 2 ^ j := Nat.pow_le_pow_right (by omega) (by omega)
        rw [Nat.pow_succ] at h2
        omega
    · rw [if_neg hb, Nat.add_zero, ih]
      rcases Nat.lt_trichotomy j i with h | h | h
      · rw [decide_eq_true h, decide_eq_true (show j < i + 1 by omega)]
      · subst h
        rw [decide_eq_false (Nat.lt_irrefl j)]
        simp only [Bool.not_eq_true] at hb
        rw [hb]; simp
      · rw [decide_eq_false (show ¬ j < i + 1 by omega), decide_eq_false (show ¬ j < i by omega)]
theorem numOf_eq (l : List Bool) (h : l.length ≤ 64) : numOf l = nb l l.length := by unfold numOf; rw [Nat.min_eq_left h]
theorem of_num (l : List Bool) (h : l.length ≤ 64) : bitsOf (numOf l) l.length = l := by
  apply List.ext_getElem?
  intro j
  unfold bitsOf
  rw [List.getElem?_map]
  by_cases hj : j < l.length
  · rw [List.getElem?_range hj, numOf_eq l h]
    simp only [Option.map_some]
    rw [nb_bit, decide_eq_true hj]
    simp [hj]
  · rw [List.getElem?_eq_none (by simp; omega), List.getElem?_eq_none (by omega)]; rfl
theorem num_of (n : Nat) (h : n < 18446744073709551616) : numOf (bitsOf n 64) = n := by
  rw [numOf_eq _ (by rw [bitsOf_length]; exact Nat.le_refl _), bitsOf_length]
  apply Nat.eq_of_testBit_eq
  intro j
  rw [nb_bit]
  by_cases hj : j < 64
  · rw [decide_eq_true hj]
    simp [bitsOf, hj]
  · rw [decide_eq_false hj, Bool.false_and]
    symm
    apply Nat.testBit_lt_two_pow
    have h2 : (2 : Nat) ^ 64 ≤ 2 ^ j := Nat.pow_le_pow_right (by omega) (by omega)
    rw [show (2 : Nat) ^ 64 = 18446744073709551616 from by decide] at h2
    omega
theorem nb_next (l : List Bool) (i : Nat) (h : i ≤ l.length) : (cy l i = true → nb (nextL l) i = 0 ∧ nb l i + 1 = 2 ^ i) ∧ (cy l i = false → nb (nextL l) i = nb l i + 1) := by
  induction i with
  | zero => simp [nb, cy]
  | succ i ih =>
    obtain ⟨h1, h2⟩ := ih (by omega)
    have hi : i < l.length := by omega
    have hc := cy_succ l i hi
    have hg : (nextL l).getD i false = (l[i] != cy l i) := by rw [List.getD_eq_getElem?_getD, nextL_get l i hi]; rfl
    have hgl : l.getD i false = l[i] := by simp [hi]
    unfold nb
    rw [hg, hgl, hc]
    generalize l[i] = x at *
    cases hcy : cy l i
    · have h3 := h2 hcy
      constructor
      · intro hf; simp at hf
      · intro _
        rw [h3]
        cases x <;> simp <;> omega
    · obtain ⟨h3, h4⟩ := h1 hcy
      constructor
      · intro hx
        simp only [Bool.true_and] at hx
        subst hx
        rw [h3, Nat.pow_succ]
        simp; omega
      · intro hx
        simp only [Bool.true_and] at hx
        subst hx
        rw [h3]
        simp; omega
theorem round_next (l : List Bool) (h : l.length ≤ 64) : (cy l l.length = true → numOf (nextL l) = 0) ∧ (cy l l.length = false → numOf (nextL l) = numOf l + 1 ∧ numOf l + 1 < 18446744073709551616) := by
  have hn := nb_next l l.length (Nat.le_refl _)
  rw [numOf_eq _ (by rw [nextL_length]; exact h), numOf_eq l h, nextL_length]
  refine ⟨fun hc => (hn.1 hc).1, fun hc => ⟨hn.2 hc, ?_⟩⟩
  rw [← hn.2 hc]
  have h1 := nb_lt (nextL l) l.length
  have h2 : (2 : Nat) ^ l.length ≤ 2 ^ 64 := Nat.pow_le_pow_right (by omega) h
  rw [show (2 : Nat) ^ 64 = 18446744073709551616 from by decide] at h2
  omega
theorem text_dg (l : List Bool) : (textOf l).data.toList.all dg = true := by
  unfold textOf
  rw [List.all_eq_true]
  intro c hc
  obtain ⟨b, _, rfl⟩ := List.mem_map.1 (show c ∈ l.map digit from hc)
  cases b <;> rfl
theorem parse_text (l : List Bool) : parseL (textOf l) = l := by
  unfold textOf parseL
  simp only [List.map_map]
  conv => rhs; rw [← List.map_id l]
  apply List.map_congr_left
  intro b _
  cases b <;> rfl
theorem u64_fits {x : Nat} (h : x + 1 < 18446744073709551616) : IntKind.u64.wrap ((x : Int) + 1) = ((x + 1 : Nat) : Int) := by rw [IntKind.wrap_u64]; omega
set_option maxRecDepth 100000 in
set_option maxHeartbeats 2000000 in
theorem round_any (n : Nat) (hn : n < 18446744073709551616) (A : Option Addr) (L c : Nat) (l : List Bool) (hl : l.length = L) (w : World) (hA : RL w w.heap.size 1 A L (bools l)) :
    Calls Try.prog 7 #[.int .u64 (n : Int), .slice A L c] w fun e w' => e = .returned (.bool true) ∧ Below w.heap.size w w' := by
  by_cases hlong : 64 < L
  · go_enter Try.func7, Try.ntmps7
    go_wp2_with (go_at_call 12; refine (lives_any _).mono ?_; rintro e w1 ⟨rfl, hb⟩; have Hb := Lib.hid hb; clear hb)
    go_ret
    exact ⟨rfl, Hb.out⟩
  · subst hl
    have hL : l.length ≤ 64 := by omega
    have H0 := Lib.hid (show At w w A l from ⟨Below.refl _ _, hA⟩)
    have hlim : numOf l < 18446744073709551616 := by
      rw [numOf_eq l hL]
      have h1 := nb_lt l l.length
      have h2 : (2 : Nat) ^ l.length ≤ 2 ^ 64 := Nat.pow_le_pow_right (by omega) hL
      rw [show (2 : Nat) ^ 64 = 18446744073709551616 from by decide] at h2
      omega
    have C1 := Lib.hid (fun w => by
      have := of_any (numOf l) (l.length : Int) w hlim
      rw [show (min (max (l.length : Int) 0) 64).toNat = l.length by omega, of_num l hL] at this
      exact this)
    have C2 := Lib.hid (fun w => by
      have := of_any n 64 w hn
      rw [show (min (max (64 : Int) 0) 64).toNat = 64 by omega] at this
      exact this)
    have N2 := Lib.hid (num_of n hn)
    have Hs := Lib.hid (textOf_size l)
    have Hd := Lib.hid (text_dg l)
    have Hp := Lib.hid (parse_text l)
    obtain ⟨r1, r2⟩ := round_next l hL
    have Hr1 := Lib.hid r1
    have Hr2 := Lib.hid r2
    clear hA hn hlong hlim r1 r2
    go_enter Try.func7, Try.ntmps7
    go_wp2_with (go_at_call 16; refine (num_any _ _ A l.length c l rfl H0.out.2 (by omega)).mono ?_; rintro e w' ⟨rfl, rfl⟩)
    refine (text_any _ A l.length c l rfl H0.out.2 (by omega)).mono ?_
    rintro e w1 ⟨rfl, hb⟩
    have H1 := Lib.hid (H0.out.step hb)
    clear hb H0
    go_wp2_with fail
    refine (parse_any w1 (textOf l) (by rw [Hs.out]; omega)).mono ?_
    rintro e w2 hpp
    obtain ⟨A2, c2, rfl, hb, hr2⟩ : ∃ A2 c2, e = .returned (.tuple #[.slice A2 l.length c2, .int .i64 0]) ∧ Below w1.heap.size w1 w2 ∧ RL w2 w2.heap.size 1 A2 l.length (bools l) := by
      obtain ⟨hb, (⟨h, _⟩ | ⟨_, h, _⟩ | ⟨_, _, A2, c2, he, hr⟩)⟩ := hpp
      · rw [Hs.out] at h; omega
      · rw [Hd.out] at h; cases h
      · rw [Hs.out] at he hr; rw [Hp.out] at hr; exact ⟨A2, c2, he, hb, hr⟩
    have H2 := Lib.hid (H1.out.step hb)
    have K2 := Lib.hid (show At w w2 A2 l from ⟨H2.out.1, hr2⟩)
    clear hb hr2 hpp H1
    go_wp2_with fail
    refine (C1.out w2).mono ?_
    intro e w3 hk
    obtain ⟨A3, c3, rfl, h3, hb⟩ := new_at H2.out.1 hk
    have J3 := Lib.hid h3
    have H3 := Lib.hid (H2.out.step hb)
    have K3 := Lib.hid (K2.out.step hb)
    clear h3 hb hk H2 K2
    go_wp2_with fail
    refine (same_eq J3.out H3.out rfl rfl rfl (by omega)).mono ?_
    rintro e w4 ⟨rfl, q, rfl⟩
    have H4 := Lib.hid (H3.out.drewN q)
    have K4 := Lib.hid (K3.out.drewN q)
    clear H3 K3 J3
    go_wp2_with fail
    refine (C2.out _).mono ?_
    intro e w5 hk
    obtain ⟨A5, c5, rfl, h5, hb⟩ := new_at H4.out.1 hk
    have J5 := Lib.hid h5
    have H5 := Lib.hid (H4.out.step hb)
    have K5 := Lib.hid (K4.out.step hb)
    clear h5 hb hk H4 K4
    rw [bitsOf_length] at *
    go_wp2_with fail
    refine (num_any _ _ A5 64 c5 (bitsOf n 64) (bitsOf_length n 64) (by have := J5.out.2; rwa [bitsOf_length] at this) (by omega)).mono ?_
    rw [N2.out]
    rintro e w' ⟨rfl, rfl⟩
    clear J5
    go_wp2_with fail
    refine (same_eq K5.out H5.out rfl rfl rfl (by omega)).mono ?_
    rintro e w6 ⟨rfl, q2, rfl⟩
    have H6 := Lib.hid (H5.out.drewN q2)
    clear H5 K5
    go_wp2_with fail
    refine (next_any _ A l.length c l rfl H6.out.2 (by omega)).mono ?_
    intro e w7 hk
    obtain ⟨A7, c7, rfl, h7, hb⟩ := new_at H6.out.1 hk
    have J7 := Lib.hid h7
    have H7 := Lib.hid (H6.out.step hb)
    clear h7 hb hk H6
    go_wp2_with fail
    refine (num_any _ _ A7 (nextL l).length c7 (nextL l) rfl J7.out.2 (by rw [nextL_length]; omega)).mono ?_
    rintro e w' ⟨rfl, rfl⟩
    clear J7
    go_wp2_with fail
    have hbW : Hid (Below w.heap.size w w7) := H7.out.1
    go_loop [9, 10] (fun v i => ∃ j : Nat, j ≤ l.length ∧ i = .int .i64 j ∧ v = .bool (cy l j)) (fun _ i => (l.length - intOf i).toNat)
    case atStart => exact ⟨0, by omega, rfl, rfl⟩
    case round =>
      obtain ⟨j, hj, rfl, rfl⟩ := hrel
      by_cases hlt : j < l.length
      · obtain ⟨b, o, rfl, hbw, hc⟩ := H7.out.2.at_ (by omega)
        have e1 := hc j (by omega)
        rw [bools_get _ _ hlt] at e1
        have Hcs := Lib.hid (cy_succ l j hlt)
        generalize l[j] = x at *
        generalize cy l j = cr at *
        have ki : (j : Int) < (l.length : Int) := by omega
        have k0 : (0 : Int) ≤ (j : Int) := by omega
        clear hc
        cases cr
        all_goals
          go_wp2
          go_round
          case rel => exact ⟨j + 1, by omega, by go_num, by rw [Hcs.out]; simp⟩
          case measure => simp [intOf]; omega
      · obtain rfl : j = l.length := by omega
        have hr1 := Hr1.out
        have hr2 := Hr2.out
        clear Hr1 Hr2 hlt hj
        generalize hcy : cy l l.length = cr at *
        cases cr
        · obtain ⟨h1, h2⟩ := hr2 rfl
          have hw := u64_fits h2
          generalize numOf (nextL l) = y at *
          subst h1
          clear hr1 hr2 h2 hcy
          go_wp2_with fail
          refine (lives_any _).mono ?_
          rintro e w8 ⟨rfl, hb⟩
          have HB := Lib.hid (At.lives hbW.out hb)
          clear hb
          go_wp2
          go_ret
          exact ⟨rfl, HB.out⟩
        · have h1 := hr1 rfl
          generalize numOf (nextL l) = y at *
          subst h1
          clear hr1 hr2 hcy
          go_wp2_with fail
          refine (lives_any _).mono ?_
          rintro e w8 ⟨rfl, hb⟩
          have HB := Lib.hid (At.lives hbW.out hb)
          clear hb
          go_wp2
          go_ret
          exact ⟨rfl, HB.out⟩
end Go.Proofs.Ytaeifbkimagpdaa

/- Package bits: the iterator All; the reference's All. -/
namespace Go.Proofs.Ytaeifbkimagpdaa
open Go.ChangeShapes Go.WideShapes Go.ChangeAt Go.RowKit Go.Shelf
set_option linter.unusedVariables false
attribute [local go_sem] Oper.semAt_some
attribute [local go_sem ↓] wpIn_at_zero wpIn_at_succ
theorem ownFrom_below' {β : Type} {B : Nat} {J : β → World → Prop} (h : OwnFrom B J) {s : β} {W W' : World} (hj : J s W) (hb : Below W.heap.size W W') : J s W' :=
  h s W W' none hj ⟨hb.os, hb.tape, hb.output, hb.size, fun k hk _ => hb.block k hk⟩ (fun r e => by cases e)
def encL (m : Nat) (x : Option Addr × Nat) : Array Value := #[.slice x.1 m x.2]
def isL (m : Nat) (i : Nat) (x : Option Addr × Nat) (W : World) : Prop := RL W W.heap.size 1 x.1 m (bools (bitsOf i m))
theorem shl_any (m : Nat) (hm : m ≤ 12) : IntKind.i64.wrap ((2 : Int) ^ m) = ((2 ^ m : Nat) : Int) := by
  have h2 : (2 : Nat) ^ m ≤ 2 ^ 12 := Nat.pow_le_pow_right (by omega) hm
  rw [IntKind.wrap_i64, show ((2 : Int) ^ m) = ((2 ^ m : Nat) : Int) from (Int.natCast_pow 2 m).symm]
  generalize (2 : Nat) ^ m = q at *
  omega
set_option maxHeartbeats 1000000 in
theorem all1_iter (w : World) (Bp m : Nat) (hm : m ≤ 12) (hbox : Blk w Bp 3 #[.int .i64 (m : Int)]) :
    IterG Try.prog 50 #[.pointer (some ⟨Bp, 0, none⟩)] (encL m) (fun b => b = Bp) (2 ^ m) (isL m) w := by
  intro l J Jx W hk hJ hJx hY h0
  have hst : Stays (fun b => b = Bp) (fun b => b = Bp) W W := ⟨fun _ h => h, fun _ h => .inl h⟩
  have h00 := h0 _ W (Below.refl _ _) hst
  clear h0
  have hN : 2 ^ m ≤ 4096 := by
    have h2 : (2 : Nat) ^ m ≤ 2 ^ 12 := Nat.pow_le_pow_right (by omega) hm
    omega
  have hp := shl_any m hm
  have HY := Lib.hid (hY (fun b => b = Bp))
  have HJ := Lib.hid h00
  have Hk := Lib.hid hk
  have c0 : W.cell? ⟨Bp, 0, none⟩ = some (.int .i64 (m : Int)) := ((hk.2 _ rfl).trans hbox |> fun h : Blk W Bp 3 _ => h.cell 0)
  have HW := Lib.hid (fun W' (hk' : Keeps (fun b => b = Bp) w W') => (show Blk W' Bp 3 #[.int .i64 (m : Int)] from (hk'.2 _ rfl).trans hbox))
  have hm0 : (0 : Int) ≤ (m : Int) := by omega
  have hm1 : (m : Int) ≤ 12 := by omega
  have HJo := Lib.hid hJ
  clear hY h00 hst hk hbox hJ
  generalize (2 : Nat) ^ m = N at *
  refine callsIn_of_wp Try.func50 rfl trivial ?_ rfl
  simp only [Try.ntmps50, List.size_toArray, List.length_cons, List.length_nil, Nat.reduceAdd, Nat.reduceSub, Array.replicate_succ, Array.replicate_zero, List.push_toArray, List.append_toArray, List.nil_append, List.cons_append]
  gi_wp2
  gi_loopw [6] (fun i wr => ∃ (k : Nat) (pre : List (Option Addr × Nat)), k ≤ N ∧ i = .int .i64 k ∧ pre.length = k ∧ J (fun b => b = Bp) pre wr ∧ Keeps (fun b => b = Bp) w wr ∧ W.heap.size ≤ wr.heap.size) (fun i _ => (N - intOf i).toNat)
  case atStart => exact ⟨0, [], by omega, rfl, rfl, HJ.out, Hk.out, Nat.le_refl _⟩
  case round =>
    obtain ⟨k, pre, hkn, rfl, hpl, hj, hkp, hwr⟩ := hrel
    clear c0
    have hb1 := HW.out wr hkp
    have c0 : wr.cell? ⟨Bp, 0, none⟩ = some (.int .i64 (m : Int)) := hb1.cell 0
    have hBl : Bp < wr.heap.size := hb1.lt
    have Hkp := Lib.hid hkp
    have Hj := Lib.hid hj
    have Hpl := Lib.hid hpl
    clear hb1 hkp hj hpl
    by_cases hlt : k < N
    · have C1 := Lib.hid (fun w => by
        have := of_any k (m : Int) w (by omega)
        rw [show (min (max (m : Int) 0) 64).toNat = m by omega] at this
        exact this)
      have ki : (k : Int) < (N : Int) := by omega
      have k0 : (0 : Int) ≤ (k : Int) := by omega
      gi_wp2_with (refine wide_call (C1.out _) ?_; intro e w1 hnew; obtain ⟨A1, c1, rfl, hc1, hr1, hb1⟩ := hnew; rw [bitsOf_length] at *; obtain ⟨fn, tmps, assign, body, hy, hR⟩ := YieldAt.wide 0 (HY.out pre (A1, c1) w1 (by rw [Hpl.out]; exact hlt) (by rw [Hpl.out]; exact hr1) (ownFrom_below' (HJo.out _) Hj.out hb1)); dsimp only [encL] at hy; have HR := Lib.hid hR; have Hb1 := Lib.hid hb1; clear hR hr1 hc1 hb1)
      refine ⟨rfl, ?_⟩
      refine HR.out.mono ?_
      clear HR hy
      rintro e W3 (⟨rfl, hJ3, hk3⟩ | ⟨rfl, hJx3, hk3⟩)
      · have Hk1 := Lib.hid (Hkp.out.trans ((Keeps.of_below (S := fun b => b = Bp) Hb1.out (fun b hb => by rw [hb]; exact hBl)).trans hk3))
        have Hz := Lib.hid (show W.heap.size ≤ W3.heap.size from by have := Hb1.out.size; have := hk3.1; omega)
        have HJ3 := Lib.hid hJ3
        clear hJ3 hk3
        gi_wp2
        go_roundw
        case rel => exact ⟨k + 1, pre ++ [(A1, c1)], by omega, by go_num, by rw [List.length_append, Hpl.out]; rfl, HJ3.out, Hk1.out, Hz.out⟩
        case measure => simp [intOf]; omega
      · have HJx3 := Lib.hid hJx3
        clear hJx3 hk3
        gi_wp2
        refine bodyPost_ret (results_none rfl _ _ _) rfl ?_
        exact ⟨⟨_, rfl⟩, _, ⟨fun _ h => h, fun _ h => .inl h⟩, .inr ⟨pre ++ [(A1, c1)], by rw [List.length_append, Hpl.out]; simp; omega, HJx3.out⟩⟩
    · obtain rfl : k = N := by omega
      gi_wp2
      go_end0
      exact ⟨⟨_, rfl⟩, _, ⟨fun _ h => h, fun _ h => .inl h⟩, .inl ⟨pre, Hpl.out, Hj.out⟩⟩
theorem rhold12 (n : Int) (w : World) :
    Calls Try.prog 47 #[.int .i64 n, .int .i64 0, .int .i64 12] w fun r w' => r = .returned (.int .i64 (min (max n 0) 12)) ∧ w = w' := by
  by_cases h : n < 0
  · have e : min (max n 0) 12 = 0 := by omega
    rw [e]
    clear e
    go_enter Try.func47, Try.ntmps47
    go_wp2
    go_ret
    exact ⟨rfl, rfl⟩
  · by_cases h2 : 12 < n
    · have e : min (max n 0) 12 = 12 := by omega
      rw [e]
      clear e
      go_enter Try.func47, Try.ntmps47
      go_wp2
      go_ret
      exact ⟨rfl, rfl⟩
    · have e : min (max n 0) 12 = n := by omega
      rw [e]
      clear e
      go_enter Try.func47, Try.ntmps47
      go_wp2
      go_ret
      exact ⟨rfl, rfl⟩
theorem row_info : (Try.prog.info? 23).map (fun i => (i.zero, i.size, i.bytes)) = some (some (.slice none 0 0), 1, 24) := by kernel_rfl
def vals (m : Nat) (xs : List (Option Addr × Nat)) : List Value := xs.map fun x => .slice x.1 m x.2
/-- Every list lies where the row of slices says, apart from that row. -/
def AllA (m : Nat) (xs : List (Option Addr × Nat)) (w : World) (v : Value) : Prop := ∀ i x, xs[i]? = some x → isL m i x w ∧ ∀ b o, 0 < m → x.1 = some ⟨b, o, none⟩ → v.ownBlock ≠ some b
/-- Every list lies where the row of slices says. -/
def AllL (m : Nat) (xs : List (Option Addr × Nat)) (w : World) : Prop := ∀ i x, xs[i]? = some x → isL m i x w
theorem AllL.below {m : Nat} {xs : List (Option Addr × Nat)} {w w' : World} (h : AllL m xs w) (hb : Below w.heap.size w w') : AllL m xs w' := fun i x hx => ((h i x hx).below hb).more hb.size
theorem pow_succ_i (k : Nat) : ((2 ^ (k + 1) : Nat) : Int) = 2 * ((2 ^ k : Nat) : Int) := by rw [Nat.pow_succ]; omega
set_option maxHeartbeats 1000000 in
theorem rall_any (m0 : Int) (m : Nat) (hm0 : min (max m0 0) 12 = (m : Int)) (w : World) :
    Calls Try.prog 26 #[.int .i64 m0] w fun e w' => ∃ (A : Option Addr) (c : Nat) (xs : List (Option Addr × Nat)), e = .returned (.slice A (2 ^ m) c) ∧ xs.length = 2 ^ m ∧ RL w' w'.heap.size 1 A (2 ^ m) (vals m xs) ∧ AllL m xs w' ∧ Below w.heap.size w w' := by
  have hm : m ≤ 12 := by omega
  have C1 := Lib.hid (fun w => rhold12 m0 w)
  rw [hm0] at C1
  obtain ⟨i1, hi1, hz1, hs1, hy1⟩ := info_parts row_info
  have C2 := Lib.hid (fun (k : Nat) (hk : k < 18446744073709551616) w => by
    have := rof_any k (m : Int) w hk
    rw [show (min (max (m : Int) 0) 64).toNat = m by omega] at this
    exact this)
  have hN : 2 ^ m ≤ 4096 := by
    have h2 : (2 : Nat) ^ m ≤ 2 ^ 12 := Nat.pow_le_pow_right (by omega) hm
    omega
  clear hm0
  go_enter Try.func26, Try.ntmps26
  go_wp2_with (go_at_call 47; refine (C1.out _).mono ?_; rintro r w' ⟨rfl, rfl⟩)
  go_loop [4, 5] (fun n i => ∃ k : Nat, k ≤ m ∧ i = .int .i64 k ∧ n = .int .i64 ((2 ^ k : Nat) : Int)) (fun _ i => (m - intOf i).toNat)
  case atStart => exact ⟨0, by omega, rfl, rfl⟩
  case round =>
    obtain ⟨k, hk, rfl, rfl⟩ := hrel
    by_cases hlt : k < m
    · have Hp := Lib.hid (pow_succ_i k)
      have hb : (2 : Nat) ^ k ≤ 4096 := Nat.le_trans (Nat.pow_le_pow_right (by omega) (show k ≤ 12 by omega)) (by decide)
      generalize (2 : Nat) ^ k = q at *
      have hb2 : (q : Int) ≤ 4096 := by omega
      have hb0 : (0 : Int) ≤ (q : Int) := by omega
      go_wp2
      go_round
      case rel => exact ⟨k + 1, by omega, by go_num, by rw [Hp.out]⟩
      case measure => simp [intOf]; omega
    · obtain rfl : k = m := by omega
      generalize hNk : (2 : Nat) ^ k = N at *
      have HN := Lib.hid hNk
      clear hNk
      go_wp2
      go_loopw [3, 6] (fun v i wr => ∃ (j : Nat) (xs : List (Option Addr × Nat)), j ≤ N ∧ i = .int .i64 j ∧ xs.length = j ∧ Own wr w.heap.size 23 1 v j (vals k xs) ∧ AllA k xs wr v ∧ Below w.heap.size w wr) (fun _ i _ => (N - intOf i).toNat)
      case atStart =>
        refine ⟨0, [], by omega, rfl, rfl, ?_, fun i x hx => by simp at hx, (Below.refl _ _).alloc (Nat.le_refl _) _⟩
        exact Own.ofRow (World.ownsRow_lit (base := w.heap.size) (size := 1) (e := 23) w #[] 0 (Nat.le_refl _) (by unfold maxLen; omega) rfl)
      case round =>
        obtain ⟨j, xs, hj, rfl, hxl, hown, hal, hb⟩ := hrel
        obtain ⟨A, c, rfl, hcc⟩ := hown.shape
        have hbz := hb.size
        have Hown := Lib.hid hown
        have Hb := Lib.hid hb
        have Hal := Lib.hid hal
        have Hxl := Lib.hid hxl
        clear hown hb hal hxl
        by_cases hjn : j < N
        · have ji : (j : Int) < (N : Int) := by omega
          have j0 : (0 : Int) ≤ (j : Int) := by omega
          go_wp2_with fail
          refine (C2.out j (by omega) wr).mono ?_
          intro e w1 hnew
          obtain ⟨A1, c1, rfl, ⟨_, hlow⟩, hr1, hb1⟩ := hnew
          have Hlow := Lib.hid hlow
          clear hlow
          rw [bitsOf_length] at *
          have hz1' := hb1.size
          have Hr1 := Lib.hid hr1
          have Hb1 := Lib.hid hb1
          have Ho1 := Lib.hid (Hown.out.below hb1 (Nat.le_refl _))
          clear hr1 hb1
          go_wp2_with (at_builtin; refine wpList_append_Own _ rfl (.tmp 22) (.tmp 27) _ rfl w.heap.size 23 i1 (.slice none 0 0) 1 24 Try.underlying38 hi1 hz1 hs1 hy1 rfl (by omega) (.slice A j c) j (vals k xs) rfl (Ho1.out.alloc _) ⟨w1.heap.size, 0, none⟩ 1 1 [.slice A1 k c1] rfl rfl (cell_one_new w1 _ _) (by intro u hu; simp at hu; subst hu; rfl) (by unfold maxLen; omega) (by omega) (by simp; omega) ?_; intro v2 w2 hown2 hgrow hat; have Hown2 := Lib.hid hown2; have Hgrow := Lib.hid hgrow; have Hat := Lib.hid hat; clear hown2 hgrow hat)
          go_roundw
          case rel =>
            go_light
            have hbb : ∀ r, (Value.slice A j c).ownBlock = some r → w.heap.size ≤ r := fun r hr => (Hown.out.lt r hr).1
            have hBt := (((Hb.out.trans (Hb1.out.mono hbz)).alloc (by omega) (.cells #[.slice A1 k c1] 23)).grown Hgrow.out (by simp; omega) hbb)
            have hs2 : w1.heap.size ≤ w2.heap.size := by have := Hgrow.out.size; simp at this; omega
            have hkeepL : ∀ i (x : Option Addr × Nat), isL k i x w1 → (∀ b o, 0 < k → x.1 = some ⟨b, o, none⟩ → (Value.slice A j c).ownBlock ≠ some b) → isL k i x w2 ∧ ∀ b o, 0 < k → x.1 = some ⟨b, o, none⟩ → v2.ownBlock ≠ some b := fun i x hr hne => by
              refine ⟨⟨hr.1, fun hk0 => ?_⟩, fun b o hk0 hx he => ?_⟩
              · obtain ⟨b, o, hA2, hb', hc'⟩ := hr.2 hk0
                refine ⟨b, o, hA2, by omega, fun q hq => ?_⟩
                rw [← hc' q hq]
                exact (World.cell?_of_block (w := w1.alloc _) (a := ⟨b, o + q, none⟩) (Hgrow.out.block b (by simp; omega) (fun e => hne b o hk0 hA2 e.symm))).trans (World.cell?_alloc_lt w1 _ ⟨b, o + q, none⟩ hb')
              · rcases Hat.out with h7 | h7
                · rw [h7] at he; exact hne b o hk0 hx he
                · rw [h7] at he
                  simp only [World.size_alloc, Option.some.injEq] at he
                  obtain ⟨b', o', hA2, hb', _⟩ := hr.2 hk0
                  rw [hx] at hA2
                  injection hA2 with hA2
                  injection hA2 with hA2
                  omega
            refine ⟨j + 1, xs ++ [(A1, c1)], by omega, by go_num, by rw [List.length_append, Hxl.out]; rfl, ?_, ?_, hBt⟩
            · have h := Hown2.out
              simpa [vals] using h
            · intro i x hx
              by_cases hij : i < xs.length
              · rw [List.getElem?_append_left hij] at hx
                obtain ⟨q1, q2⟩ := Hal.out i x hx
                exact hkeepL i x ((q1.below Hb1.out).more Hb1.out.size) q2
              · rw [List.getElem?_append_right (by omega)] at hx
                have hi0 : i - xs.length = 0 := by
                  rcases Nat.eq_zero_or_pos (i - xs.length) with h0 | h0
                  · exact h0
                  · rw [List.getElem?_eq_none (by simp; omega)] at hx; cases hx
                rw [hi0] at hx
                simp at hx
                subst hx
                have hij2 : i = j := by have := Hxl.out; omega
                subst hij2
                refine hkeepL i (A1, c1) Hr1.out (fun b o hk0 hA he => ?_)
                have h1 := Hlow.out b o hA
                have h2 := (Hown.out.lt b he).2
                omega
          case measure => simp [intOf]; omega
        · obtain rfl : j = N := by omega
          go_wp2_with fail
          go_ret
          rw [HN.out]
          exact ⟨A, c, xs, rfl, Hxl.out, RL.of_own Hown.out, fun i x hx => (Hal.out i x hx).1, Hb.out⟩
end Go.Proofs.Ytaeifbkimagpdaa
