/- Walks of Form, below and Less of the reference. -/
import Derived.Test.YtcnejokbldohlaaNe
import Derived.Deep.DeepCutAuto
import Derived.Deep.QuietTactic
import Derived.BigQuiet
namespace Go.Proofs.Ytcnejokbldohlaa
open Go.ChangeShapes Go.WideShapes Go.ChangeAt Go.RowKit
set_option linter.unusedVariables false
theorem byteI (s : ByteArray) (k : Nat) (h : k < s.size) : ∃ c : Nat, (s[k].toNat : Int) = (c : Int) ∧ c < 256 ∧ (lst s)[k]? = some c :=
  ⟨s[k].toNat, rfl, UInt8.toNat_lt _, lst_get s k h⟩
theorem lst_eq48 (s : ByteArray) : (s.toList == [48]) = decide (lst s = [48]) := by
  rw [lst_toList, Bool.eq_iff_iff, beq_iff_eq, decide_eq_true_iff]
  constructor
  · intro h; rw [h]; rfl
  · intro h
    cases hs : s.toList with
    | nil => rw [hs] at h; simp at h
    | cons a l =>
      rw [hs, List.map_cons, List.cons.injEq, List.map_eq_nil_iff] at h
      have : a = 48 := UInt8.toNat_inj.1 h.1
      rw [this, h.2]
theorem head_of {l : List Nat} {c : Nat} (h : l[0]? = some c) : l.head? = some c := by rw [List.head?_eq_getElem?]; exact h
theorem strip_is {s : ByteArray} {c : Nat} (h : (lst s)[0]? = some c) : strip (lst s) = if c = 45 then (lst s).tail else lst s := by
  unfold strip; rw [head_of h]; simp
theorem all_take_succ {l : List Nat} {k c : Nat} (h : l[k]? = some c) (ha : (l.take k).all dig = true) (hd : dig c = true) : (l.take (k + 1)).all dig = true := by
  rw [List.take_add_one, h]; simp only [Option.toList_some, List.all_append, ha, List.all_cons, List.all_nil, hd]; rfl
theorem all_false {l : List Nat} {k c : Nat} (h : l[k]? = some c) (hd : dig c = false) : l.all dig = false := by
  rw [List.all_eq_false]
  exact ⟨c, List.mem_of_getElem? h, by rw [hd]; simp⟩
set_option maxHeartbeats 1000000 in
theorem form_any (s : ByteArray) (w : World) (hs : s.size ≤ 500) :
    Calls Try.prog 42 #[.string s] w fun r w' => r = .returned (.bool (formB (lst s))) ∧ w = w' := by
  by_cases h48 : lst s = [48]
  · have hf : formB (lst s) = true := by unfold formB; rw [decide_eq_true h48]; rfl
    have ht : (s.toList == [48]) = true := by rw [lst_eq48, decide_eq_true h48]
    rw [hf]
    clear hf h48
    go_enter Try.func42, Try.ntmps42
    go_wp2
    go_ret
    exact ⟨rfl, rfl⟩
  · have hf : formB (lst s) = okD (strip (lst s)) := by unfold formB; rw [decide_eq_false h48]; rfl
    have ht : (s.toList == [48]) = false := by rw [lst_eq48, decide_eq_false h48]
    rw [hf]
    clear hf h48
    by_cases h0 : 0 < s.size
    · obtain ⟨c, hc, hc2, hcl⟩ := byteI s 0 h0
      have Hcl := Lib.hid hcl
      have Hst := Lib.hid (strip_is hcl)
      clear hcl
      have hsz : (1 : Int) ≤ s.size := by omega
      go_enter Try.func42, Try.ntmps42
      go_upto_if 13 with fail
      go_cut [0] (fun s0 wx => ∃ d : ByteArray, s0 = .string d ∧ lst d = strip (lst s) ∧ d.size ≤ 500 ∧ wx = w)
      case first =>
        by_cases h45 : c = 45
        · subst h45
          go_wp2
          go_meet
          exact ⟨_, rfl, by have h := Hst.out; rw [if_pos trivial] at h; rw [h]; exact lst_tail s, by rw [ByteArray.size_extract]; omega, rfl⟩
        · have hne : ((c : Int) == 45) = false := by rw [beq_eq_false_iff_ne]; omega
          go_wp2
          go_meet
          exact ⟨_, rfl, by rw [Hst.out, if_neg h45], hs, rfl⟩
      case rest =>
        obtain ⟨d, rfl, hd, hds, rfl⟩ := hcut
        have Hd := Lib.hid hd
        clear hd
        by_cases d0 : 0 < d.size
        · obtain ⟨e, he, he2, hel⟩ := byteI d 0 d0
          have Hel := Lib.hid hel
          clear hel
          have hem : d.toList.isEmpty = false := by
            have := lst_length d
            rw [lst_toList, List.length_map] at this
            cases hh : d.toList with
            | nil => rw [hh] at this; simp at this; omega
            | cons _ _ => rfl
          by_cases h48 : e = 48
          · subst h48
            have hf : okD (strip (lst s)) = false := by
              rw [← Hd.out]; unfold okD; rw [head_of Hel.out]; simp
            have Hf := Lib.hid hf
            clear hf
            go_wp2
            go_ret
            exact ⟨by rw [Hf.out]; rfl, rfl⟩
          · have hne : ((e : Int) == 48) = false := by rw [beq_eq_false_iff_ne]; omega
            have hfa : okD (strip (lst s)) = (lst d).all dig := by
              rw [← Hd.out]; unfold okD; rw [head_of Hel.out]
              have : lst d ≠ [] := by intro h; have := Hel.out; rw [h] at this; simp at this
              cases hl : lst d with
              | nil => exact absurd hl this
              | cons _ _ => simp [h48]
            have Hf := Lib.hid hfa
            clear hfa
            go_wp2
            go_loop [3] (fun i => ∃ k : Nat, k ≤ d.size ∧ i = .int .i64 k ∧ ((lst d).take k).all dig = true) (fun i => (d.size - intOf i).toNat)
            case atStart => exact ⟨0, by omega, rfl, by simp⟩
            case round =>
              obtain ⟨k, hk, rfl, hall⟩ := hrel
              have Hall := Lib.hid hall
              clear hall
              by_cases hlt : k < d.size
              · obtain ⟨g, hg, hg2, hgl⟩ := byteI d k hlt
                have Hgl := Lib.hid hgl
                clear hgl
                by_cases hdg : 48 ≤ g ∧ g ≤ 57
                · obtain ⟨g1, g2⟩ := hdg
                  have g1' : (48 : Int) ≤ g := by omega
                  have g2' : (g : Int) ≤ 57 := by omega
                  go_wp2
                  go_round
                  case rel => exact ⟨k + 1, by omega, by go_num, all_take_succ Hgl.out Hall.out (decide_eq_true ⟨g1, g2⟩)⟩
                  case measure => simp [intOf]; omega
                · have hfalse : okD (strip (lst s)) = false := by rw [Hf.out]; exact all_false Hgl.out (decide_eq_false hdg)
                  have Hff := Lib.hid hfalse
                  clear hfalse
                  by_cases g1 : (g : Int) < 48
                  · go_wp2
                    go_ret
                    exact ⟨by rw [Hff.out]; rfl, rfl⟩
                  · have g2 : (57 : Int) < g := by omega
                    go_wp2
                    go_ret
                    exact ⟨by rw [Hff.out]; rfl, rfl⟩
              · have htrue : okD (strip (lst s)) = true := by
                  rw [Hf.out, ← Hall.out, List.take_of_length_le (by rw [lst_length]; omega)]
                have Htt := Lib.hid htrue
                clear htrue
                go_wp2
                go_ret
                exact ⟨by rw [Htt.out]; rfl, rfl⟩
        · have hdz : d.size = 0 := by omega
          have hem : d.toList.isEmpty = true := by
            have := lst_length d
            rw [lst_toList, List.length_map, hdz] at this
            rw [List.eq_nil_of_length_eq_zero this]; rfl
          have hf : okD (strip (lst s)) = false := by
            rw [← Hd.out]
            have : lst d = [] := List.eq_nil_of_length_eq_zero (by rw [lst_length, hdz])
            rw [this]; rfl
          have Hf := Lib.hid hf
          clear hf hdz
          go_wp2
          go_ret
          exact ⟨by rw [Hf.out]; rfl, rfl⟩
    · have hl : lst s = [] := List.eq_nil_of_length_eq_zero (by rw [lst_length]; omega)
      have hem : s.toList.isEmpty = true := by
        rw [lst_toList, List.map_eq_nil_iff] at hl
        rw [hl]; rfl
      have hf : okD (strip (lst s)) = false := by rw [hl]; rfl
      rw [hf]
      clear hf hl
      go_enter Try.func42, Try.ntmps42
      go_wp2
      go_ret
      exact ⟨rfl, rfl⟩
end Go.Proofs.Ytcnejokbldohlaa
