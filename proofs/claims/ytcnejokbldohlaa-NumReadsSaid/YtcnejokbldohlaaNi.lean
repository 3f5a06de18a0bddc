/- The walk of num.Parse. -/
import Derived.Test.YtcnejokbldohlaaNh
namespace Go.Proofs.Ytcnejokbldohlaa
open Go.ChangeShapes Go.WideShapes Go.ChangeAt Go.RowKit
set_option linter.unusedVariables false
/-- What the loop knows of its number. -/
def UOk (u : Int) (far : Bool) (v : Nat) : Prop := (far = false ∧ u = v ∧ v < 18446744073709551616) ∨ (far = true ∧ 18446744073709551610 ≤ v)
theorem UOk.far_step {u : Int} {far : Bool} {v d : Nat} (h : UOk u far v) (hd : d < 10) (hu : 1844674407370955160 < u) (x : Int) : UOk x true (10 * v + d) := by
  right
  refine ⟨rfl, ?_⟩
  rcases h with ⟨_, h, _⟩ | ⟨_, h⟩ <;> omega
theorem UOk.on_step {u : Int} {v d : Nat} (h : UOk u true v) (x : Int) : UOk x true (10 * v + d) := by
  right
  refine ⟨rfl, ?_⟩
  rcases h with ⟨h, _⟩ | ⟨_, h⟩
  · cases h
  · omega
theorem UOk.near_step {u : Int} {v d : Nat} (h : UOk u false v) (hd : d < 10) (hu : u ≤ 1844674407370955160) : UOk (10 * u + d) false (10 * v + d) := by
  left
  rcases h with ⟨_, h, h2⟩ | ⟨h, _⟩
  · exact ⟨rfl, by omega, by omega⟩
  · cases h
set_option maxRecDepth 100000 in
set_option maxHeartbeats 2000000 in
theorem parse_any (s : ByteArray) (lo hi : Int) (w : World) (hs : s.size ≤ 9223372036854775807) (hlo : I64 lo) (hhi : I64 hi) :
    Calls Try.prog 16 #[.string s, .int .i64 lo, .int .i64 hi] w fun r w' => r = .returned (.tuple #[.int .i64 (prN (lst s) lo hi), .int .i64 (prE (lst s) lo hi)]) ∧ w = w' := by
  have l1 := hlo.1
  have h1 := hhi.2
  clear hlo hhi
  by_cases s0 : 0 < s.size
  · obtain ⟨x, hx, hx2, hxl⟩ := byteI s 0 s0
    have hem : s.toList.isEmpty = false := by
      have := lst_length s
      rw [lst_toList, List.length_map] at this
      cases hh : s.toList with
      | nil => rw [hh] at this; simp at this; omega
      | cons _ _ => rfl
    have Hst := Lib.hid (strip_is hxl)
    have Hng := Lib.hid (show neg (lst s) = decide (x = 45) from by unfold neg; rw [head_of hxl]; simp)
    have z0 : (1 : Int) ≤ s.size := by omega
    clear hxl
    go_enter Try.func16, Try.ntmps16
    go_upto_if 21 with fail
    go_cut [8, 9] (fun s8 s9 wx => ∃ (d : ByteArray) (b : Bool), s8 = .string d ∧ s9 = .bool b ∧ lst d = strip (lst s) ∧ b = neg (lst s) ∧ d.size ≤ 9223372036854775807 ∧ wx = w)
    case first =>
      by_cases h45 : x = 45
      · subst h45
        go_wp2
        go_meet
        exact ⟨_, true, rfl, rfl, by have h := Hst.out; rw [if_pos trivial] at h; rw [h]; exact lst_tail s, by rw [Hng.out]; simp, by rw [ByteArray.size_extract]; omega, rfl⟩
      · have hne : ((x : Int) == 45) = false := by rw [beq_eq_false_iff_ne]; omega
        go_wp2
        go_meet
        exact ⟨_, false, rfl, rfl, by rw [Hst.out, if_neg h45], by rw [Hng.out]; simp [h45], hs, rfl⟩
    case rest =>
      obtain ⟨d, b, rfl, rfl, hd, hb, hds, rfl⟩ := hcut
      have hfok : formB (lst s) = ok b (lst d) := by rw [hd, hb, ok_form]
      have hsv : sval (lst s) = if b = true then -(val (ds (lst d)) : Int) else (val (ds (lst d)) : Int) := by rw [hd, hb]; rfl
      have Hf := Lib.hid hfok
      have Hv := Lib.hid hsv
      clear hd hb hfok hsv Hst Hng hx hx2
      by_cases d0 : 0 < d.size
      · obtain ⟨e, he, he2, hel⟩ := byteI d 0 d0
        have Hel := Lib.hid hel
        have hemd : d.toList.isEmpty = false := by
          have := lst_length d
          rw [lst_toList, List.length_map] at this
          cases hh : d.toList with
          | nil => rw [hh] at this; simp at this; omega
          | cons _ _ => rfl
        have hdl := lst_length d
        by_cases hbad : e = 48 ∧ (b = true ∨ 1 < d.size)
        · obtain ⟨h48, hbb⟩ := hbad
          have hff : formB (lst s) = false := by
            rw [Hf.out]; unfold ok; rw [head_of hel, h48, hdl]
            rcases hbb with h | h
            · rw [h]; simp
            · simp [h]
          have Hr := Lib.hid (prE_form (lo := lo) (hi := hi) hff)
          subst h48
          clear hel hdl hff
          rcases hbb with rfl | hl
          · go_wp2
            go_ret2
            exact ⟨retii Hr.out.1 Hr.out.2, rfl⟩
          · have hl' : (1 : Int) < d.size := by omega
            cases b
            · go_wp2
              go_ret2
              exact ⟨retii Hr.out.1 Hr.out.2, rfl⟩
            · go_wp2
              go_ret2
              exact ⟨retii Hr.out.1 Hr.out.2, rfl⟩
        · have hgood : formB (lst s) = (lst d).all dig := by
            rw [Hf.out]; unfold ok; rw [head_of hel]
            have hne : (lst d).isEmpty = false := by
              cases hh : lst d with
              | nil => rw [hh] at hdl; simp at hdl; omega
              | cons _ _ => rfl
            have hz : (some e == some 48 && (b || decide (1 < (lst d).length))) = false := by
              by_cases h48 : e = 48
              · have : ¬ (b = true ∨ 1 < d.size) := fun h => hbad ⟨h48, h⟩
                rw [hdl]
                simp only [not_or, Bool.not_eq_true] at this
                rw [this.1]; simp [this.2]
              · simp [h48]
            rw [hne, hz]; simp
          have Hg := Lib.hid hgood
          have hdi : ((e : Int) == 48) = false ∨ ((e : Int) == 48) = true ∧ b = false ∧ ¬ (1 : Int) < d.size := by
            by_cases h48 : e = 48
            · right
              have : ¬ (b = true ∨ 1 < d.size) := fun h => hbad ⟨h48, h⟩
              simp only [not_or, Bool.not_eq_true] at this
              exact ⟨by simp [h48], this.1, by omega⟩
            · left; rw [beq_eq_false_iff_ne]; omega
          clear hel hdl hgood hbad
          have Hd0 := Lib.hid d0
          have h3 : ((e : Int) == 48) = false ∧ b = true ∨ ((e : Int) == 48) = false ∧ b = false ∨ ((e : Int) == 48) = true ∧ b = false ∧ ¬ (1 : Int) < d.size := by
            rcases hdi with h | h
            · cases b
              · exact Or.inr (Or.inl ⟨h, rfl⟩)
              · exact Or.inl ⟨h, rfl⟩
            · exact Or.inr (Or.inr h)
          clear hdi
          rcases h3 with ⟨hd48, rfl⟩ | ⟨hd48, rfl⟩ | ⟨hd48, rfl, hd1⟩
          · go_wp2
            go_loop [10, 11, 12, 13, 41] (fun u f _ _ i => ∃ (k : Nat) (uu : Int) (far : Bool), k ≤ d.size ∧ i = .int .i64 k ∧ u = .int .u64 uu ∧ f = .bool far ∧ ((lst d).take k).all dig = true ∧ UOk uu far (val (ds ((lst d).take k)))) (fun _ _ _ _ i => (d.size - intOf i).toNat)
            case atStart => exact ⟨0, 0, false, by omega, rfl, rfl, rfl, by simp, Or.inl ⟨rfl, by simp [ds, val], by simp [ds, val]⟩⟩
            case round =>
              obtain ⟨k, uu, far, hk, rfl, rfl, rfl, hall, hu⟩ := hrel
              have Hall := Lib.hid hall
              have Hu := Lib.hid hu
              clear hall hu
              by_cases hlt : k < d.size
              · obtain ⟨g, hg, hg2, hgl⟩ := byteI d k hlt
                have Hgl := Lib.hid hgl
                by_cases hdg : 48 ≤ g ∧ g ≤ 57
                · obtain ⟨g1, g2⟩ := hdg
                  have g1' : (48 : Int) ≤ g := by omega
                  have g2' : (g : Int) ≤ 57 := by omega
                  have Hal := Lib.hid (all_take_succ Hgl.out Hall.out (decide_eq_true ⟨g1, g2⟩))
                  have Hvs := Lib.hid (show val (ds ((lst d).take (k + 1))) = 10 * val (ds ((lst d).take k)) + (g - 48) from by
                    rw [List.take_add_one, hgl]
                    simp only [Option.toList_some, ds, List.map_append, List.map_cons, List.map_nil]
                    exact val_snoc _ _)
                  clear hgl
                  generalize val (ds ((lst d).take k)) = q at *
                  by_cases hbig : 1844674407370955160 < uu
                  · go_wp2
                    go_round
                    case rel => exact ⟨k + 1, _, true, by omega, by go_num, rfl, rfl, Hal.out, by rw [Hvs.out]; exact Hu.out.far_step (by omega) hbig _⟩
                    case measure => simp [intOf]; omega
                  · cases far
                    · have hu0 : 0 ≤ uu := by rcases Hu.out with ⟨_, h, _⟩ | ⟨h, _⟩; omega; cases h
                      have hub : uu ≤ 1844674407370955160 := by omega
                      go_wp2
                      go_round
                      case rel => exact ⟨k + 1, _, false, by omega, by go_num, rfl, rfl, Hal.out, by rw [Hvs.out]; have := Hu.out.near_step (d := g - 48) (by omega) hub; rw [show ((g - 48 : Nat) : Int) = (g : Int) - 48 by omega] at this; exact this⟩
                      case measure => simp [intOf]; omega
                    · go_wp2
                      go_round
                      case rel => exact ⟨k + 1, _, true, by omega, by go_num, rfl, rfl, Hal.out, by rw [Hvs.out]; exact Hu.out.on_step _⟩
                      case measure => simp [intOf]; omega
                · have Hr := Lib.hid (prE_form (lo := lo) (hi := hi) (show formB (lst s) = false from by rw [Hg.out]; exact all_false hgl (decide_eq_false hdg)))
                  clear hgl
                  by_cases g1 : (g : Int) < 48
                  · go_wp2
                    go_ret2
                    exact ⟨retii Hr.out.1 Hr.out.2, rfl⟩
                  · have g2 : (57 : Int) < g := by omega
                    go_wp2
                    go_ret2
                    exact ⟨retii Hr.out.1 Hr.out.2, rfl⟩
              · have hks : (lst d).take k = lst d := List.take_of_length_le (by rw [lst_length]; omega)
                have hft : formB (lst s) = true := by rw [Hg.out, ← Hall.out, hks]
                have hu := Hu.out
                rw [hks] at hu
                have hv := Hv.out
                generalize val (ds (lst d)) = V at *
                have Hft := Lib.hid hft
                clear hks hft Hu Hall
                cases far
                · have hE : sval (lst s) = -(V : Int) := by first | exact hv | (rw [hv, if_pos rfl])
                  have huu : uu = (V : Int) := by rcases hu with ⟨_, h, _⟩ | ⟨h, _⟩; exact h; cases h
                  have hu0 : 0 ≤ uu := by omega
                  rw [← huu] at hE
                  clear hv hu huu
                  by_cases hq : (9223372036854775808 : Int) < uu
                  · have Hr := Lib.hid (prE_out (lo := lo) (hi := hi) Hft.out (by rw [hE]; omega))
                    clear hE
                    go_wp2
                    go_ret2
                    exact ⟨retii Hr.out.1 Hr.out.2, rfl⟩
                  · have hwe : wrap64 (-wrap64 uu) = -uu := by unfold wrap64; omega
                    by_cases hlo2 : -uu < lo
                    · have Hr := Lib.hid (prE_out (lo := lo) (hi := hi) Hft.out (by rw [hE]; omega))
                      clear hE
                      go_wp2
                      go_ret2
                      exact ⟨retii Hr.out.1 Hr.out.2, rfl⟩
                    · by_cases hhi2 : hi < -uu
                      · have Hr := Lib.hid (prE_out (lo := lo) (hi := hi) Hft.out (by rw [hE]; omega))
                        clear hE
                        go_wp2
                        go_ret2
                        exact ⟨retii Hr.out.1 Hr.out.2, rfl⟩
                      · have Hr := Lib.hid (prE_in (lo := lo) (hi := hi) Hft.out (by rw [hE]; omega))
                        have HE := Lib.hid hE
                        clear hE
                        go_wp2
                        go_ret2
                        exact ⟨retii (Hr.out.1.trans HE.out) Hr.out.2, rfl⟩
                · have hE : sval (lst s) = -(V : Int) := by first | exact hv | (rw [hv, if_pos rfl])
                  have Hr := Lib.hid (prE_out (lo := lo) (hi := hi) Hft.out (by rw [hE]; rcases hu with ⟨h, _⟩ | ⟨_, h⟩; cases h; omega))
                  clear hv hu hE
                  go_wp2
                  go_ret2
                  exact ⟨retii Hr.out.1 Hr.out.2, rfl⟩
          · go_wp2
            go_loop [10, 11, 12, 13, 41] (fun u f _ _ i => ∃ (k : Nat) (uu : Int) (far : Bool), k ≤ d.size ∧ i = .int .i64 k ∧ u = .int .u64 uu ∧ f = .bool far ∧ ((lst d).take k).all dig = true ∧ UOk uu far (val (ds ((lst d).take k)))) (fun _ _ _ _ i => (d.size - intOf i).toNat)
            case atStart => exact ⟨0, 0, false, by omega, rfl, rfl, rfl, by simp, Or.inl ⟨rfl, by simp [ds, val], by simp [ds, val]⟩⟩
            case round =>
              obtain ⟨k, uu, far, hk, rfl, rfl, rfl, hall, hu⟩ := hrel
              have Hall := Lib.hid hall
              have Hu := Lib.hid hu
              clear hall hu
              by_cases hlt : k < d.size
              · obtain ⟨g, hg, hg2, hgl⟩ := byteI d k hlt
                have Hgl := Lib.hid hgl
                by_cases hdg : 48 ≤ g ∧ g ≤ 57
                · obtain ⟨g1, g2⟩ := hdg
                  have g1' : (48 : Int) ≤ g := by omega
                  have g2' : (g : Int) ≤ 57 := by omega
                  have Hal := Lib.hid (all_take_succ Hgl.out Hall.out (decide_eq_true ⟨g1, g2⟩))
                  have Hvs := Lib.hid (show val (ds ((lst d).take (k + 1))) = 10 * val (ds ((lst d).take k)) + (g - 48) from by
                    rw [List.take_add_one, hgl]
                    simp only [Option.toList_some, ds, List.map_append, List.map_cons, List.map_nil]
                    exact val_snoc _ _)
                  clear hgl
                  generalize val (ds ((lst d).take k)) = q at *
                  by_cases hbig : 1844674407370955160 < uu
                  · go_wp2
                    go_round
                    case rel => exact ⟨k + 1, _, true, by omega, by go_num, rfl, rfl, Hal.out, by rw [Hvs.out]; exact Hu.out.far_step (by omega) hbig _⟩
                    case measure => simp [intOf]; omega
                  · cases far
                    · have hu0 : 0 ≤ uu := by rcases Hu.out with ⟨_, h, _⟩ | ⟨h, _⟩; omega; cases h
                      have hub : uu ≤ 1844674407370955160 := by omega
                      go_wp2
                      go_round
                      case rel => exact ⟨k + 1, _, false, by omega, by go_num, rfl, rfl, Hal.out, by rw [Hvs.out]; have := Hu.out.near_step (d := g - 48) (by omega) hub; rw [show ((g - 48 : Nat) : Int) = (g : Int) - 48 by omega] at this; exact this⟩
                      case measure => simp [intOf]; omega
                    · go_wp2
                      go_round
                      case rel => exact ⟨k + 1, _, true, by omega, by go_num, rfl, rfl, Hal.out, by rw [Hvs.out]; exact Hu.out.on_step _⟩
                      case measure => simp [intOf]; omega
                · have Hr := Lib.hid (prE_form (lo := lo) (hi := hi) (show formB (lst s) = false from by rw [Hg.out]; exact all_false hgl (decide_eq_false hdg)))
                  clear hgl
                  by_cases g1 : (g : Int) < 48
                  · go_wp2
                    go_ret2
                    exact ⟨retii Hr.out.1 Hr.out.2, rfl⟩
                  · have g2 : (57 : Int) < g := by omega
                    go_wp2
                    go_ret2
                    exact ⟨retii Hr.out.1 Hr.out.2, rfl⟩
              · have hks : (lst d).take k = lst d := List.take_of_length_le (by rw [lst_length]; omega)
                have hft : formB (lst s) = true := by rw [Hg.out, ← Hall.out, hks]
                have hu := Hu.out
                rw [hks] at hu
                have hv := Hv.out
                generalize val (ds (lst d)) = V at *
                have Hft := Lib.hid hft
                clear hks hft Hu Hall
                cases far
                · have hE : sval (lst s) = (V : Int) := by rw [hv, if_neg (by simp)]
                  have huu : uu = (V : Int) := by rcases hu with ⟨_, h, _⟩ | ⟨h, _⟩; exact h; cases h
                  have hu0 : 0 ≤ uu := by omega
                  rw [← huu] at hE
                  clear hv hu huu
                  by_cases hq : (9223372036854775808 : Int) ≤ uu
                  · have Hr := Lib.hid (prE_out (lo := lo) (hi := hi) Hft.out (by rw [hE]; omega))
                    clear hE
                    go_wp2
                    go_ret2
                    exact ⟨retii Hr.out.1 Hr.out.2, rfl⟩
                  · have hq' : uu ≤ 9223372036854775807 := by omega
                    clear hq
                    by_cases hlo2 : uu < lo
                    · have Hr := Lib.hid (prE_out (lo := lo) (hi := hi) Hft.out (by rw [hE]; omega))
                      clear hE
                      go_wp2
                      go_ret2
                      exact ⟨retii Hr.out.1 Hr.out.2, rfl⟩
                    · by_cases hhi2 : hi < uu
                      · have Hr := Lib.hid (prE_out (lo := lo) (hi := hi) Hft.out (by rw [hE]; omega))
                        clear hE
                        go_wp2
                        go_ret2
                        exact ⟨retii Hr.out.1 Hr.out.2, rfl⟩
                      · have Hr := Lib.hid (prE_in (lo := lo) (hi := hi) Hft.out (by rw [hE]; omega))
                        have HE := Lib.hid hE
                        clear hE
                        go_wp2
                        go_ret2
                        exact ⟨retii (Hr.out.1.trans HE.out) Hr.out.2, rfl⟩
                · have hE : sval (lst s) = (V : Int) := by rw [hv, if_neg (by simp)]
                  have Hr := Lib.hid (prE_out (lo := lo) (hi := hi) Hft.out (by rw [hE]; rcases hu with ⟨h, _⟩ | ⟨_, h⟩; cases h; omega))
                  clear hv hu hE
                  go_wp2
                  go_ret2
                  exact ⟨retii Hr.out.1 Hr.out.2, rfl⟩
          · go_wp2
            go_loop [10, 11, 12, 13, 41] (fun u f _ _ i => ∃ (k : Nat) (uu : Int) (far : Bool), k ≤ d.size ∧ i = .int .i64 k ∧ u = .int .u64 uu ∧ f = .bool far ∧ ((lst d).take k).all dig = true ∧ UOk uu far (val (ds ((lst d).take k)))) (fun _ _ _ _ i => (d.size - intOf i).toNat)
            case atStart => exact ⟨0, 0, false, by omega, rfl, rfl, rfl, by simp, Or.inl ⟨rfl, by simp [ds, val], by simp [ds, val]⟩⟩
            case round =>
              obtain ⟨k, uu, far, hk, rfl, rfl, rfl, hall, hu⟩ := hrel
              have Hall := Lib.hid hall
              have Hu := Lib.hid hu
              clear hall hu
              by_cases hlt : k < d.size
              · obtain ⟨g, hg, hg2, hgl⟩ := byteI d k hlt
                have Hgl := Lib.hid hgl
                by_cases hdg : 48 ≤ g ∧ g ≤ 57
                · obtain ⟨g1, g2⟩ := hdg
                  have g1' : (48 : Int) ≤ g := by omega
                  have g2' : (g : Int) ≤ 57 := by omega
                  have Hal := Lib.hid (all_take_succ Hgl.out Hall.out (decide_eq_true ⟨g1, g2⟩))
                  have Hvs := Lib.hid (show val (ds ((lst d).take (k + 1))) = 10 * val (ds ((lst d).take k)) + (g - 48) from by
                    rw [List.take_add_one, hgl]
                    simp only [Option.toList_some, ds, List.map_append, List.map_cons, List.map_nil]
                    exact val_snoc _ _)
                  clear hgl
                  generalize val (ds ((lst d).take k)) = q at *
                  by_cases hbig : 1844674407370955160 < uu
                  · go_wp2
                    go_round
                    case rel => exact ⟨k + 1, _, true, by omega, by go_num, rfl, rfl, Hal.out, by rw [Hvs.out]; exact Hu.out.far_step (by omega) hbig _⟩
                    case measure => simp [intOf]; omega
                  · cases far
                    · have hu0 : 0 ≤ uu := by rcases Hu.out with ⟨_, h, _⟩ | ⟨h, _⟩; omega; cases h
                      have hub : uu ≤ 1844674407370955160 := by omega
                      go_wp2
                      go_round
                      case rel => exact ⟨k + 1, _, false, by omega, by go_num, rfl, rfl, Hal.out, by rw [Hvs.out]; have := Hu.out.near_step (d := g - 48) (by omega) hub; rw [show ((g - 48 : Nat) : Int) = (g : Int) - 48 by omega] at this; exact this⟩
                      case measure => simp [intOf]; omega
                    · go_wp2
                      go_round
                      case rel => exact ⟨k + 1, _, true, by omega, by go_num, rfl, rfl, Hal.out, by rw [Hvs.out]; exact Hu.out.on_step _⟩
                      case measure => simp [intOf]; omega
                · have Hr := Lib.hid (prE_form (lo := lo) (hi := hi) (show formB (lst s) = false from by rw [Hg.out]; exact all_false hgl (decide_eq_false hdg)))
                  clear hgl
                  by_cases g1 : (g : Int) < 48
                  · go_wp2
                    go_ret2
                    exact ⟨retii Hr.out.1 Hr.out.2, rfl⟩
                  · have g2 : (57 : Int) < g := by omega
                    go_wp2
                    go_ret2
                    exact ⟨retii Hr.out.1 Hr.out.2, rfl⟩
              · have hks : (lst d).take k = lst d := List.take_of_length_le (by rw [lst_length]; omega)
                have hft : formB (lst s) = true := by rw [Hg.out, ← Hall.out, hks]
                have hu := Hu.out
                rw [hks] at hu
                have hv := Hv.out
                generalize val (ds (lst d)) = V at *
                have Hft := Lib.hid hft
                clear hks hft Hu Hall
                cases far
                · have hE : sval (lst s) = (V : Int) := by rw [hv, if_neg (by simp)]
                  have huu : uu = (V : Int) := by rcases hu with ⟨_, h, _⟩ | ⟨h, _⟩; exact h; cases h
                  have hu0 : 0 ≤ uu := by omega
                  rw [← huu] at hE
                  clear hv hu huu
                  by_cases hq : (9223372036854775808 : Int) ≤ uu
                  · have Hr := Lib.hid (prE_out (lo := lo) (hi := hi) Hft.out (by rw [hE]; omega))
                    clear hE
                    go_wp2
                    go_ret2
                    exact ⟨retii Hr.out.1 Hr.out.2, rfl⟩
                  · have hq' : uu ≤ 9223372036854775807 := by omega
                    clear hq
                    by_cases hlo2 : uu < lo
                    · have Hr := Lib.hid (prE_out (lo := lo) (hi := hi) Hft.out (by rw [hE]; omega))
                      clear hE
                      go_wp2
                      go_ret2
                      exact ⟨retii Hr.out.1 Hr.out.2, rfl⟩
                    · by_cases hhi2 : hi < uu
                      · have Hr := Lib.hid (prE_out (lo := lo) (hi := hi) Hft.out (by rw [hE]; omega))
                        clear hE
                        go_wp2
                        go_ret2
                        exact ⟨retii Hr.out.1 Hr.out.2, rfl⟩
                      · have Hr := Lib.hid (prE_in (lo := lo) (hi := hi) Hft.out (by rw [hE]; omega))
                        have HE := Lib.hid hE
                        clear hE
                        go_wp2
                        go_ret2
                        exact ⟨retii (Hr.out.1.trans HE.out) Hr.out.2, rfl⟩
                · have hE : sval (lst s) = (V : Int) := by rw [hv, if_neg (by simp)]
                  have Hr := Lib.hid (prE_out (lo := lo) (hi := hi) Hft.out (by rw [hE]; rcases hu with ⟨h, _⟩ | ⟨_, h⟩; cases h; omega))
                  clear hv hu hE
                  go_wp2
                  go_ret2
                  exact ⟨retii Hr.out.1 Hr.out.2, rfl⟩
      · have hl : lst d = [] := List.eq_nil_of_length_eq_zero (by rw [lst_length]; omega)
        have hemd : d.toList.isEmpty = true := by
          rw [lst_toList, List.map_eq_nil_iff] at hl
          rw [hl]; rfl
        have hff : formB (lst s) = false := by rw [Hf.out, hl]; rfl
        have Hr := Lib.hid (prE_form (lo := lo) (hi := hi) hff)
        clear hl hff
        go_wp2
        go_ret2
        exact ⟨retii Hr.out.1 Hr.out.2, rfl⟩
  · have hl : lst s = [] := List.eq_nil_of_length_eq_zero (by rw [lst_length]; omega)
    have hem : s.toList.isEmpty = true := by
      have := hl
      rw [lst_toList, List.map_eq_nil_iff] at this
      rw [this]; rfl
    have hff : formB (lst s) = false := by rw [hl]; rfl
    have Hr := Lib.hid (prE_form (lo := lo) (hi := hi) hff)
    clear hl hff
    go_enter Try.func16, Try.ntmps16
    go_wp2
    go_ret2
    exact ⟨retii Hr.out.1 Hr.out.2, rfl⟩
end Go.Proofs.Ytcnejokbldohlaa
