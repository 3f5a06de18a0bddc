/- Package bits: Parse, and the reference's. -/
import Derived.Test.YtaeifbkimagpdaaBg
namespace Go.Proofs.Ytaeifbkimagpdaa
set_option linter.unusedSimpArgs false
set_option linter.unusedVariables false
open Go.ChangeShapes Go.WideShapes Go.ChangeAt Go.RowKit
set_option linter.unusedVariables false
def dg (c : UInt8) : Bool := c == 48 || c == 49
def parseL (s : ByteArray) : List Bool := s.data.toList.map (· == 49)
/-- How many digits stand at the head. -/
def lead (s : ByteArray) : Nat := (s.data.toList.takeWhile dg).length
theorem lead_le (s : ByteArray) : lead s ≤ s.size := by
  unfold lead
  have := (List.takeWhile_prefix dg (l := s.data.toList)).length_le
  simpa using this
theorem lead_lt (s : ByteArray) (j : Nat) (h : j < lead s) (hs : j < s.size) : dg s[j] = true := by
  have h1 : (s.data.toList.takeWhile dg)[j]? = some s[j] := by
    have : s.data.toList.takeWhile dg <+: s.data.toList := List.takeWhile_prefix dg
    obtain ⟨t, ht⟩ := this
    have h2 : s.data.toList[j]? = some s[j] := by
      rw [List.getElem?_eq_getElem (by simpa using hs)]; rfl
    rw [← ht, List.getElem?_append_left h] at h2
    exact h2
  exact List.all_eq_true.1 (List.all_takeWhile) _ (List.mem_of_getElem? h1)
theorem lead_at (s : ByteArray) (hs : lead s < s.size) : dg s[lead s] = false := by
  have h2 : ∀ (l : List UInt8) (h : (l.takeWhile dg).length < l.length), dg (l[(l.takeWhile dg).length]'h) = false := by
    intro l
    induction l with
    | nil => intro h; simp at h
    | cons a l ih =>
      intro h
      cases ha : dg a
      · simp only [List.takeWhile_cons, ha]
        simpa using ha
      · simp only [List.takeWhile_cons, ha, if_true, List.length_cons] at h ⊢
        simpa using ih (by omega)
  have := h2 s.data.toList (by simpa [lead] using hs)
  exact this
theorem lead_all (s : ByteArray) : s.data.toList.all dg = decide (lead s = s.size) := by
  have h : ∀ l : List UInt8, l.all dg = decide ((l.takeWhile dg).length = l.length) := by
    intro l
    induction l with
    | nil => rfl
    | cons a l ih =>
      cases ha : dg a <;> simp [ha, ih]
  have := h s.data.toList
  rw [this]
  unfold lead
  congr 1
def ParsePost (w : World) (s : ByteArray) (e : Ending) (w' : World) : Prop := Below w.heap.size w w' ∧
  ((4096 < s.size ∧ e = .returned (.tuple #[.slice none 0 0, .int .i64 4])) ∨ (s.size ≤ 4096 ∧ s.data.toList.all dg = false ∧ e = .returned (.tuple #[.slice none 0 0, .int .i64 3])) ∨
   (s.size ≤ 4096 ∧ s.data.toList.all dg = true ∧ ∃ A c, e = .returned (.tuple #[.slice A s.size c, .int .i64 0]) ∧ RL w' w'.heap.size 1 A s.size (bools (parseL s))))
theorem parseL_length (s : ByteArray) : (parseL s).length = s.size := by simp [parseL]
theorem parseL_take (s : ByteArray) (j : Nat) (h : j < s.size) : (parseL s).take (j + 1) = (parseL s).take j ++ [s[j] == 49] := by
  rw [List.take_add_one, List.getElem?_eq_getElem (by rw [parseL_length]; exact h)]
  simp [parseL]
  rfl
theorem dg_cases {x : UInt8} (h : dg x = true) : x = 48 ∨ x = 49 := by
  unfold dg at h
  simpa using h
theorem dg_zero {x : UInt8} (h : x = 48) : ((x.toNat : Int) != 48) = false ∧ ((x.toNat : Int) == 49) = false ∧ (x == 49) = false := by subst h; exact ⟨rfl, rfl, rfl⟩
theorem dg_one {x : UInt8} (h : x = 49) : ((x.toNat : Int) != 48) = true ∧ ((x.toNat : Int) != 49) = false ∧ ((x.toNat : Int) == 49) = true ∧ (x == 49) = true := by subst h; exact ⟨rfl, rfl, rfl, rfl⟩
theorem dg_not {x : UInt8} (h : dg x = false) : (((x.toNat : Int) != 48) = true ∧ ((x.toNat : Int) != 49) = true) ∧ (((x.toNat : Int) == 48) = false ∧ ((x.toNat : Int) == 49) = false) := by
  unfold dg at h
  simp only [Bool.or_eq_false_iff, beq_eq_false_iff_ne] at h
  have h1 : x.toNat ≠ 48 := fun e => h.1 (UInt8.toNat_inj.1 e)
  have h2 : x.toNat ≠ 49 := fun e => h.2 (UInt8.toNat_inj.1 e)
  simp only [bne_iff_ne, beq_eq_false_iff_ne]
  omega
set_option maxHeartbeats 1000000 in
theorem rparse_any (w : World) (s : ByteArray) (hs : s.size ≤ 100000) : Calls Try.prog 25 #[.string s] w (ParsePost w s) := by
  obtain ⟨i2, hi2, hz2, hs2, hy2⟩ := info_parts bool_info
  by_cases hlong : 4096 < s.size
  · go_enter Try.func25, Try.ntmps25
    go_wp2
    go_ret2
    exact ⟨Below.refl _ _, .inl ⟨hlong, rfl⟩⟩
  · have hle := lead_le s
    have Hal := Lib.hid (lead_all s)
    go_enter Try.func25, Try.ntmps25
    go_wp2
    go_loopw [4, 5] (fun v i wr => ∃ j : Nat, j ≤ lead s ∧ i = .int .i64 j ∧ Own wr w.heap.size 4 1 v j (bools ((parseL s).take j)) ∧ Below w.heap.size w wr) (fun _ i _ => (s.size - intOf i).toNat)
    case atStart =>
      refine ⟨0, by omega, rfl, ?_, (Below.refl _ _).alloc (Nat.le_refl _) _⟩
      exact Own.ofRow (World.ownsRow_lit (base := w.heap.size) (size := 1) (e := 4) w #[] 0 (Nat.le_refl _) (by unfold maxLen; omega) rfl)
    case round =>
      obtain ⟨j, hj, rfl, hown, hb⟩ := hrel
      obtain ⟨A1, c1, rfl, hc1⟩ := hown.shape
      have hbz := hb.size
      have Hown := Lib.hid hown
      have Hb := Lib.hid hb
      clear hown hb
      by_cases hlt : j < s.size
      · by_cases hjl : j < lead s
        · have hd := dg_cases (lead_lt s j hjl hlt)
          have Hts := Lib.hid (parseL_take s j hlt)
          rcases hd with hd | hd
          · obtain ⟨t1, t2, t3⟩ := dg_zero hd
            have Ht3 := Lib.hid t3
            clear hd t3
            go_wp2_with (at_builtin; refine wpList_append_Own _ rfl (.tmp 26) (.tmp 31) _ rfl w.heap.size 4 i2 (.bool false) 1 1 Try.underlying23 hi2 hz2 hs2 hy2 rfl (by omega) (.slice A1 j c1) j (bools ((parseL s).take j)) rfl (Hown.out.alloc _) ⟨wr.heap.size, 0, none⟩ 1 1 [.bool false] rfl rfl (cell_one_new wr _ _) (by intro u hu; simp at hu; subst hu; rfl) (by unfold maxLen; omega) (by omega) (by simp; omega) ?_; intro v1 w1 hown1 hgrow hat; have Hown1 := Lib.hid hown1; have Hgrow := Lib.hid hgrow; clear hown1 hgrow hat)
            go_roundw
            case rel =>
              go_light
              refine ⟨j + 1, by omega, by go_num, ?_, ?_⟩
              · have h := Hown1.out
                rw [Hts.out, Ht3.out]
                simpa [bools] using h
              · exact ((Hb.out.alloc hbz _).grown Hgrow.out (by simp; omega) (fun g hg => ((Hown.out.lt g hg).1)))
            case measure => simp [intOf]; omega
          · obtain ⟨t1, t2, t3, t4⟩ := dg_one hd
            have Ht3 := Lib.hid t4
            clear hd t4
            go_wp2_with (at_builtin; refine wpList_append_Own _ rfl (.tmp 26) (.tmp 31) _ rfl w.heap.size 4 i2 (.bool false) 1 1 Try.underlying23 hi2 hz2 hs2 hy2 rfl (by omega) (.slice A1 j c1) j (bools ((parseL s).take j)) rfl (Hown.out.alloc _) ⟨wr.heap.size, 0, none⟩ 1 1 [.bool true] rfl rfl (cell_one_new wr _ _) (by intro u hu; simp at hu; subst hu; rfl) (by unfold maxLen; omega) (by omega) (by simp; omega) ?_; intro v1 w1 hown1 hgrow hat; have Hown1 := Lib.hid hown1; have Hgrow := Lib.hid hgrow; clear hown1 hgrow hat)
            go_roundw
            case rel =>
              go_light
              refine ⟨j + 1, by omega, by go_num, ?_, ?_⟩
              · have h := Hown1.out
                rw [Hts.out, Ht3.out]
                simpa [bools] using h
              · exact ((Hb.out.alloc hbz _).grown Hgrow.out (by simp; omega) (fun g hg => ((Hown.out.lt g hg).1)))
            case measure => simp [intOf]; omega
        · obtain rfl : j = lead s := by omega
          obtain ⟨⟨n1, n2⟩, n3, n4⟩ := dg_not (lead_at s hlt)
          have Hf := Lib.hid (show s.data.toList.all dg = false from by rw [Hal.out, decide_eq_false_iff_not]; omega)
          go_wp2
          go_ret2
          exact ⟨Hb.out, .inr (.inl ⟨by omega, Hf.out, rfl⟩)⟩
      · obtain rfl : j = s.size := by omega
        have Ht := Lib.hid (show s.data.toList.all dg = true from by rw [Hal.out, decide_eq_true_iff]; omega)
        go_wp2
        go_ret2
        refine ⟨Hb.out, .inr (.inr ⟨by omega, Ht.out, A1, c1, rfl, ?_⟩)⟩
        have ho := Hown.out
        rw [List.take_of_length_le (by rw [parseL_length]; exact Nat.le_refl _)] at ho
        exact RL.of_own ho
theorem parse_set (s : ByteArray) (j : Nat) (h : j < s.size) : (bools ((parseL s).take j ++ List.replicate (s.size - j) false)).set j (.bool (s[j] == 49)) = bools ((parseL s).take (j + 1) ++ List.replicate (s.size - (j + 1)) false) := by
  have h1 := bools_set_pad ((parseL s).take j) (s[j] == 49) (s.size - j) (by omega)
  rw [List.length_take, parseL_length, Nat.min_eq_left (by omega)] at h1
  rw [h1, parseL_take s j h, show s.size - j - 1 = s.size - (j + 1) by omega]
theorem parse_at (s : ByteArray) (j : Nat) (h : j < s.size) : (bools ((parseL s).take j ++ List.replicate (s.size - j) false))[j]? = some (.bool false) := by
  simp only [bools, List.getElem?_map]
  rw [List.getElem?_append_right (by rw [List.length_take, parseL_length]; omega), List.getElem?_replicate, if_pos (by rw [List.length_take, parseL_length]; omega)]
  rfl
set_option maxHeartbeats 1000000 in
theorem parse_any (w : World) (s : ByteArray) (hs : s.size ≤ 100000) : Calls Try.prog 24 #[.string s] w (ParsePost w s) := by
  obtain ⟨i2, hi2, hz2, hs2, hy2⟩ := info_parts bool_info
  by_cases hlong : 4096 < s.size
  · go_enter Try.func24, Try.ntmps24
    go_wp2
    go_ret2
    exact ⟨Below.refl _ _, .inl ⟨hlong, rfl⟩⟩
  · have hle := lead_le s
    have Hal := Lib.hid (lead_all s)
    have hmk := fun W => run_make (P := Try.prog) W 23 4 i2 (.bool false) Try.underlying23 hi2 hz2 .i64 .i64 s.size s.size (by omega) (Int.le_refl _) (by rw [hy2]; omega) (by omega)
    go_enter Try.func24, Try.ntmps24
    go_wp2
    go_loopw [14] (fun i wr => ∃ j : Nat, j ≤ lead s ∧ i = .int .i64 j ∧ Own wr w.heap.size 4 1 (.slice (some ⟨w.heap.size, 0, none⟩) s.size s.size) s.size (bools ((parseL s).take j ++ List.replicate (s.size - j) false)) ∧ Below w.heap.size w wr) (fun i _ => (s.size - intOf i).toNat)
    case atStart =>
      refine ⟨0, by omega, rfl, ?_, (Below.refl _ _).alloc (Nat.le_refl _) _⟩
      have h := Own.ofRow (World.ownsRow_lit (base := w.heap.size) (size := 1) (e := 4) w (madeCells #[.bool false] s.size) s.size (Nat.le_refl _) (by unfold maxLen; omega) (by rw [size_madeCells]; omega))
      rw [toList_madeCells_one] at h
      simpa [bools] using h
    case round =>
      obtain ⟨j, hj, rfl, hown, hb⟩ := hrel
      have hbz := hb.size
      have Hown := Lib.hid hown
      have Hb := Lib.hid hb
      by_cases hlt : j < s.size
      · have hc := hown.cellAt j (by omega)
        have hf := hown.frozenAt j
        rw [parse_at s j hlt] at hc
        have ki : (j : Int) < (s.size : Int) := by omega
        have k0 : (0 : Int) ≤ (j : Int) := by omega
        have hbl2 : w.heap.size < wr.heap.size := (hown.lt w.heap.size rfl).2
        clear hown hb
        by_cases hjl : j < lead s
        · have hd := dg_cases (lead_lt s j hjl hlt)
          have Hset := Lib.hid (parse_set s j hlt)
          rcases hd with hd | hd
          · obtain ⟨t1, t2, t3⟩ := dg_zero hd
            have Ht3 := Lib.hid t3
            clear hd t3
            go_wp2
            go_roundw
            case rel =>
              go_light
              refine ⟨j + 1, by omega, by go_num, ?_, Hb.out.setCell (Nat.le_refl _) _⟩
              rw [← Hset.out, Ht3.out]
              exact Hown.out.stored j _
            case measure => simp [intOf]; omega
          · obtain ⟨t1, t2, t3, t4⟩ := dg_one hd
            have Ht3 := Lib.hid t4
            clear hd t4
            go_wp2
            go_roundw
            case rel =>
              go_light
              refine ⟨j + 1, by omega, by go_num, ?_, Hb.out.setCell (Nat.le_refl _) _⟩
              rw [← Hset.out, Ht3.out]
              exact Hown.out.stored j _
            case measure => simp [intOf]; omega
        · obtain rfl : j = lead s := by omega
          obtain ⟨⟨n1, n2⟩, n3, n4⟩ := dg_not (lead_at s hlt)
          have Hf := Lib.hid (show s.data.toList.all dg = false from by rw [Hal.out, decide_eq_false_iff_not]; omega)
          go_wp2
          go_ret2
          exact ⟨Hb.out, .inr (.inl ⟨by omega, Hf.out, rfl⟩)⟩
      · obtain rfl : j = s.size := by omega
        have Ht := Lib.hid (show s.data.toList.all dg = true from by rw [Hal.out, decide_eq_true_iff]; omega)
        clear hown hb
        go_wp2
        go_ret2
        refine ⟨Hb.out, .inr (.inr ⟨by omega, Ht.out, _, s.size, rfl, ?_⟩)⟩
        have ho := Hown.out
        rw [List.take_of_length_le (by rw [parseL_length]; exact Nat.le_refl _), Nat.sub_self, List.replicate_zero, List.append_nil] at ho
        exact RL.of_own ho
end Go.Proofs.Ytaeifbkimagpdaa
