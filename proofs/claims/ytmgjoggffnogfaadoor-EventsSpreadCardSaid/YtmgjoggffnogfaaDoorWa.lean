/- strings.Split and strings.Cut at a separator of one byte. -/
import Derived.Test.YtmgjoggffnogfaaDoorShelf
import Derived.Test.YtmgjoggffnogfaaDoorUb
import Derived.Test.YtmgjoggffnogfaaDoorEc
import Derived.Lib.IndexLaws
import Derived.Lib.IndexBytes
namespace Go.Proofs.YtmgjoggffnogfaaDoor
set_option linter.unusedSimpArgs false
set_option linter.unusedVariables false
open Go.RowKit
set_option linter.unusedVariables false
section
variable {α : Type} [DecidableEq α]
def spl (c : α) : List α → List (List α)
  | [] => [[]]
  | x :: r => if x = c then [] :: spl c r else match spl c r with | [] => [[x]] | h :: t => (x :: h) :: t
theorem spl_hit (c : α) (b : List α) : ∀ (a : List α), c ∉ a → spl c (a ++ c :: b) = a :: spl c b
  | [], _ => by simp [spl]
  | x :: a, h => by
    have hx : x ≠ c := fun e => h (by simp [e])
    have ha : c ∉ a := fun e => h (by simp [e])
    rw [List.cons_append, spl, if_neg hx, spl_hit c b a ha]
theorem spl_miss (c : α) : ∀ (a : List α), c ∉ a → spl c a = [a]
  | [], _ => rfl
  | x :: a, h => by
    have hx : x ≠ c := fun e => h (by simp [e])
    have ha : c ∉ a := fun e => h (by simp [e])
    rw [spl, if_neg hx, spl_miss c a ha]
end
theorem spl_map (c : UInt8) : ∀ (l : List UInt8), (spl c l).map (fun p => p.map UInt8.toNat) = spl c.toNat (l.map UInt8.toNat)
  | [] => rfl
  | x :: l => by
    have ih := spl_map c l
    by_cases h : x = c
    · subst h
      simp only [spl, List.map_cons, if_true, ih, List.map_nil]
    · have h2 : x.toNat ≠ c.toNat := fun e => h (UInt8.toNat_inj.1 e)
      simp only [spl, List.map_cons, if_neg h, if_neg h2]
      rw [← ih]
      cases spl c l <;> simp
theorem index_pos (c : UInt8) : ∀ (s : List UInt8), (Lib.index s [c] = -1 ∧ c ∉ s) ∨ ∃ a b, s = a ++ c :: b ∧ c ∉ a ∧ Lib.index s [c] = (a.length : Int)
  | [] => .inl ⟨rfl, by simp⟩
  | x :: s => by
    rw [Lib.index_one]
    have ih := index_pos c s
    rw [Lib.index_one] at ih
    unfold Lib.indexByte
    by_cases h : x = c
    · subst h
      exact .inr ⟨[], s, rfl, by simp, by simp⟩
    · have hb : (x == c) = false := by simpa using h
      rw [hb]
      rcases ih with ⟨e, hn⟩ | ⟨a, b, rfl, ha, e⟩
      · left
        rw [e]
        exact ⟨rfl, by simp [hn, Ne.symm h]⟩
      · right
        refine ⟨x :: a, b, rfl, by simp [ha, Ne.symm h], ?_⟩
        rw [e]
        have : ¬ ((a.length : Int) == -1) = true := by simp
        simp only [Bool.false_eq_true, if_false, if_neg this, List.length_cons]
        omega
theorem splitK_spl (c : UInt8) : ∀ (k : Nat) (s : List UInt8), s.count c = k → Lib.splitK [c] 0 k s = spl c s
  | 0, s, h => by
    have : c ∉ s := List.count_eq_zero.1 h
    rw [spl_miss c s this]
    rfl
  | k + 1, s, h => by
    rcases index_pos c s with ⟨_, hn⟩ | ⟨a, b, rfl, ha, e⟩
    · rw [List.count_eq_zero.2 hn] at h; omega
    · rw [spl_hit c b a ha]
      unfold Lib.splitK
      have : ¬ (Lib.index (a ++ c :: b) [c] == -1) = true := by rw [e]; simp
      rw [if_neg this, e]
      have e1 : (a ++ c :: b).take ((a.length : Int).toNat + 0) = a := by simp
      have e2 : (a ++ c :: b).drop ((a.length : Int).toNat + [c].length) = b := by simp
      rw [e1, e2, splitK_spl c k b (by rw [List.count_append, List.count_eq_zero.2 ha, List.count_cons_self] at h; omega)]
theorem countB_one (s : ByteArray) (c : UInt8) : Lib.countB s ⟨#[c]⟩ = s.data.toList.count c := by
  rw [← Lib.count_one]
/-- internal/bytealg.MaxLen's cell holds some int. -/
def MaxIn (I : PH) : Prop := ∃ m, I.at 0 0 = some (.int .i64 m)
theorem MaxIn.le {I J : PH} (h : MaxIn I) (hJ : I.le J) : MaxIn J := h.elim fun m hm => ⟨m, PH.at_le hJ hm⟩
theorem Sat.maxLen_ {E w : World} {I : PH} {ms : List PH} (hS : Sat E I ms w) (h : MaxIn I) : ∃ m, w.cell? ⟨0, 0, none⟩ = some (.int .i64 m) := by
  obtain ⟨m, hm⟩ := h
  refine ⟨m, ?_⟩
  unfold PH.at at hm
  cases h0 : I 0 with
  | none => rw [h0] at hm; cases hm
  | some ob =>
    have h1 := hS.imm _ _ h0
    rw [h0] at hm
    cases ob <;> first | (cases hm; done) | (simpa [World.cell?, h1] using hm)
def strs (ps : List ByteArray) : Array Value := (ps.map Value.string).toArray
theorem split_any (E : World) (I : PH) (ms : List PH) (s : ByteArray) (c : UInt8) (w : World) (hI : MaxIn I) (hs : s.size ≤ 70000) (hS : Sat E I ms w) :
    Calls Tryd.prog 34 #[.string s, .string ⟨#[c]⟩] w fun e w' => ∃ (X : Nat) (ps : List ByteArray), e = .returned (.slice (some ⟨X, 0, none⟩) ps.length ps.length) ∧ ps.map lst = spl c.toNat (lst s) ∧ Sat E I (PH.one X (.cells (strs ps) 9) :: ms) w' := by
  obtain ⟨m, hm⟩ := hS.maxLen_ hI
  refine (Any.strings_Split Tryd.splitE.ton146 (by kernel_rfl) s ⟨#[c]⟩ m w (by omega) hm (Nat.le_refl 1)).mono ?_
  rintro e w' ⟨rfl, rfl⟩
  have hlen := Lib.splitB_all ⟨#[c]⟩ (Nat.le_refl 1) 0 _ s rfl
  refine ⟨w.heap.size, Lib.splitB ⟨#[c]⟩ 0 (Lib.countB s ⟨#[c]⟩) s, by rw [hlen], ?_, hS.alloc _⟩
  have h1 := Lib.splitB_data ⟨#[c]⟩ 0 (Lib.countB s ⟨#[c]⟩) s
  have h2 : Lib.splitK [c] 0 (Lib.countB s ⟨#[c]⟩) s.data.toList = spl c s.data.toList := splitK_spl c _ _ (countB_one s c).symm
  have h3 : (Lib.splitB ⟨#[c]⟩ 0 (Lib.countB s ⟨#[c]⟩) s).map (·.data.toList) = spl c s.data.toList := h1.trans h2
  have h4 := congrArg (fun l => l.map (fun p => p.map UInt8.toNat)) h3
  simp only [List.map_map] at h4
  exact h4.trans (spl_map c _)
theorem lst_of (l : List UInt8) : lst ⟨l.toArray⟩ = l.map UInt8.toNat := rfl
theorem cut_miss (E : World) (I : PH) (ms : List PH) (s : ByteArray) (c : UInt8) (w : World) (hI : MaxIn I) (hs : s.size ≤ 70000) (hn : c.toNat ∉ lst s) (hS : Sat E I ms w) :
    Calls Tryd.prog 29 #[.string s, .string ⟨#[c]⟩] w fun e w' => (∃ a b : ByteArray, e = .returned (.tuple #[.string a, .string b, .bool false])) ∧ Sat E I ms w' := by
  obtain ⟨m, hm⟩ := hS.maxLen_ hI
  refine (Any.strings_Cut Tryd.cutE.ton145 s ⟨#[c]⟩ m w (by omega) hm).mono ?_
  rintro e w' ⟨rfl, n, rfl⟩
  have h0 : c ∉ s.data.toList := fun h => hn (List.mem_map_of_mem h)
  have h1 : Lib.index s.data.toList [c] = -1 := by
    rcases index_pos c s.data.toList with ⟨h, _⟩ | ⟨a, b, h, _⟩
    · exact h
    · exact absurd (by rw [h]; simp) h0
  have h2 : (Lib.cut s.data.toList [c]).2.2 = false := by unfold Lib.cut; rw [h1]; rfl
  refine ⟨⟨⟨(Lib.cut s.data.toList [c]).1.toArray⟩, ⟨(Lib.cut s.data.toList [c]).2.1.toArray⟩, ?_⟩, hS.drewN _⟩
  exact congrArg (fun b => Ending.returned (.tuple #[.string ⟨(Lib.cut s.data.toList [c]).1.toArray⟩, .string ⟨(Lib.cut s.data.toList [c]).2.1.toArray⟩, .bool b])) h2
theorem cut_hit (E : World) (I : PH) (ms : List PH) (s : ByteArray) (c : UInt8) (x y : List Nat) (w : World) (hI : MaxIn I) (hs : s.size ≤ 70000) (hx : c.toNat ∉ x) (hl : lst s = x ++ c.toNat :: y) (hS : Sat E I ms w) :
    Calls Tryd.prog 29 #[.string s, .string ⟨#[c]⟩] w fun e w' => (∃ a b : ByteArray, e = .returned (.tuple #[.string a, .string b, .bool true]) ∧ lst a = x ∧ lst b = y) ∧ Sat E I ms w' := by
  obtain ⟨m, hm⟩ := hS.maxLen_ hI
  refine (Any.strings_Cut Tryd.cutE.ton145 s ⟨#[c]⟩ m w (by omega) hm).mono ?_
  rintro e w' ⟨rfl, n, rfl⟩
  refine ⟨?_, hS.drewN _⟩
  rcases index_pos c s.data.toList with ⟨_, h⟩ | ⟨a, b, h, ha, hi⟩
  · exact absurd (show c ∈ s.data.toList from by
      have : c.toNat ∈ s.data.toList.map UInt8.toNat := by show c.toNat ∈ lst s; rw [hl]; simp
      obtain ⟨u, hu, e⟩ := List.mem_map.1 this
      rw [UInt8.toNat_inj.1 e] at hu
      exact hu) h
  · have h1 : Lib.cut s.data.toList [c] = (a, b, true) := by
      unfold Lib.cut
      rw [hi, if_pos (by omega), h]
      simp
    have h2 : a.map UInt8.toNat ++ c.toNat :: b.map UInt8.toNat = x ++ c.toNat :: y := by
      rw [← hl]
      show _ = s.data.toList.map UInt8.toNat
      rw [h]; simp
    have ha2 : c.toNat ∉ a.map UInt8.toNat := fun e => by
      obtain ⟨u, hu, e⟩ := List.mem_map.1 e
      rw [UInt8.toNat_inj.1 e] at hu
      exact ha hu
    have e1 := spl_hit c.toNat (b.map UInt8.toNat) _ ha2
    have e2 := spl_hit c.toNat y x hx
    have hax : a.map UInt8.toNat = x := by
      have := e1.symm.trans ((congrArg (spl c.toNat) h2).trans e2)
      exact (List.cons.inj this).1
    have hby : b.map UInt8.toNat = y := by
      rw [hax] at h2
      exact (List.cons.inj (List.append_cancel_left h2)).2
    refine ⟨⟨a.toArray⟩, ⟨b.toArray⟩, ?_, hax, hby⟩
    show Ending.returned (.tuple #[.string ⟨(Lib.cut s.data.toList [c]).1.toArray⟩, .string ⟨(Lib.cut s.data.toList [c]).2.1.toArray⟩, .bool (Lib.cut s.data.toList [c]).2.2]) = _
    rw [h1]
end Go.Proofs.YtmgjoggffnogfaaDoor
