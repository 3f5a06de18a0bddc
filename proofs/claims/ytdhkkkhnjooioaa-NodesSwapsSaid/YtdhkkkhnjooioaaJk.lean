import Derived.Test.YtdhkkkhnjooioaaJh
import Derived.Test.YtdhkkkhnjooioaaWp
import Derived.Test.YtdhkkkhnjooioaaFa
namespace Go.Proofs.Ytdhkkkhnjooioaa
set_option linter.unusedSimpArgs false
set_option linter.unusedVariables false
open Go.RowKit
set_option linter.unusedVariables false
theorem packTabs {E w : World} {I : PH} : ∀ (l : List (Nat × Nat)) (ms : List PH), Sat E I (tabs l ++ ms) w → ∃ tms : List PH, tms.length = l.length ∧ Sat E I (tms ++ ms) w ∧ ∀ (v : Nat) g tm, (l.map (·.1))[v]? = some g → tms[v]? = some tm → TabAt g [] tm
  | [], ms, h => ⟨[], rfl, h, fun v g tm h => by simp at h⟩
  | (g, M) :: l, ms, h => by
    have h1 : Sat E I ([tbv g M, tbm M [] 0] ++ (tabs l ++ ms)) w := by
      have : tabs ((g, M) :: l) ++ ms = [tbv g M, tbm M [] 0] ++ (tabs l ++ ms) := by simp [tabs]
      rw [← this]; exact h
    obtain ⟨m, hb, h2⟩ := Sat.pack [tbv g M, tbm M [] 0] h1
    have h3 := h2.perm (List.perm_middle (l₁ := tabs l) (l₂ := ms) (a := m)).symm
    obtain ⟨tms, t1, t2, t3⟩ := packTabs l (m :: ms) h3
    have h4 := t2.perm (List.perm_middle (l₁ := tms) (l₂ := ms) (a := m))
    refine ⟨m :: tms, by simp [t1], h4, fun v g' tm hg ht => ?_⟩
    cases v with
    | zero =>
      simp at hg ht
      subst hg ht
      exact ⟨M, [], 0, hb, MapOk.nil, rfl⟩
    | succ v => exact t3 v g' tm (by simpa using hg) (by simpa using ht)
theorem idC_list (n : Nat) : (idC n n).toList = (List.range n).flatMap ivC := by
  unfold idC
  simp only [Nat.sub_self, List.replicate_zero, List.append_nil]
  rw [List.flatMap_def]
  unfold ivC
  induction List.range n with
  | nil => rfl
  | cons a l ih => simp [iv, nv] at ih ⊢; exact ih
theorem tabVs_flat (l : List (Nat × Nat)) : tabVs l = (l.map (·.1)).flatMap ptC := by
  unfold tabVs ptC
  induction l with
  | nil => rfl
  | cons a l ih => simp [ih]
theorem snew_ok {E w : World} {I : PH} {ms : List PH} (n room : Nat) (hn : n ≤ 64) (h1 : 1 ≤ room) (h2 : room ≤ 1048576) (hS : Sat E I ms w) :
    Calls Try.prog 8 #[nv n, nv room] w fun e w' => ∃ S m, e = .returned (.tuple #[vPt S, .int .i64 0]) ∧ StAt S (G.St.new n room) m ∧ Sat E I (m :: ms) w' := by
  refine (nnew_ok E I ms n (room : Int) w hn (by omega) (by omega) hS).mono ?_
  rintro e w' ⟨S, L, P, V1, V2, A, T, v, m, l, rfl, hl, hO, h⟩
  refine ⟨S, ?_⟩
  unfold stP at h
  -- the pool
  have e1 : (PH.one S (.cells (stV L P v) 76) :: m :: tabs l ++ [PH.one L (.cells #[vSl n V1, vSl n V2] 73), PH.one V2 (.cells (idC n n) 3), PH.one V1 (.cells (idC n n) 3), PH.one P (.cells #[.int .i64 (room : Int), vSl 1 A, vSl 1 T, .slice none 0 0, .int .i64 0] 112), PH.one A (.cells node0 59), PH.one T (.cells #[.bool false] 4)] ++ ms) =
      (PH.one S (.cells (stV L P v) 76) :: m :: tabs l) ++ ([PH.one L (.cells #[vSl n V1, vSl n V2] 73), PH.one V2 (.cells (idC n n) 3), PH.one V1 (.cells (idC n n) 3)] ++ ([PH.one P (.cells #[.int .i64 (room : Int), vSl 1 A, vSl 1 T, .slice none 0 0, .int .i64 0] 112), PH.one A (.cells node0 59), PH.one T (.cells #[.bool false] 4)] ++ ms)) := by simp
  rw [e1] at h
  have g1 := h.perm (show List.Perm _ ([PH.one P (.cells #[.int .i64 (room : Int), vSl 1 A, vSl 1 T, .slice none 0 0, .int .i64 0] 112), PH.one A (.cells node0 59), PH.one T (.cells #[.bool false] 4)] ++ (((PH.one S (.cells (stV L P v) 76) :: m :: tabs l) ++ [PH.one L (.cells #[vSl n V1, vSl n V2] 73), PH.one V2 (.cells (idC n n) 3), PH.one V1 (.cells (idC n n) 3)]) ++ ms)) by
    rw [← List.append_assoc, ← List.append_assoc, ← List.append_assoc]
    exact (List.perm_append_comm).append_right ms)
  have g2 := g1.empty.perm (show List.Perm _ ([PH.one P (.cells #[.int .i64 (room : Int), vSl 1 A, vSl 1 T, .slice none 0 0, .int .i64 0] 112), PH.one A (.cells node0 59), PH.one T (.cells #[.bool false] 4), (fun _ => none : PH)] ++ (((PH.one S (.cells (stV L P v) 76) :: m :: tabs l) ++ [PH.one L (.cells #[vSl n V1, vSl n V2] 73), PH.one V2 (.cells (idC n n) 3), PH.one V1 (.cells (idC n n) 3)]) ++ ms)) from (List.perm_middle (l₁ := [_, _, _]) (a := (fun _ => none : PH))).symm)
  obtain ⟨mP, hbP, g3⟩ := Sat.pack [PH.one P (.cells #[.int .i64 (room : Int), vSl 1 A, vSl 1 T, .slice none 0 0, .int .i64 0] 112), PH.one A (.cells node0 59), PH.one T (.cells #[.bool false] 4), (fun _ => none : PH)] g2
  have hPool : PoolAt P ⟨room, [none], []⟩ mP := by
    refine ⟨⟨h2, show 0 < 1 by decide, by show 1 ≤ room + 1; omega, show 0 ≤ 1 by decide, fun i nd h => ?_⟩, A, 1, T, 1, .slice none 0 0, _, _, _, hbP, ?_, ?_, ?_⟩
    · cases i with
      | zero => simp at h
      | succ i => simp at h
    · exact OwnP.lit A 59 5 1 node0 (by decide) rfl
    · exact OwnP.lit T 4 1 1 #[.bool false] (by decide) rfl
    · exact OwnP.nil _ _
  -- the tables
  have g4 := g3.perm (show List.Perm _ (tabs l ++ (PH.one S (.cells (stV L P v) 76) :: PH.one L (.cells #[vSl n V1, vSl n V2] 73) :: PH.one V1 (.cells (idC n n) 3) :: PH.one V2 (.cells (idC n n) 3) :: mP :: m :: ms)) by
    refine List.Perm.trans ?_ (List.perm_append_comm (l₁ := (PH.one S (.cells (stV L P v) 76) :: PH.one L (.cells #[vSl n V1, vSl n V2] 73) :: PH.one V1 (.cells (idC n n) 3) :: PH.one V2 (.cells (idC n n) 3) :: mP :: m :: ms)) (l₂ := tabs l))
    classical
    rw [List.perm_iff_count]
    intro a
    simp only [List.count_cons, List.count_append, List.count_nil]
    omega)
  obtain ⟨tms, t1, t2, t3⟩ := packTabs l _ g4
  have g5 := t2.empty.perm (show List.Perm _ (PH.one S (.cells (stV L P v) 76) :: PH.one L (.cells #[vSl n V1, vSl n V2] 73) :: PH.one V1 (.cells (idC n n) 3) :: PH.one V2 (.cells (idC n n) 3) :: mP :: m :: (fun _ => none : PH) :: (tms ++ ms)) by
    classical
    rw [List.perm_iff_count]
    intro a
    simp only [List.count_cons, List.count_append, List.count_nil]
    omega)
  have hz : idC n n = ((List.range n).flatMap ivC).toArray := by rw [← idC_list]
  have hlit : ∀ V, OwnP (PH.one V (.cells (idC n n) 3)) 3 1 (vSl n V) (List.range n).length ((List.range n).flatMap ivC) := fun V => by
    have := OwnP.lit V 3 1 n (idC n n) (Nat.le_trans hn (by decide)) (by rw [idC_size (Nat.le_refl n)]; omega)
    rw [idC_list] at this
    rw [List.length_range]
    exact this
  obtain ⟨m', hA, hS'⟩ := StAt.close (s := G.St.new n room) (L := L) (P := P) (vV := vSl n V1) (vL := vSl n V2) (vT := v) (vC := .slice none 0 0) (gs := l.map (·.1)) (tms := tms)
    ⟨by simp [G.St.new]; omega, by simp [G.St.new]; omega, by simp [G.St.new]; omega, by simp [G.St.new], by simp [G.St.new], by simp [G.St.new], fun c hc => by simp [G.St.new] at hc; omega, fun c hc => by simp [G.St.new] at hc; omega⟩
    (hlit V1) (hlit V2) hPool (by show OwnP _ _ _ _ (List.replicate n []).length _; rw [List.length_replicate, ← tabVs_flat]; exact hO) (OwnP.nil _ _) (by simp [G.St.new, hl]) (by simp [G.St.new, t1, hl]) (fun x g t tm e1 e2 e3 => by
      have : t = [] := by
        have e2 : (List.replicate n ([] : List G.Ent))[x]? = some t := e2
        rw [List.getElem?_replicate] at e2
        split at e2
        · injection e2 with e2; exact e2.symm
        · cases e2
      subst this
      exact t3 x g tm e1 e3) g5
  exact ⟨m', rfl, hA, hS'⟩
end Go.Proofs.Ytdhkkkhnjooioaa
