/- A region that draws its order: plain operations, variables that it makes and fills, and a chain of operations that turn pieces. -/
import Derived.Test.YtmgjoggffnogfaaSl
import Derived.Test.YtmgjoggffnogfaaSh
namespace Go.Proofs.Ytmgjoggffnogfaa
set_option linter.unusedSimpArgs false
set_option linter.unusedVariables false
open Go.RowKit
def chainOk (A : List (List Nat)) (bxs : List Bx) (c : List Nat) (n : Nat) : Bool :=
  ((List.range c.length).all fun t => decide (c.getD t 0 < n) && ((List.range c.length).all fun u => t == u || (c.getD t 0 != c.getD u 0)) && (t == 0 || (A.getD (c.getD t 0) []).contains (c.getD (t - 1) 0))) && bxs.all fun b => !c.contains b.i && !c.contains b.s
theorem region_ch {P : Program} {id : Nat} {ops : List Oper} {Q : Exit → Act → World → Prop} {a : Act} {w : World} (A : List (List Nat)) (E : World) (I : PH) (ro ms : List PH) (bxs : List Bx) (Ds : List Fct)
    (c : List Nat) (G : Nat → (Nat → Value) → PH → List PH → Prop)
    (hm : P.follows .mixedOrders = true) (chk : ogOk ops A a.tmps.size = true) (hc : chainOk A bxs c ops.length = true) (hbx : bxs.Pairwise fun b c => b.i ≠ c.i ∧ b.i ≠ c.s ∧ b.s ≠ c.i ∧ b.s ≠ c.s)
    (hS : Sat E I (ro ++ ms) w) (hG : G 0 (fun _ => undef) I ms) (lasting : Lasting Ds) (monoC : ∀ b ∈ bxs, ∀ cs I J, PH.le I J → b.C cs I → b.C cs J)
    (gst : ∀ s vals vals' J ns, (∀ j ∈ c.take s, vals j = vals' j) → G s vals J ns → G s vals' J ns) (gle : ∀ s vals J J' ns, PH.le J J' → G s vals J ns → G s vals J' ns)
    (okb : ∀ b ∈ bxs, BxOk P ops A b) (dal : ∀ b ∈ bxs, ∀ v J, Facts Ds b.i v J ∧ Facts Ds b.s v J)
    (fill : ∀ b ∈ bxs, ∀ (vals : Nat → Value) (J : PH), I.le J → Given (fun j => Facts Ds j (vals j) J) (A.getD b.s []) →
      ∃ v, (textL ops vals a b.s).eval (storeArg (opAt ops b.s)) = v ∧ v.cells.size = b.z.size ∧ v.cells.all (·.oneCell') = true ∧ b.C v.cells J)
    (plain : Below_ (fun k => ((bxs.any fun b => b.i == k || b.s == k) || c.contains k) = true ∨ ∀ (vals : Nat → Value) (J : PH) (ns : List PH) (w' : World), Given (fun j => Facts Ds j (vals j) J) (A.getD k []) → I.le J → Sat E J (ro ++ ns) w' →
      Veil0 (wpStep P ops (opAt ops k) (fun a' w'' => a'.defers = a.defers ∧ ∃ J' : PH, J.le J' ∧ Sat E J' (ro ++ ns) w'' ∧ Facts Ds k (outOf (opAt ops k) a') J') (textL ops vals a k) w')) ops.length)
    (step : Below_ (fun s => ∀ (vals : Nat → Value) (J : PH) (bs ns : List PH) (w' : World), Given (fun j => Facts Ds j (vals j) J) (A.getD (c.getD s 0) []) → I.le J → Sat E J (ro ++ (bs ++ ns)) w' → G s vals J ns →
      Veil0 (wpStep P ops (opAt ops (c.getD s 0)) (fun a' w'' => a'.defers = a.defers ∧ ∃ (J' : PH) (ns' : List PH), J.le J' ∧ Sat E J' (ro ++ (bs ++ ns')) w'' ∧ Facts Ds (c.getD s 0) (outOf (opAt ops (c.getD s 0)) a') J' ∧ G (s + 1) (upd vals (c.getD s 0) (outOf (opAt ops (c.getD s 0)) a')) J' ns') (textL ops vals a (c.getD s 0)) w')) c.length)
    (fin : ∀ (vals : Nat → Value) (J : PH) (bs ns : List PH) (w' : World), I.le J → Below_ (fun j => Facts Ds j (vals j) J) ops.length → Sat E J (ro ++ (bs ++ ns)) w' → Bxs (fun _ => true) vals J bxs bs → G c.length vals J ns → Veil0 (Q .normal (textL ops vals a ops.length) w')) :
    (Code.region id ops.toArray true).wp P Q a w := by
  unfold chainOk at hc
  rw [Bool.and_eq_true] at hc
  obtain ⟨hc1, hc2⟩ := hc
  have hc1' : ∀ t, t < c.length → c.getD t 0 < ops.length ∧ (∀ u, u < c.length → t ≠ u → c.getD t 0 ≠ c.getD u 0) ∧ (t ≠ 0 → c.getD (t - 1) 0 ∈ A.getD (c.getD t 0) []) := fun t ht => by
    have := List.all_eq_true.1 hc1 t (List.mem_range.2 ht)
    simp only [Bool.and_eq_true, decide_eq_true_eq, Bool.or_eq_true, beq_iff_eq] at this
    refine ⟨this.1.1, fun u hu hne => ?_, fun h0 => ?_⟩
    · have h2 := List.all_eq_true.1 this.1.2 u (List.mem_range.2 hu)
      simp only [Bool.or_eq_true, beq_iff_eq, bne_iff_ne] at h2
      rcases h2 with h2 | h2
      · exact absurd h2 hne
      · exact h2
    · rcases this.2 with h2 | h2
      · exact absurd h2 h0
      · simpa using h2
  have hc2' : ∀ b ∈ bxs, b.i ∉ c ∧ b.s ∉ c := fun b hb => by
    have := List.all_eq_true.1 hc2 b hb
    simpa using this
  have cmem : ∀ t, t < c.length → c.getD t 0 ∈ c := fun t ht => by
    rw [List.getD_eq_getElem?_getD, List.getElem?_eq_getElem ht]
    exact List.getElem_mem ht
  have notc : ∀ k, k ∉ c → ∀ t, t < c.length → c.getD t 0 ≠ k := fun k hk t ht e => hk (e ▸ cmem t ht)
  refine region_bx A E I ro ms bxs (Facts Ds) (fun L vals J ns => ∃ s, s ≤ c.length ∧ (∀ t, t < c.length → (L (c.getD t 0) = true ↔ t < s)) ∧ G s vals J ns) hm chk hbx hS ⟨0, Nat.zero_le _, fun t ht => by simp, hG⟩ (fun i v I J hJ => Facts.lasting lasting i v I J hJ) monoC ?_ okb dal
    (fun b hb vals J hJ h => fill b hb vals J hJ (Given.of h)) ?_ ?_
  · have one : ∀ k, k ∉ c → ∀ (L : Nat → Bool) (vals : Nat → Value) (J : PH) (v : Value) (ns : List PH), (∃ s, s ≤ c.length ∧ (∀ t, t < c.length → (L (c.getD t 0) = true ↔ t < s)) ∧ G s vals J ns) → ∃ s, s ≤ c.length ∧ (∀ t, t < c.length → (upd L k true (c.getD t 0) = true ↔ t < s)) ∧ G s (upd vals k v) J ns := by
      rintro k hk L vals J v ns ⟨s, h1, h2, h3⟩
      refine ⟨s, h1, fun t ht => by rw [upd_ne _ _ (notc k hk t ht)]; exact h2 t ht, gst s vals _ J ns (fun j hj => ?_) h3⟩
      rw [upd_ne]
      rintro rfl
      exact hk (List.mem_of_mem_take hj)
    intro b hb L vals J v ns h
    exact ⟨one _ (hc2' b hb).1 L vals J v ns h, one _ (hc2' b hb).2 L vals J v ns h⟩
  · intro k hk hne L vals J bs ns w' hLk hanc hJ hs ⟨s, h1, h2, h3⟩
    by_cases hkc : k ∈ c
    · obtain ⟨t, ht, rfl⟩ := List.mem_iff_getElem.1 hkc
      have eg : c[t] = c.getD t 0 := by rw [List.getD_eq_getElem?_getD, List.getElem?_eq_getElem ht]; rfl
      rw [eg] at hLk hanc ⊢
      have hst : s = t := by
        have a1 : ¬ t < s := fun h => by rw [(h2 t ht).2 h] at hLk; cases hLk
        by_cases h0 : t = 0
        · omega
        · have a2 := (h2 (t - 1) (by omega)).1 (hanc _ ((hc1' t ht).2.2 h0)).1
          omega
      subst hst
      refine wpStep_mono (step.get s ht vals J bs ns w' (Given.of fun j hj => (hanc j hj).2) hJ hs h3).out fun a' w'' hpost => ?_
      obtain ⟨p1, J', ns', p2, p3, p4, p5⟩ := hpost
      refine ⟨p1, J', ns', p2, p3, p4, s + 1, ht, fun u hu => ?_, p5⟩
      by_cases hus : u = s
      · subst hus; rw [upd_self]; simp
      · rw [upd_ne _ _ ((hc1' u hu).2.1 s ht hus), h2 u hu]
        omega
    · rcases plain.get k hk with h | h
      · rw [Bool.or_eq_true, List.any_eq_true] at h
        rcases h with ⟨b, hb, hor⟩ | h
        · rw [Bool.or_eq_true] at hor
          rcases hor with h | h
          · exact absurd (by simpa using h) (Ne.symm (hne b hb).1)
          · exact absurd (by simpa using h) (Ne.symm (hne b hb).2)
        · exact absurd (by simpa using h) hkc
      · refine wpStep_mono (h vals J (bs ++ ns) w' (Given.of fun j hj => (hanc j hj).2) hJ hs).out fun a' w'' hpost => ?_
        obtain ⟨p1, J', p2, p3, p4⟩ := hpost
        refine ⟨p1, J', ns, p2, p3, p4, s, h1, fun t ht => by rw [upd_ne _ _ (notc k hkc t ht)]; exact h2 t ht, gst s vals _ J' ns (fun j hj => ?_) (gle s vals J J' ns p2 h3)⟩
        rw [upd_ne]
        rintro rfl
        exact hkc (List.mem_of_mem_take hj)
  · intro vals J bs ns w' hJ hD hs hB ⟨L, hL, s, h1, h2, h3⟩
    have hsl : s = c.length := by
      rcases Nat.lt_or_ge s c.length with hlt | hge
      · have := (h2 s hlt).1 (hL _ (hc1' s hlt).1)
        omega
      · omega
    subst hsl
    have hB2 : Below_ (fun j => Facts Ds j (vals j) J) ops.length := by
      have : ∀ n, n ≤ ops.length → Below_ (fun j => Facts Ds j (vals j) J) n := fun n => by
        induction n with
        | zero => exact fun _ => trivial
        | succ n ih => exact fun hn => ⟨ih (by omega), hD n (by omega)⟩
      exact this _ (Nat.le_refl _)
    exact (fin vals J bs ns w' hJ hB2 hs hB h3).out
/-- No variable, no chain. -/
theorem region_f0 {P : Program} {id : Nat} {ops : List Oper} {Q : Exit → Act → World → Prop} {a : Act} {w : World} (A : List (List Nat)) (E : World) (I : PH) (ms : List PH) (Ds : List Fct)
    (hm : P.follows .mixedOrders = true) (chk : ogOk ops A a.tmps.size = true) (hS : Sat E I ms w) (lasting : Lasting Ds)
    (plain : Below_ (fun k => False ∨ ∀ (vals : Nat → Value) (J : PH) (bs : Unit) (w' : World), Given (fun j => Facts Ds j (vals j) J) (A.getD k []) → I.le J → Sat E J ms w' →
      Veil0 (wpStep P ops (opAt ops k) (fun a' w'' => a'.defers = a.defers ∧ ∃ J' : PH, J.le J' ∧ Sat E J' ms w'' ∧ Facts Ds k (outOf (opAt ops k) a') J') (textL ops vals a k) w')) ops.length)
    (fin : ∀ (vals : Nat → Value) (J : PH) (w' : World), I.le J → Below_ (fun j => Facts Ds j (vals j) J) ops.length → Sat E J ms w' → Veil0 (Q .normal (textL ops vals a ops.length) w')) :
    (Code.region id ops.toArray true).wp P Q a w := by
  refine region_og A E I ms [] (Facts Ds) (fun _ _ _ ns => ns = []) hm chk (by simpa using hS) rfl (fun i v I J hJ => Facts.lasting lasting i v I J hJ) ?_ ?_
  · intro k hk L vals J ns w' _ _ hanc hJ hs hns
    subst hns
    rcases plain.get k hk with h2 | h2
    · exact h2.elim
    · refine wpStep_mono (h2 vals J () w' (Given.of fun j hj => (hanc j hj).2) hJ (by simpa using hs)).out fun a' w'' hpost => ?_
      obtain ⟨p1, J', p2, p3, p4⟩ := hpost
      exact ⟨p1, J', [], p2, by simpa using p3, p4, rfl⟩
  · intro vals J ns w' hJ hD hs ⟨_, _, hns⟩
    subst hns
    have hB2 : Below_ (fun j => Facts Ds j (vals j) J) ops.length := by
      have : ∀ n, n ≤ ops.length → Below_ (fun j => Facts Ds j (vals j) J) n := fun n => by
        induction n with
        | zero => exact fun _ => trivial
        | succ n ih => exact fun hn => ⟨ih (by omega), hD n (by omega)⟩
      exact this _ (Nat.le_refl _)
    exact (fin vals J w' hJ hB2 (by simpa using hs)).out
/-- A chain that builds a row: behind its s-th operation the value holds st's s-th list. -/
def rowG (T : TypeId) (size : Nat) (c : List Nat) (st : List (Nat × List Value)) (s : Nat) (vals : Nat → Value) (_ : PH) (ns : List PH) : Prop :=
  match s with
  | 0 => ns = []
  | s + 1 => s < c.length ∧ ∃ m, OwnP m T size (vals (c.getD s 0)) (st.getD s (0, [])).1 (st.getD s (0, [])).2 ∧ ns = [m]
theorem rowG.gst {T : TypeId} {size : Nat} {c : List Nat} {st : List (Nat × List Value)} (s : Nat) (vals vals' : Nat → Value) (J : PH) (ns : List PH) (h : ∀ j ∈ c.take s, vals j = vals' j) (hg : rowG T size c st s vals J ns) : rowG T size c st s vals' J ns := by
  cases s with
  | zero => exact hg
  | succ s =>
    obtain ⟨h1, m, h2, h3⟩ := hg
    refine ⟨h1, m, ?_, h3⟩
    rw [← h (c.getD s 0)]
    · exact h2
    · rw [List.getD_eq_getElem?_getD, List.getElem?_eq_getElem h1]
      exact List.mem_take_iff_getElem.2 ⟨s, by omega, rfl⟩
theorem rowG.gle {T : TypeId} {size : Nat} {c : List Nat} {st : List (Nat × List Value)} (s : Nat) (vals : Nat → Value) (J J' : PH) (ns : List PH) (_ : PH.le J J') (hg : rowG T size c st s vals J ns) : rowG T size c st s vals J' ns := hg
theorem perm_last (ro bs : List PH) (m : PH) : (ro ++ (bs ++ [m])).Perm (m :: (ro ++ bs)) := by
  rw [← List.append_assoc]; exact List.perm_append_comm (l₂ := [m])
theorem wp_as {P : Program} {a : Act} {w : World} {K : Act → World → Prop} {Q : Exit → Act → World → Prop} {dst : Option Tmp} {type : TypeId} {pos : String} {after : Array Edge} {g : Option (Nat × Bool)} {x : Operand}
    (h : K (a.put dst (a.eval x)) w) : Oper.wp P ⟨dst, .assign x, type, pos, after, g⟩ a w K Q := by
  unfold Oper.wp execOp
  simp only [Sem.run_pure]
  exact h
end Go.Proofs.Ytmgjoggffnogfaa
