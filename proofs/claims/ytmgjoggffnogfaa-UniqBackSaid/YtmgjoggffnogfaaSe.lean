/- The region's law in the form in which it is used: lists of facts. -/
import Derived.Test.YtmgjoggffnogfaaSd
namespace Go.Proofs.Ytmgjoggffnogfaa
set_option linter.unusedSimpArgs false
set_option linter.unusedVariables false
open Go.RowKit
def Given (p : Nat → Prop) : List Nat → Prop
  | [] => True
  | j :: l => p j ∧ Given p l
theorem Given.of {p : Nat → Prop} : ∀ {l : List Nat}, (∀ j ∈ l, p j) → Given p l
  | [], _ => trivial
  | _ :: _, h => ⟨h _ (.head _), Given.of fun j hj => h j (.tail _ hj)⟩
theorem Given.get {p : Nat → Prop} : ∀ {l : List Nat}, Given p l → ∀ j ∈ l, p j
  | _ :: _, h, _, .head _ => h.1
  | _ :: _, h, _, .tail _ hj => h.2.get _ hj
def Below_ (p : Nat → Prop) : Nat → Prop
  | 0 => True
  | n + 1 => Below_ p n ∧ p n
theorem Below_.get {p : Nat → Prop} : ∀ {n : Nat}, Below_ p n → ∀ k, k < n → p k
  | n + 1, h, k, hk => by
    by_cases e : k = n
    · subst e; exact h.2
    · exact h.1.get k (by omega)
abbrev Fct := Value → PH → Prop
def Facts (Ds : List Fct) (k : Nat) : Fct := Ds.getD k (fun _ _ => True)
def Lasting (Ds : List Fct) : Prop := ∀ d ∈ Ds, ∀ v I J, PH.le I J → d v I → d v J
theorem Facts.lasting {Ds : List Fct} (h : Lasting Ds) (k : Nat) (v : Value) (I J : PH) (hJ : PH.le I J) (hd : Facts Ds k v I) : Facts Ds k v J := by
  unfold Facts at hd ⊢
  rw [List.getD_eq_getElem?_getD] at hd ⊢
  cases hk : Ds[k]? with
  | none => trivial
  | some d =>
    rw [hk] at hd
    exact h d (List.mem_of_getElem? hk) v I J hJ hd
theorem Lasting.nil : Lasting [] := fun _ h => by cases h
theorem Lasting.cons {d : Fct} {Ds : List Fct} (h : ∀ v I J, PH.le I J → d v I → d v J) (hs : Lasting Ds) : Lasting (d :: Ds) := fun e he => by
  rcases List.mem_cons.1 he with rfl | he
  · exact h
  · exact hs e he
/-- Calls that only make memory: pieces stay. -/
theorem region_fn {P : Program} {id : Nat} {ops : List Oper} {Q : Exit → Act → World → Prop} {a : Act} {w : World} (A : List (List Nat)) (E : World) (I : PH) (ro ms : List PH) (bxs : List Bx) (Ds : List Fct)
    (hm : P.follows .mixedOrders = true) (chk : ogOk ops A a.tmps.size = true) (hbx : bxs.Pairwise fun b c => b.i ≠ c.i ∧ b.i ≠ c.s ∧ b.s ≠ c.i ∧ b.s ≠ c.s)
    (hS : Sat E I (ro ++ ms) w) (lasting : Lasting Ds) (monoC : ∀ b ∈ bxs, ∀ cs I J, PH.le I J → b.C cs I → b.C cs J)
    (okb : ∀ b ∈ bxs, BxOk P ops A b) (dal : ∀ b ∈ bxs, ∀ v J, Facts Ds b.i v J ∧ Facts Ds b.s v J)
    (fill : ∀ b ∈ bxs, ∀ (vals : Nat → Value) (J : PH), I.le J → Given (fun j => Facts Ds j (vals j) J) (A.getD b.s []) →
      ∃ v, (textL ops vals a b.s).eval (storeArg (opAt ops b.s)) = v ∧ v.cells.size = b.z.size ∧ v.cells.all (·.oneCell') = true ∧ b.C v.cells J)
    (plain : Below_ (fun k => (bxs.any fun b => b.i == k || b.s == k) = true ∨ ∀ (vals : Nat → Value) (J : PH) (bs : List PH) (w' : World), Given (fun j => Facts Ds j (vals j) J) (A.getD k []) → I.le J → Sat E J (ro ++ (bs ++ ms)) w' →
      wpStep P ops (opAt ops k) (fun a' w'' => a'.defers = a.defers ∧ ∃ J' : PH, J.le J' ∧ Sat E J' (ro ++ (bs ++ ms)) w'' ∧ Facts Ds k (outOf (opAt ops k) a') J') (textL ops vals a k) w') ops.length)
    (fin : ∀ (vals : Nat → Value) (J : PH) (bs : List PH) (w' : World), I.le J → Below_ (fun j => Facts Ds j (vals j) J) ops.length → Sat E J (ro ++ (bs ++ ms)) w' → Bxs (fun _ => true) vals J bxs bs → Q .normal (textL ops vals a ops.length) w') :
    (Code.region id ops.toArray true).wp P Q a w := by
  refine region_bx A E I ro ms bxs (Facts Ds) (fun _ _ _ ns => ns = ms) hm chk hbx hS rfl (fun i v I J hJ => Facts.lasting lasting i v I J hJ) monoC (fun _ _ _ _ _ _ _ h => ⟨h, h⟩) okb dal
    (fun b hb vals J hJ h => fill b hb vals J hJ (Given.of h)) ?_ ?_
  · intro k hk hne L vals J bs ns w' _ hanc hJ hs hns
    subst hns
    rcases plain.get k hk with h | h
    · rw [List.any_eq_true] at h
      obtain ⟨b, hb, hor⟩ := h
      rw [Bool.or_eq_true] at hor
      rcases hor with h | h
      · exact absurd (by simpa using h) (Ne.symm (hne b hb).1)
      · exact absurd (by simpa using h) (Ne.symm (hne b hb).2)
    · refine wpStep_mono (h vals J bs w' (Given.of fun j hj => (hanc j hj).2) hJ hs) fun a' w'' hpost => ?_
      obtain ⟨h1, J', h2, h3, h4⟩ := hpost
      exact ⟨h1, J', _, h2, h3, h4, rfl⟩
  · intro vals J bs ns w' hJ hD hs hB ⟨_, _, hns⟩
    subst hns
    refine fin vals J bs w' hJ ?_ hs hB
    have : ∀ n, n ≤ ops.length → Below_ (fun j => Facts Ds j (vals j) J) n := fun n => by
      induction n with
      | zero => exact fun _ => trivial
      | succ n ih => exact fun hn => ⟨ih (by omega), hD n (by omega)⟩
    exact this _ (Nat.le_refl _)
end Go.Proofs.Ytmgjoggffnogfaa
