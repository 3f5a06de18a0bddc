/- The region's law, its goals veiled. -/
import Derived.Test.YtmgjoggffnogfaaSk
namespace Go.Proofs.Ytmgjoggffnogfaa
set_option linter.unusedSimpArgs false
set_option linter.unusedVariables false
/-- The region's law, its goals veiled: no intro, no obtain looks into them. -/
theorem region_fnV {P : Program} {id : Nat} {ops : List Oper} {Q : Exit → Act → World → Prop} {a : Act} {w : World} (A : List (List Nat)) (E : World) (I : PH) (ro ms : List PH) (bxs : List Bx) (Ds : List Fct)
    (hm : P.follows .mixedOrders = true) (chk : ogOk ops A a.tmps.size = true) (hbx : bxs.Pairwise fun b c => b.i ≠ c.i ∧ b.i ≠ c.s ∧ b.s ≠ c.i ∧ b.s ≠ c.s)
    (hS : Sat E I (ro ++ ms) w) (lasting : Lasting Ds) (monoC : ∀ b ∈ bxs, ∀ cs I J, PH.le I J → b.C cs I → b.C cs J)
    (okb : ∀ b ∈ bxs, BxOk P ops A b) (dal : ∀ b ∈ bxs, ∀ v J, Facts Ds b.i v J ∧ Facts Ds b.s v J)
    (fill : ∀ b ∈ bxs, ∀ (vals : Nat → Value) (J : PH), I.le J → Given (fun j => Facts Ds j (vals j) J) (A.getD b.s []) →
      ∃ v, (textL ops vals a b.s).eval (storeArg (opAt ops b.s)) = v ∧ v.cells.size = b.z.size ∧ v.cells.all (·.oneCell') = true ∧ b.C v.cells J)
    (plain : Below_ (fun k => (bxs.any fun b => b.i == k || b.s == k) = true ∨ ∀ (vals : Nat → Value) (J : PH) (bs : List PH) (w' : World), Given (fun j => Facts Ds j (vals j) J) (A.getD k []) → I.le J → Sat E J (ro ++ (bs ++ ms)) w' →
      Veil0 (wpStep P ops (opAt ops k) (fun a' w'' => a'.defers = a.defers ∧ ∃ J' : PH, J.le J' ∧ Sat E J' (ro ++ (bs ++ ms)) w'' ∧ Facts Ds k (outOf (opAt ops k) a') J') (textL ops vals a k) w')) ops.length)
    (fin : ∀ (vals : Nat → Value) (J : PH) (bs : List PH) (w' : World), I.le J → Below_ (fun j => Facts Ds j (vals j) J) ops.length → Sat E J (ro ++ (bs ++ ms)) w' → Bxs (fun _ => true) vals J bxs bs → Veil0 (Q .normal (textL ops vals a ops.length) w')) :
    (Code.region id ops.toArray true).wp P Q a w := by
  refine region_fn A E I ro ms bxs Ds hm chk hbx hS lasting monoC okb dal fill ?_ (fun vals J bs w' h1 h2 h3 h4 => (fin vals J bs w' h1 h2 h3 h4).out)
  have : ∀ n, Below_ (fun k => (bxs.any fun b => b.i == k || b.s == k) = true ∨ ∀ (vals : Nat → Value) (J : PH) (bs : List PH) (w' : World), Given (fun j => Facts Ds j (vals j) J) (A.getD k []) → I.le J → Sat E J (ro ++ (bs ++ ms)) w' →
      Veil0 (wpStep P ops (opAt ops k) (fun a' w'' => a'.defers = a.defers ∧ ∃ J' : PH, J.le J' ∧ Sat E J' (ro ++ (bs ++ ms)) w'' ∧ Facts Ds k (outOf (opAt ops k) a') J') (textL ops vals a k) w')) n →
      Below_ (fun k => (bxs.any fun b => b.i == k || b.s == k) = true ∨ ∀ (vals : Nat → Value) (J : PH) (bs : List PH) (w' : World), Given (fun j => Facts Ds j (vals j) J) (A.getD k []) → I.le J → Sat E J (ro ++ (bs ++ ms)) w' →
      wpStep P ops (opAt ops k) (fun a' w'' => a'.defers = a.defers ∧ ∃ J' : PH, J.le J' ∧ Sat E J' (ro ++ (bs ++ ms)) w'' ∧ Facts Ds k (outOf (opAt ops k) a') J') (textL ops vals a k) w') n := by
    intro n
    induction n with
    | zero => exact fun h => h
    | succ n ih =>
      intro h
      refine ⟨ih h.1, ?_⟩
      rcases h.2 with h2 | h2
      · exact .inl h2
      · exact .inr fun vals J bs w' h3 h4 h5 => (h2 vals J bs w' h3 h4 h5).out
  exact this _ plain
end Go.Proofs.Ytmgjoggffnogfaa
