/- A range over a function: what an iterator promises, and the statement's law; an iterator may itself be written by such a loop. -/
import Derived.Test.YtmgjoggffnogfaaRL
import Derived.RangeFuncNested
import Derived.RangeFuncBound
import Derived.RangeFuncCalls
import Derived.RangeFuncLeaves
import Derived.OwnWalkIn
namespace Go.Proofs.Ytmgjoggffnogfaa
set_option linter.unusedSimpArgs false
set_option linter.unusedVariables false
open Go.ChangeShapes Go.WideShapes Go.ChangeAt Go.RowKit
/-- The blocks of S lie as they lay. -/
def Keeps (S : Nat → Prop) (A B : World) : Prop := A.heap.size ≤ B.heap.size ∧ ∀ b, S b → B.heap[b]? = A.heap[b]?
theorem Keeps.refl (S : Nat → Prop) (A : World) : Keeps S A A := ⟨Nat.le_refl _, fun _ _ => rfl⟩
theorem Keeps.trans {S : Nat → Prop} {A B C : World} (h : Keeps S A B) (k : Keeps S B C) : Keeps S A C := ⟨Nat.le_trans h.1 k.1, fun b hb => (k.2 b hb).trans (h.2 b hb)⟩
theorem Keeps.sub {S T : Nat → Prop} {A B : World} (h : Keeps S A B) (k : ∀ b, T b → S b) : Keeps T A B := ⟨h.1, fun b hb => h.2 b (k b hb)⟩
theorem Keeps.of_grownBy {S : Nat → Prop} {A B : World} {row : Option Nat} (h : A.grownBy B row) (hs : ∀ b, S b → b < A.heap.size) (hr : ∀ r, row = some r → ¬ S r) : Keeps S A B :=
  ⟨h.size, fun b hb => h.block b (hs b hb) (fun e => hr b e.symm hb)⟩
theorem Keeps.of_chg {S : Nat → Prop} {F F' : List Nat} {A B : World} (h : Chg F F' A B) (hs : ∀ b, S b → b < A.heap.size ∧ b ∉ F) : Keeps S A B :=
  ⟨h.size, fun b hb => h.same b (hs b hb).1 (hs b hb).2⟩
theorem Keeps.of_below {S : Nat → Prop} {n : Nat} {A B : World} (h : Below n A B) (hs : ∀ b, S b → b < n) : Keeps S A B := ⟨h.size, fun b hb => h.block b (hs b hb)⟩
/-- The blocks that must stay: those of K, and new ones. -/
def Stays (K S : Nat → Prop) (W W' : World) : Prop := (∀ b, K b → S b) ∧ ∀ b, S b → K b ∨ (W.heap.size ≤ b ∧ b < W'.heap.size)
/-- What an iterator's value '.func g lb' promises of the list xs: called in a later world in which the blocks of K lie as they lay, it hands xs over one by one; a round keeps the blocks of S, which the iterator chooses once before the first round. -/
def Iter {α : Type} (P : Program) (g : Nat) (lb : Array Value) (encs : α → Array Value) (K : Nat → Prop) (xs : List α) (w : World) : Prop :=
  ∀ (l : Nat) (J Jx : (Nat → Prop) → List α → World → Prop) (W : World), Keeps K w W → (∀ S, OwnFrom W.heap.size (J S)) → (∀ S, OwnFrom W.heap.size (Jx S)) →
    (∀ S pre x suf W1, xs = pre ++ x :: suf → J S pre W1 → YieldAt Fence.wide 0 P l (encs x) W1 fun e W' => (e = .returned (.bool true) ∧ J S (pre ++ [x]) W' ∧ Keeps S W1 W') ∨ (e = .returned (.bool false) ∧ Jx S (pre ++ [x]) W' ∧ Keeps S W1 W')) →
    (∀ S W', Below W.heap.size W W' → Stays K S W W' → J S [] W') →
    CallsIn Fence.wide 0 P g (#[.func (.yield l) #[] #[]] ++ lb) W fun e W' => (∃ v, e = .returned v) ∧ ∃ S, Stays K S W W' ∧ (J S xs W' ∨ ∃ pre, pre <+: xs ∧ Jx S pre W')
theorem Stays.putObj {K S : Nat → Prop} {w W : World} (h : Stays K S w W) (r : Nat) (o : Obj) : Stays K S w (W.putObj r o) := ⟨h.1, fun b hb => by rw [World.putObj_size]; exact h.2 b hb⟩
/-- From an inner loop's blocks to those of the function that holds it. -/
theorem stays_in {K K' S : Nat → Prop} {w w' W : World} (h : Stays K' S w' W) (hs : w.heap.size ≤ w'.heap.size) (h1 : ∀ b, K b → K' b) (h2 : ∀ b, K' b → K b ∨ w.heap.size ≤ b) (h3 : ∀ b, K' b → b < w'.heap.size) (h4 : w'.heap.size ≤ W.heap.size) : Stays K S w W :=
  ⟨fun b hb => h.1 b (h1 b hb), fun b hb => by
    rcases h.2 b hb with h5 | h5
    · exact (h2 b h5).imp_right fun h6 => ⟨h6, by have := h3 b h5; omega⟩
    · exact .inr ⟨by omega, h5.2⟩⟩
theorem RoundIn.wide {m m' : Nat} {P : Program} {l : Nat} {f : FuncId} {tmps : Array Value} {assign body : Code} {w : World} {R : Ending → World → Prop}
    (h : RoundIn Fence.wide m P l f tmps assign body w R) : RoundIn Fence.wide m' P l f tmps assign body w R := ⟨h.1, fun c cs _ => h.2 c cs (room_wide _)⟩
theorem YieldAt.wide {m : Nat} (m' : Nat) {P : Program} {l : Nat} {args : Array Value} {W : World} {R : Ending → World → Prop} (h : YieldAt Fence.wide m P l args W R) : YieldAt Fence.wide m' P l args W R := by
  obtain ⟨fn, tmps, assign, body, hy, hR⟩ := h
  exact ⟨fn, tmps, assign, body, hy, RoundIn.wide hR⟩
theorem wide_calls {m m' : Nat} {P : Program} {f : FuncId} {args : Array Value} {w : World} {R : Ending → World → Prop} (h : CallsIn Fence.wide m P f args w R) : CallsIn Fence.wide m' P f args w R := ⟨h.1, fun cs _ => h.2 cs (room_wide _)⟩
/-- The same promise where more must stay. -/
theorem Iter.mono {α : Type} {P : Program} {g : Nat} {lb : Array Value} {encs : α → Array Value} {K K' : Nat → Prop} {xs : List α} {w w' : World} (h : Iter P g lb encs K xs w) (hK : ∀ b, K b → K' b) (hw : Keeps K w w') :
    Iter P g lb encs K' xs w' := by
  intro l J Jx W hk hJ hJx hY h0
  refine (h l (fun S => J (fun b => S b ∨ K' b)) (fun S => Jx (fun b => S b ∨ K' b)) W (hw.trans (hk.sub hK)) (fun S => hJ _) (fun S => hJx _) ?_ ?_).mono ?_
  · intro S pre x suf W1 hxs hj
    refine (hY (fun b => S b ∨ K' b) pre x suf W1 hxs hj).mono ?_
    rintro e W2 (⟨he, hj2, hk2⟩ | hx)
    · exact .inl ⟨he, hj2, hk2.sub fun b hb => .inl hb⟩
    · exact .inr ⟨hx.1, hx.2.1, hx.2.2.sub fun b hb => .inl hb⟩
  · intro S W' hb hs
    exact h0 _ W' hb ⟨fun b hb' => .inr hb', fun b hb' => hb'.elim (fun h1 => (hs.2 b h1).imp_left (hK b)) .inl⟩
  · rintro e W2 ⟨hv, S, hs, hj⟩
    exact ⟨hv, fun b => S b ∨ K' b, ⟨fun b hb' => .inr hb', fun b hb' => hb'.elim (fun h1 => (hs.2 b h1).imp_left (hK b)) .inl⟩, hj⟩
theorem ownFrom_keeps {β : Type} {B : Nat} {K : Nat → Prop} {w : World} (hK : ∀ b, K b → b < w.heap.size ∧ b < B) : OwnFrom B (fun (_ : β) W => Keeps K w W) := by
  intro _ X Y row hs hg hr
  refine ⟨Nat.le_trans hs.1 hg.size, fun b hb => (hg.block b (Nat.lt_of_lt_of_le (hK b hb).1 hs.1) (fun e => ?_)).trans (hs.2 b hb)⟩
  have h1 := (hr b e.symm).1
  have h2 := (hK b hb).2
  omega
theorem wpIn_at_zero {F : Fence} {n : Nat} {P : Program} {o : Oper} {l : List Oper} {h : 0 < (o :: l).toArray.size} {a : Act} {w : World} {K : Act → World → Prop} {Q : Exit → Act → World → Prop} : Oper.wpIn F n P ((o :: l).toArray[0]'h) a w K Q = Oper.wpIn F n P o a w K Q := rfl
theorem wpIn_at_succ {F : Fence} {n m : Nat} {P : Program} {o : Oper} {l : List Oper} {h : m + 1 < (o :: l).toArray.size} {a : Act} {w : World} {K : Act → World → Prop} {Q : Exit → Act → World → Prop} : Oper.wpIn F n P ((o :: l).toArray[m + 1]'h) a w K Q = Oper.wpIn F n P (l.toArray[m]'(by simpa using h)) a w K Q := rfl
theorem Blk.turn {w w' : World} {g : Nat} {t : TypeId} {cs : Array Value} {row : Option Nat} (h : Blk w g t cs) (hg : w.grownBy w' row) (hr : ∀ r, row = some r → ∃ o : Obj, w.heap[r]? = some o ∧ o.isCells = false) : Blk w' g t cs :=
  h.grown hg (fun e => by
    obtain ⟨o, ho, hc⟩ := hr g e.symm
    unfold Blk at h
    rw [h] at ho; cases ho; cases hc)
theorem Own.turn {w w' : World} {base e size n : Nat} {v : Value} {xs : List Value} {row : Option Nat} (h : Own w base e size v n xs) (hg : w.grownBy w' row) (hr : ∀ r, row = some r → ∃ o : Obj, w.heap[r]? = some o ∧ o.isCells = false) : Own w' base e size v n xs :=
  h.keep fun g hgo => by
    obtain ⟨cs, hb⟩ := h.blk hgo
    exact (hb.turn hg hr).trans hb.symm
theorem RL.turn {w w' : World} {size n : Nat} {A : Option Addr} {xs : List Value} {row : Option Nat} (h : RL w w.heap.size size A n xs) (hg : w.grownBy w' row) (hr : ∀ r, row = some r → ∃ o : Obj, w.heap[r]? = some o ∧ o.isCells = false) : RL w' w'.heap.size size A n xs :=
  ⟨h.1, fun hn => by
    obtain ⟨b, o, e, hb, hc⟩ := h.2 hn
    refine ⟨b, o, e, Nat.lt_of_lt_of_le hb hg.size, fun k hk => (World.cell?_of_block (w := w) (a := ⟨b, o + k, none⟩) (hg.block b hb (fun eq => ?_))).trans (hc k hk)⟩
    obtain ⟨ob, h1, h2⟩ := hr b eq.symm
    have hlen : k < xs.length := by rw [h.1]; exact hk
    have h3 := hc k hk
    rw [List.getElem?_eq_getElem hlen] at h3
    unfold World.cell? at h3
    rw [show (⟨b, o + k, none⟩ : Addr).block = b from rfl, h1] at h3
    cases ob <;> simp [Obj.isCells] at h2 h3⟩
theorem Below.turn {n : Nat} {a w w' : World} {row : Option Nat} (h : Below n a w) (hg : w.grownBy w' row) (hn : n ≤ w.heap.size) (hr : ∀ r, row = some r → n ≤ r) : Below n a w' := h.grown hg hn hr
theorem wpListIn_append_Own {F : Fence} {m' : Nat} {P : Program} (w : World) {ops : Array Oper} {rest : List Oper} {o : Oper} {a : Act} {Q : Exit → Act → World → Prop} (hgd : o.guard = none) (s x : Operand) (t : TypeId)
    (ho : o.op = .call { callee := .builtin .append, args := #[s, x], argTypes := #[t, t] })
    (base : Nat) (e : TypeId) (i : TypeInfo) (z : Value) (size bytes : Nat) (ht : P.underlying t = some (.slice e)) (hi : P.info? e = some i) (hz : i.zero = some z)
    (hsize : i.size = size) (hby : i.bytes = bytes) (hzs : z.cells.size = size) (hsz : 0 < size)
    (v : Value) (n : Nat) (xs : List Value) (hs : a.eval s = v) (hown : Own w base e size v n xs)
    (ad : Addr) (m c : Nat) (news : List Value) (hx : a.eval x = .slice (some ad) m c) (hl : news.length = m * size) (hnews : ∀ j u, news[j]? = some u → w.cell? (ad.add j) = some u) (h1 : ∀ u ∈ news, u.oneCell' = true)
    (h63 : n + m ≤ maxLen) (hbytes : (n + m) * bytes ≤ 140737488355328) (hbase : base ≤ w.heap.size)
    (h : ∀ v' w', Own w' base e size v' (n + m) (xs ++ news) → w.grownBy w' v.ownBlock → (v'.ownBlock = v.ownBlock ∨ v'.ownBlock = some w.heap.size) → wpListIn F m' P ops Q rest (a.put o.dst v') w') : wpListIn F m' P ops Q (o :: rest) a w := by
  refine wpListIn_plain hgd fun K hK => ?_
  obtain ⟨v', w', hrun, h2, h3, h4⟩ := run_append_Own (P := P) w base t o.type e i z size bytes ht hi hz hsize hby hzs hsz v n xs hown ad m c news hl hnews h1 h63 hbytes hbase
  refine ⟨?_, ?_⟩
  · simp [Oper.about, ho, resolve, Target.leads, Sem.run_pure]
  · rw [Oper.semAt_plain F _ _ (by rw [ho]; intro c hc; cases hc)]
    simp [execOp, ho, resolve, invoke, builtin, hs, hx, hrun, Result.andThen]
    exact hK _ _ (h v' w' h2 h3 h4)
theorem Keeps.alloc {S : Nat → Prop} {A B : World} (h : Keeps S A B) (hs : ∀ b, S b → b < A.heap.size) (o : Obj) : Keeps S A (B.alloc o) :=
  h.trans ⟨by simp, fun b hb => Below.heap_alloc B o b (Nat.lt_of_lt_of_le (hs b hb) h.1)⟩
theorem Keeps.setCell {S : Nat → Prop} {A B : World} (h : Keeps S A B) {p : Addr} (hp : ¬ S p.block) (u : Value) : Keeps S A (B.setCell p u) :=
  h.trans ⟨by simp [World.setCell], fun b hb => Below.heap_setCell B p u b (fun e => hp (e ▸ hb))⟩
theorem Keeps.drew {S : Nat → Prop} {A B : World} (h : Keeps S A B) : Keeps S A B.drew := h
theorem Keeps.drewN {S : Nat → Prop} {A B : World} (h : Keeps S A B) (n : Nat) : Keeps S A (B.drewN n) := h
theorem Keeps.grown {S : Nat → Prop} {A B C : World} {row : Option Nat} (h : Keeps S A B) (hs : ∀ b, S b → b < A.heap.size) (hg : B.grownBy C row) (hr : ∀ r, row = some r → ¬ S r) : Keeps S A C :=
  h.trans (Keeps.of_grownBy hg (fun b hb => Nat.lt_of_lt_of_le (hs b hb) h.1) hr)
/-- A call met by its contract, outside of a round and within. -/
theorem wide_call {n : Nat} {P : Program} {f : FuncId} {args : Array Value} {w : World} {R R' : Ending → World → Prop} (h : Calls P f args w R) (k : ∀ e w', R e w' → R' e w') :
    Fence.wide.fn f ∧ Fence.wide.depth = none ∧ CallsIn Fence.wide n P f args w R' := ⟨trivial, rfl, (callsIn_wide.2 h).mono k⟩
theorem wide_callR {n l : Nat} {P : Program} {f : FuncId} {args : Array Value} {w : World} {R R' : Ending → World → Prop} (h : Calls P f args w R) (k : ∀ e w', R e w' → R' e w') :
    (Fence.wide.inRound l).fn f ∧ (Fence.wide.inRound l).depth = none ∧ CallsIn (Fence.wide.inRound l) n P f args w R' := ⟨trivial, rfl, CallsIn.inRound l ((callsIn_wide.2 h).mono k)⟩
/-- How a round's body may be left. -/
def roundEnd {α : Type} (S : Nat → Prop) (I : List α → World → Prop) (Ix : Code → List α → World → Prop) (xs : List α) (W : World) : Exit → Act → World → Prop
  | .normal, _, W' => Keeps S W W' ∧ I xs W'
  | .ret, _, W' => Keeps S W W' ∧ Ix .ret xs W'
  | .exit id, _, W' => Keeps S W W' ∧ Ix (.exit id) xs W'
  | .goto t, _, W' => Keeps S W W' ∧ Ix (.goto t) xs W'
  | .panic _, _, _ => False
  | .outgrown, _, _ => False
/-- The statement 'for .. := range g { body }' outside of any round. -/
theorem rangeFunc_law {α : Type} {P : Program} {n : Nat} {g : Operand} {ps : Array Tmp} {assign body : Code} {Q : Exit → Act → World → Prop} {a : Act} {w : World}
    {gf : Nat} {lb : Array Value} (hg : a.eval g = .func (.func gf) #[] lb) (eg : ∀ args w, (callFunc gf args).run P w = .ok (.enter gf args) w)
    {encs : α → Array Value} {K : Nat → Prop} {xs : List α} {w0 : World} (hit : Iter P gf lb encs K xs w0) (h0 : Keeps K w0 w) (hK : ∀ b, K b → b < w.heap.size) (hps : ∀ x, (encs x).size = ps.size)
    (I : (Nat → Prop) → List α → World → Prop) (Ix : (Nat → Prop) → Code → List α → World → Prop) (hI : ∀ S, OwnFrom w.heap.size (I S)) (hIx : ∀ S c, OwnFrom w.heap.size (Ix S c))
    (hstart : ∀ S W', Below w.heap.size w W' → Stays K S w W' → I S [] W') (Ax : α → Act → World → Prop) (hAx : ∀ x a', OwnFrom w.heap.size (fun (_ : Unit) W => Ax x a' W))
    (hassign : ∀ (l : Nat) (S : Nat → Prop) (pre : List α) (x : α) (suf : List α) (W : World) (K' : Act → World → Prop), xs = pre ++ x :: suf → (∀ b, S b → b < W.heap.size) → (∀ b, K b → S b) → I S pre W →
      (∀ a' W', Keeps S W W' → I S pre W' → Ax x a' W' → K' a' W') →
      assign.wpIn (Fence.wide.inRound l) n P (Exit.then K' (fun _ _ _ => False)) { tmps := (ps.zip (encs x)).foldl (fun t (p, v) => t.setIfInBounds p v) a.tmps, defers := [] } W)
    (hbody : ∀ (l : Nat) (S : Nat → Prop) (pre : List α) (x : α) (suf : List α) (a' : Act) (W : World), xs = pre ++ x :: suf → (∀ b, S b → b < W.heap.size) → (∀ b, K b → S b) → I S pre W → Ax x a' W → body.wpIn (Fence.wide.inRound l) n P (roundEnd S (I S) (Ix S) (pre ++ [x]) W) a' W)
    (hdone : ∀ (D : Nat) (S : Nat → Prop) (W : World), w.heap.size ≤ D → Stays K S w W → I S xs W → W.heap[D]? = some (.deferred (some [])) → Q .normal { a with defers := { target := .collected D, args := #[] } :: a.defers } W)
    (hstop : ∀ (D : Nat) (S : Nat → Prop) (c : Code) (pre : List α) (W : World), w.heap.size ≤ D → Stays K S w W → pre <+: xs → Ix S c pre W → W.heap[D]? = some (.deferred (some [])) → c.wpIn Fence.wide n P Q { a with defers := { target := .collected D, args := #[] } :: a.defers } W) :
    (Code.rangeFunc g ps assign body).wpIn Fence.wide n P Q a w := by
  refine wpIn_rangeFunc fun fn _ => ?_
  generalize hrec : (fun st pe => ({ state := st, pending := pe, fn, tmps := a.tmps, params := ps, assign, body, defers := w.heap.size } : Loop)) = rec
  have hp : ∀ st pe, (rec st pe).params = ps ∧ (rec st pe).state = st ∧ (rec st pe).pending = pe ∧ (rec st pe).fn = fn ∧ (rec st pe).assign = assign ∧ (rec st pe).body = body ∧ (rec st pe).tmps = a.tmps := fun st pe => by
    rw [← hrec]; exact ⟨rfl, rfl, rfl, rfl, rfl, rfl, rfl⟩
  have hturn : ∀ st pe st', { rec st pe with state := st' } = rec st' pe := fun st pe st' => by rw [← hrec]
  have hturn2 : ∀ st pe st' pe', { rec st pe with state := st', pending := pe' } = rec st' pe' := fun st pe st' pe' => by rw [← hrec]
  have henter : (Instr.enterLoop fn a.tmps ps assign body Fence.wide.round).run P w = .ok (w.heap.size + 1, [{ target := .collected w.heap.size, args := #[] }]) ((w.alloc (.deferred (some []))).alloc (.loop (rec .ready none))) := by
    rw [← hrec]; exact run_enterLoop_outer _ _ _ _ _
  generalize hW1 : (w.alloc (.deferred (some []))).alloc (.loop (rec .ready none)) = W1 at henter
  have hz : W1.heap.size = w.heap.size + 2 := by rw [← hW1]; simp
  have hL1 : W1.heap[w.heap.size + 1]? = some (.loop (rec .ready none)) := by
    rw [← hW1]; have := World.alloc_heap_new (w.alloc (.deferred (some []))) (.loop (rec .ready none)); rwa [World.size_alloc] at this
  have hD1 : W1.heap[w.heap.size]? = some (.deferred (some [])) := by
    rw [← hW1]; exact (Below.heap_alloc _ _ _ (by simp)).trans (World.alloc_heap_new w _)
  have hb1 : Below w.heap.size w W1 := by rw [← hW1]; exact ((Below.refl _ w).alloc (Nat.le_refl _) _).alloc (by simp) _
  refine ⟨w.heap.size + 1, [{ target := .collected w.heap.size, args := #[] }], W1, { target := .fn (.func gf) lb, args := #[.func (.yield (w.heap.size + 1)) #[] #[]] }, W1, gf,
    #[.func (.yield (w.heap.size + 1)) #[] #[]] ++ lb, W1, henter, ?_, fun _ _ => trivial, ?_, fun h => by simp [Fence.wide] at h, ?_⟩
  · simp only [resolve, hg]
    simp [go_sem]
  · simp [invoke, go_sem, eg]
  · -- what the caller knows between two rounds: its own, the record, the block for deferred calls; both are among the blocks that stay
    let T : (Nat → Prop) → Nat → Prop := fun S b => S b ∨ b = w.heap.size ∨ b = w.heap.size + 1
    have hlw : ∀ {S : Nat → Prop} {W W' : World}, (∀ b, S b → b < W.heap.size) → W.heap.size ≤ W'.heap.size → ∀ b, S b → b < W'.heap.size := fun h k b hb => Nat.lt_of_lt_of_le (h b hb) k
    refine wide_calls ((hit (w.heap.size + 1)
      (fun S pre W => (∀ b, S b → b < W.heap.size) ∧ Stays K S W1 W ∧ I (T S) pre W ∧ W.heap[w.heap.size + 1]? = some (.loop (rec .ready none)) ∧ W.heap[w.heap.size]? = some (.deferred (some [])))
      (fun S pre W => Stays K S W1 W ∧ ∃ c, Ix (T S) c pre W ∧ W.heap[w.heap.size + 1]? = some (.loop (rec .done (some c))) ∧ W.heap[w.heap.size]? = some (.deferred (some [])))
      W1 (h0.trans (Keeps.of_below hb1 hK)) ?_ ?_ ?_ ?_).mono ?_)
    · rintro S pre A B row ⟨h1, h2, h3, h4, h5⟩ hgr hr
      have hsz := hgr.size
      refine ⟨hlw h1 hsz, ⟨h2.1, fun b hb => (h2.2 b hb).imp_right fun h => ⟨h.1, by omega⟩⟩, hI _ pre A B row h3 hgr (fun r e => ⟨by have := (hr r e).1; omega, (hr r e).2⟩), (hgr.block _ (Array.getElem?_eq_some_iff.1 h4).1 (fun e => ?_)).trans h4, (hgr.block _ (Array.getElem?_eq_some_iff.1 h5).1 (fun e => ?_)).trans h5⟩
      · have := (hr _ e.symm).1; omega
      · have := (hr _ e.symm).1; omega
    · rintro S pre A B row ⟨h2, c, h3, h4, h5⟩ hgr hr
      have hsz := hgr.size
      refine ⟨⟨h2.1, fun b hb => (h2.2 b hb).imp_right fun h => ⟨h.1, by omega⟩⟩, c, hIx _ c pre A B row h3 hgr (fun r e => ⟨by have := (hr r e).1; omega, (hr r e).2⟩), (hgr.block _ (Array.getElem?_eq_some_iff.1 h4).1 (fun e => ?_)).trans h4, (hgr.block _ (Array.getElem?_eq_some_iff.1 h5).1 (fun e => ?_)).trans h5⟩
      · have := (hr _ e.symm).1; omega
      · have := (hr _ e.symm).1; omega
    · -- one round
      rintro S pre x suf W0 hxs ⟨h1', h2', h3', h4', h5'⟩
      have hlt' : w.heap.size + 1 < W0.heap.size := (Array.getElem?_eq_some_iff.1 h4').1
      have hy := run_yield (P := P) (args := encs x) h4' (by rw [(hp _ _).1]; exact hps x)
      obtain ⟨p1, p2, p3, p4, p5, p6, p7⟩ := hp .ready none
      rw [p1, p4, p5, p6, p7] at hy
      have hTl : ∀ b, T S b → b < W0.heap.size := fun b hb => by
        rcases hb with hb | rfl | rfl
        · exact h1' b hb
        · omega
        · omega
      refine ⟨fn, _, assign, body, hy, RoundIn.wide (roundIn_of_wpIn (n := n) trivial (hassign _ (T S) pre x suf W0 _ hxs hTl (fun b hb => .inl (h2'.1 b hb)) h3' ?_))⟩
      intro a' W hka hia hax
      have hkS : Keeps S W0 W := hka.sub fun b hb => .inl hb
      have h4 := (hka.2 _ (.inr (.inr rfl))).trans h4'
      have h5 := (hka.2 _ (.inr (.inl rfl))).trans h5'
      have h1 : ∀ b, S b → b < W.heap.size := hlw h1' hka.1
      have h2 : Stays K S W1 W := ⟨h2'.1, fun b hb => (h2'.2 b hb).imp_right fun h => ⟨h.1, by have := hka.1; omega⟩⟩
      have hlt : w.heap.size + 1 < W.heap.size := by have := hka.1; omega
      refine ⟨_, run_beginRound h4 p2, ?_⟩
      rw [hturn]
      have hl2 : (W.putObj (w.heap.size + 1) (.loop (rec .busy none))).heap[w.heap.size + 1]? = some (.loop (rec .busy none)) := World.putObj_heap_same hlt
      have hd2 : (W.putObj (w.heap.size + 1) (.loop (rec .busy none))).heap[w.heap.size]? = some (.deferred (some [])) := (World.putObj_heap_other (by omega)).trans h5
      have hnS : ¬ S (w.heap.size + 1) := fun hs => by
        rcases h2.2 _ hs with h | h
        · have := hK _ h; omega
        · omega
      have hi2 : I (T S) pre (W.putObj (w.heap.size + 1) (.loop (rec .busy none))) := (hI _).putObj _ hia (by omega) h4 rfl
      have hax2 : Ax x a' (W.putObj (w.heap.size + 1) (.loop (rec .busy none))) := (hAx x a').putObj (s := ()) _ hax (by omega) h4 rfl
      refine wpIn_mono (hbody _ (T S) pre x suf _ _ hxs (fun b hb => ?_) (fun b hb => .inl (h2.1 b hb)) hi2 hax2) ?_
      · rw [World.putObj_size]
        rcases hb with hb | rfl | rfl
        · exact h1 b hb
        · omega
        · omega
      have fin : ∀ (jump : Option Code) (W3 : World), Keeps (T S) (W.putObj (w.heap.size + 1) (.loop (rec .busy none))) W3 →
          (Instr.endRound (w.heap.size + 1) jump).run P W3 = .ok (.bool jump.isNone) (W3.putObj (w.heap.size + 1) (.loop (rec (if jump.isNone then .ready else .done) jump))) ∧
          W3.heap[w.heap.size + 1]? = some (.loop (rec .busy none)) ∧
          (W3.putObj (w.heap.size + 1) (.loop (rec (if jump.isNone then .ready else .done) jump))).heap[w.heap.size + 1]? = some (.loop (rec (if jump.isNone then .ready else .done) jump)) ∧
          (W3.putObj (w.heap.size + 1) (.loop (rec (if jump.isNone then .ready else .done) jump))).heap[w.heap.size]? = some (.deferred (some [])) ∧
          W.heap.size ≤ W3.heap.size ∧ Keeps S W0 (W3.putObj (w.heap.size + 1) (.loop (rec (if jump.isNone then .ready else .done) jump))) := fun jump W3 hk3 => by
        have hl3 := (hk3.2 _ (.inr (.inr rfl))).trans hl2
        have hd3 := (hk3.2 _ (.inr (.inl rfl))).trans hd2
        have hs3 := hk3.1
        rw [World.putObj_size] at hs3
        have he := run_endRound (P := P) jump hl3
        rw [hturn2] at he
        refine ⟨he, hl3, World.putObj_heap_same (by omega), (World.putObj_heap_other (by omega)).trans hd3, hs3, hkS.trans ⟨by rw [World.putObj_size]; exact hs3, fun b hb => ?_⟩⟩
        have hne : b ≠ w.heap.size + 1 := fun e => hnS (e ▸ hb)
        exact (World.putObj_heap_other hne).trans ((hk3.2 b (.inl hb)).trans (World.putObj_heap_other hne))
      have stay : ∀ {W3 : World}, W.heap.size ≤ W3.heap.size → Stays K S W1 W3 := fun hs => ⟨h2.1, fun b hb => (h2.2 b hb).imp_right fun h => ⟨h.1, by omega⟩⟩
      rintro e a3 W3 hpst
      cases e with
      | normal =>
        obtain ⟨hk3, hi3⟩ := hpst
        obtain ⟨hr, hl3, hl4, hd4, hs4, hks⟩ := fin none W3 hk3
        exact ⟨_, _, hr, .inl ⟨rfl, ⟨hlw h1 (by rw [World.putObj_size]; exact hs4), stay (by rw [World.putObj_size]; exact hs4), (hI _).putObj _ hi3 (by omega) hl3 rfl, hl4, hd4⟩, hks⟩⟩
      | ret =>
        obtain ⟨hk3, hi3⟩ := hpst
        obtain ⟨hr, hl3, hl4, hd4, hs4, hks⟩ := fin (some .ret) W3 hk3
        exact ⟨_, _, hr, .inr ⟨rfl, ⟨stay (by rw [World.putObj_size]; exact hs4), .ret, (hIx _ _).putObj _ hi3 (by omega) hl3 rfl, hl4, hd4⟩, hks⟩⟩
      | exit id =>
        obtain ⟨hk3, hi3⟩ := hpst
        obtain ⟨hr, hl3, hl4, hd4, hs4, hks⟩ := fin (some (.exit id)) W3 hk3
        exact ⟨_, _, hr, .inr ⟨rfl, ⟨stay (by rw [World.putObj_size]; exact hs4), .exit id, (hIx _ _).putObj _ hi3 (by omega) hl3 rfl, hl4, hd4⟩, hks⟩⟩
      | goto t =>
        obtain ⟨hk3, hi3⟩ := hpst
        obtain ⟨hr, hl3, hl4, hd4, hs4, hks⟩ := fin (some (.goto t)) W3 hk3
        exact ⟨_, _, hr, .inr ⟨rfl, ⟨stay (by rw [World.putObj_size]; exact hs4), .goto t, (hIx _ _).putObj _ hi3 (by omega) hl3 rfl, hl4, hd4⟩, hks⟩⟩
      | panic ch => exact hpst.elim
      | outgrown => exact hpst.elim
    · -- before the first round
      intro S W' hb hst
      have hl' := (hb.block (w.heap.size + 1) (by omega)).trans hL1
      have hd' := (hb.block w.heap.size (by omega)).trans hD1
      have hlt : ∀ b, S b → b < W'.heap.size := fun b hb' => by
        rcases hst.2 b hb' with h | h
        · have := hK b h; have := hb.size; omega
        · exact h.2
      refine ⟨hlt, hst, hstart (T S) W' (hb1.trans (hb.mono (by omega))) ⟨fun b hb' => .inl (hst.1 b hb'), fun b hb' => ?_⟩, hl', hd'⟩
      have := hb.size
      rcases hb' with h | rfl | rfl
      · exact (hst.2 b h).imp_right fun h => ⟨by omega, h.2⟩
      · exact .inr ⟨by omega, by omega⟩
      · exact .inr ⟨by omega, by omega⟩
    · -- behind the iterator
      have hT : ∀ {S : Nat → Prop} {W : World} {r : Loop} {ob : Obj}, Stays K S W1 W → W.heap[w.heap.size + 1]? = some (.loop r) → Stays K (T S) w (W.putObj (w.heap.size + 1) ob) := fun h hl => by
        have hlt := (Array.getElem?_eq_some_iff.1 hl).1
        refine ⟨fun b hb => .inl (h.1 b hb), fun b hb => ?_⟩
        rw [World.putObj_size]
        rcases hb with hb | rfl | rfl
        · exact (h.2 b hb).imp_right fun h => ⟨by omega, h.2⟩
        · exact .inr ⟨by omega, by omega⟩
        · exact .inr ⟨by omega, by omega⟩
      rintro e W2 ⟨⟨v, rfl⟩, S, hst, (⟨_, _, hi, hl, hd⟩ | ⟨pre, hpre, _, c, hi, hl, hd⟩)⟩
      · have he := run_endLoop (P := P) hl (by rw [(hp _ _).2.1]; simp)
        rw [hturn, (hp _ _).2.2.1] at he
        exact ⟨none, _, he, hdone _ (T S) _ (Nat.le_refl _) (hT hst hl) ((hI _).putObj _ hi (by omega) hl rfl) ((World.putObj_heap_other (by omega)).trans hd)⟩
      · have he := run_endLoop (P := P) hl (by rw [(hp _ _).2.1]; simp)
        rw [hturn, (hp _ _).2.2.1] at he
        exact ⟨some c, _, he, hstop _ (T S) c pre _ (Nat.le_refl _) (hT hst hl) hpre ((hIx _ c).putObj _ hi (by omega) hl rfl) ((World.putObj_heap_other (by omega)).trans hd)⟩
end Go.Proofs.Ytmgjoggffnogfaa
