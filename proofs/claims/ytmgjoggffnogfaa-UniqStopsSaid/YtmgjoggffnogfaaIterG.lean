/- A range over a function whose elements are known only when they come. -/
import Derived.Test.YtmgjoggffnogfaaIter
namespace Go.Proofs.Ytmgjoggffnogfaa
set_option linter.unusedSimpArgs false
set_option linter.unusedVariables false
open Go.ChangeShapes Go.WideShapes Go.ChangeAt Go.RowKit
/-- What an iterator's value '.func g lb' promises where what it hands over is known only when it comes: called in a later world in which the blocks of K lie as they lay, it hands over N elements, the i-th so that G i holds of it there; a round keeps the blocks of S, which the iterator chooses once before the first round. -/
def IterG {α : Type} (P : Program) (g : Nat) (lb : Array Value) (encs : α → Array Value) (K : Nat → Prop) (N : Nat) (G : Nat → α → World → Prop) (w : World) : Prop :=
  ∀ (l : Nat) (J Jx : (Nat → Prop) → List α → World → Prop) (W : World), Keeps K w W → (∀ S, OwnFrom W.heap.size (J S)) → (∀ S, OwnFrom W.heap.size (Jx S)) →
    (∀ S pre x W1, pre.length < N → G pre.length x W1 → J S pre W1 → YieldAt Fence.wide 0 P l (encs x) W1 fun e W' => (e = .returned (.bool true) ∧ J S (pre ++ [x]) W' ∧ Keeps S W1 W') ∨ (e = .returned (.bool false) ∧ Jx S (pre ++ [x]) W' ∧ Keeps S W1 W')) →
    (∀ S W', Below W.heap.size W W' → Stays K S W W' → J S [] W') →
    CallsIn Fence.wide 0 P g (#[.func (.yield l) #[] #[]] ++ lb) W fun e W' => (∃ v, e = .returned v) ∧ ∃ S, Stays K S W W' ∧ ((∃ xs, xs.length = N ∧ J S xs W') ∨ ∃ pre, pre.length ≤ N ∧ Jx S pre W')
/-- The statement 'for .. := range g { body }' outside of any round. -/
theorem rangeFunc_lawG {α : Type} {P : Program} {n : Nat} {g : Operand} {ps : Array Tmp} {assign body : Code} {Q : Exit → Act → World → Prop} {a : Act} {w : World}
    {gf : Nat} {lb : Array Value} (hg : a.eval g = .func (.func gf) #[] lb) (eg : ∀ args w, (callFunc gf args).run P w = .ok (.enter gf args) w)
    {encs : α → Array Value} {K : Nat → Prop} {N : Nat} {G : Nat → α → World → Prop} {w0 : World} (hit : IterG P gf lb encs K N G w0) (h0 : Keeps K w0 w) (hK : ∀ b, K b → b < w.heap.size) (hps : ∀ x, (encs x).size = ps.size)
    (I : (Nat → Prop) → List α → World → Prop) (Ix : (Nat → Prop) → Code → List α → World → Prop) (hI : ∀ S, OwnFrom w.heap.size (I S)) (hIx : ∀ S c, OwnFrom w.heap.size (Ix S c))
    (hstart : ∀ S W', Below w.heap.size w W' → Stays K S w W' → I S [] W') (Ax : Nat → α → Act → World → Prop) (hAx : ∀ i x a', OwnFrom w.heap.size (fun (_ : Unit) W => Ax i x a' W))
    (hassign : ∀ (l : Nat) (S : Nat → Prop) (pre : List α) (x : α) (W : World) (K' : Act → World → Prop), pre.length < N → G pre.length x W → (∀ b, S b → b < W.heap.size) → (∀ b, K b → S b) → I S pre W →
      (∀ a' W', Keeps S W W' → I S pre W' → Ax pre.length x a' W' → K' a' W') →
      assign.wpIn (Fence.wide.inRound l) n P (Exit.then K' (fun _ _ _ => False)) { tmps := (ps.zip (encs x)).foldl (fun t (p, v) => t.setIfInBounds p v) a.tmps, defers := [] } W)
    (hbody : ∀ (l : Nat) (S : Nat → Prop) (pre : List α) (x : α) (a' : Act) (W : World), pre.length < N → (∀ b, S b → b < W.heap.size) → (∀ b, K b → S b) → I S pre W → Ax pre.length x a' W → body.wpIn (Fence.wide.inRound l) n P (roundEnd S (I S) (Ix S) (pre ++ [x]) W) a' W)
    (hdone : ∀ (D : Nat) (S : Nat → Prop) (xs : List α) (W : World), w.heap.size ≤ D → Stays K S w W → xs.length = N → I S xs W → W.heap[D]? = some (.deferred (some [])) → Q .normal { a with defers := { target := .collected D, args := #[] } :: a.defers } W)
    (hstop : ∀ (D : Nat) (S : Nat → Prop) (c : Code) (pre : List α) (W : World), w.heap.size ≤ D → Stays K S w W → pre.length ≤ N → Ix S c pre W → W.heap[D]? = some (.deferred (some [])) → c.wpIn Fence.wide n P Q { a with defers := { target := .collected D, args := #[] } :: a.defers } W) :
    (Code.rangeFunc g ps assign body).wpIn Fence.wide n P Q a w := by
  refine wpIn_rangeFunc fun fn _ => ?_
  generalize hrec : (fun st pe => ({ state := st, pending := pe, fn, tmps := a.tmps, params := ps, assign, body, defers := w.heap.size } : Loop)) = rec
  have hp : ∀ st pe, (rec st pe).params = ps ∧ (rec st pe).state = st ∧ (rec st pe).pending = pe ∧ (rec st pe).fn = fn ∧ (rec st pe).assign = assign ∧ (rec st pe).body = body ∧ (rec st pe).tmps = a.tmps := fun st pe => by
    rw [← hrec]; exact ⟨rfl, rfl, rfl, rfl, rfl, rfl, rfl⟩
  have hturn : ∀ st pe st', { rec st pe with state := st' } = rec st' pe := fun st pe st' => by rw [← hrec]
  have hturn2 : ∀ st pe st' pe', { rec st pe with state := st', pending := pe' } = rec st' pe' := fun st pe st' pe' => by rw [← hrec]
  have henter : (Instr.enterLoop fn a.tmps ps assign body Fence.wide.round).run P w = .ok (w.heap.size + 1, [{ target := .collected w.heap.size, args := #[] }]) ((w.alloc (.deferred (some []))).alloc (.loop (rec .ready none))) := by
    rw [← hrec]; exact run_enterLoop_outer _ _ _ _ _
  generalize hW1 : (w.alloc (.deferred (some []))).alloc (.loop (rec .ready none)) = W1 at henter
  have hz : W1.heap.size = w.heap.size + 2 := by rw [← hW1]; simp
  have hL1 : W1.heap[w.heap.size + 1]? = some (.loop (rec .ready none)) := by
    rw [← hW1]; have := World.alloc_heap_new (w.alloc (.deferred (some []))) (.loop (rec .ready none)); rwa [World.size_alloc] at this
  have hD1 : W1.heap[w.heap.size]? = some (.deferred (some [])) := by
    rw [← hW1]; exact (Below.heap_alloc _ _ _ (by simp)).trans (World.alloc_heap_new w _)
  have hb1 : Below w.heap.size w W1 := by rw [← hW1]; exact ((Below.refl _ w).alloc (Nat.le_refl _) _).alloc (by simp) _
  refine ⟨w.heap.size + 1, [{ target := .collected w.heap.size, args := #[] }], W1, { target := .fn (.func gf) lb, args := #[.func (.yield (w.heap.size + 1)) #[] #[]] }, W1, gf,
    #[.func (.yield (w.heap.size + 1)) #[] #[]] ++ lb, W1, henter, ?_, fun _ _ => trivial, ?_, fun h => by simp [Fence.wide] at h, ?_⟩
  · simp only [resolve, hg]
    simp [go_sem]
  · simp [invoke, go_sem, eg]
  · -- what the caller knows between two rounds: its own, the record, the block for deferred calls; both are among the blocks that stay
    let T : (Nat → Prop) → Nat → Prop := fun S b => S b ∨ b = w.heap.size ∨ b = w.heap.size + 1
    have hlw : ∀ {S : Nat → Prop} {W W' : World}, (∀ b, S b → b < W.heap.size) → W.heap.size ≤ W'.heap.size → ∀ b, S b → b < W'.heap.size := fun h k b hb => Nat.lt_of_lt_of_le (h b hb) k
    refine wide_calls ((hit (w.heap.size + 1)
      (fun S pre W => (∀ b, S b → b < W.heap.size) ∧ Stays K S W1 W ∧ I (T S) pre W ∧ W.heap[w.heap.size + 1]? = some (.loop (rec .ready none)) ∧ W.heap[w.heap.size]? = some (.deferred (some [])))
      (fun S pre W => Stays K S W1 W ∧ ∃ c, Ix (T S) c pre W ∧ W.heap[w.heap.size + 1]? = some (.loop (rec .done (some c))) ∧ W.heap[w.heap.size]? = some (.deferred (some [])))
      W1 (h0.trans (Keeps.of_below hb1 hK)) ?_ ?_ ?_ ?_).mono ?_)
    · rintro S pre A B row ⟨h1, h2, h3, h4, h5⟩ hgr hr
      have hsz := hgr.size
      refine ⟨hlw h1 hsz, ⟨h2.1, fun b hb => (h2.2 b hb).imp_right fun h => ⟨h.1, by omega⟩⟩, hI _ pre A B row h3 hgr (fun r e => ⟨by have := (hr r e).1; omega, (hr r e).2⟩), (hgr.block _ (Array.getElem?_eq_some_iff.1 h4).1 (fun e => ?_)).trans h4, (hgr.block _ (Array.getElem?_eq_some_iff.1 h5).1 (fun e => ?_)).trans h5⟩
      · have := (hr _ e.symm).1; omega
      · have := (hr _ e.symm).1; omega
    · rintro S pre A B row ⟨h2, c, h3, h4, h5⟩ hgr hr
      have hsz := hgr.size
      refine ⟨⟨h2.1, fun b hb => (h2.2 b hb).imp_right fun h => ⟨h.1, by omega⟩⟩, c, hIx _ c pre A B row h3 hgr (fun r e => ⟨by have := (hr r e).1; omega, (hr r e).2⟩), (hgr.block _ (Array.getElem?_eq_some_iff.1 h4).1 (fun e => ?_)).trans h4, (hgr.block _ (Array.getElem?_eq_some_iff.1 h5).1 (fun e => ?_)).trans h5⟩
      · have := (hr _ e.symm).1; omega
      · have := (hr _ e.symm).1; omega
    · -- one round
      rintro S pre x W0 hxs hGx ⟨h1', h2', h3', h4', h5'⟩
      have hlt' : w.heap.size + 1 < W0.heap.size := (Array.getElem?_eq_some_iff.1 h4').1
      have hy := run_yield (P := P) (args := encs x) h4' (by rw [(hp _ _).1]; exact hps x)
      obtain ⟨p1, p2, p3, p4, p5, p6, p7⟩ := hp .ready none
      rw [p1, p4, p5, p6, p7] at hy
      have hTl : ∀ b, T S b → b < W0.heap.size := fun b hb => by
        rcases hb with hb | rfl | rfl
        · exact h1' b hb
        · omega
        · omega
      refine ⟨fn, _, assign, body, hy, RoundIn.wide (roundIn_of_wpIn (n := n) trivial (hassign _ (T S) pre x W0 _ hxs hGx hTl (fun b hb => .inl (h2'.1 b hb)) h3' ?_))⟩
      intro a' W hka hia hax
      have hkS : Keeps S W0 W := hka.sub fun b hb => .inl hb
      have h4 := (hka.2 _ (.inr (.inr rfl))).trans h4'
      have h5 := (hka.2 _ (.inr (.inl rfl))).trans h5'
      have h1 : ∀ b, S b → b < W.heap.size := hlw h1' hka.1
      have h2 : Stays K S W1 W := ⟨h2'.1, fun b hb => (h2'.2 b hb).imp_right fun h => ⟨h.1, by have := hka.1; omega⟩⟩
      have hlt : w.heap.size + 1 < W.heap.size := by have := hka.1; omega
      refine ⟨_, run_beginRound h4 p2, ?_⟩
      rw [hturn]
      have hl2 : (W.putObj (w.heap.size + 1) (.loop (rec .busy none))).heap[w.heap.size + 1]? = some (.loop (rec .busy none)) := World.putObj_heap_same hlt
      have hd2 : (W.putObj (w.heap.size + 1) (.loop (rec .busy none))).heap[w.heap.size]? = some (.deferred (some [])) := (World.putObj_heap_other (by omega)).trans h5
      have hnS : ¬ S (w.heap.size + 1) := fun hs => by
        rcases h2.2 _ hs with h | h
        · have := hK _ h; omega
        · omega
      have hi2 : I (T S) pre (W.putObj (w.heap.size + 1) (.loop (rec .busy none))) := (hI _).putObj _ hia (by omega) h4 rfl
      have hax2 : Ax pre.length x a' (W.putObj (w.heap.size + 1) (.loop (rec .busy none))) := (hAx _ x a').putObj (s := ()) _ hax (by omega) h4 rfl
      refine wpIn_mono (hbody _ (T S) pre x _ _ hxs (fun b hb => ?_) (fun b hb => .inl (h2.1 b hb)) hi2 hax2) ?_
      · rw [World.putObj_size]
        rcases hb with hb | rfl | rfl
        · exact h1 b hb
        · omega
        · omega
      have fin : ∀ (jump : Option Code) (W3 : World), Keeps (T S) (W.putObj (w.heap.size + 1) (.loop (rec .busy none))) W3 →
          (Instr.endRound (w.heap.size + 1) jump).run P W3 = .ok (.bool jump.isNone) (W3.putObj (w.heap.size + 1) (.loop (rec (if jump.isNone then .ready else .done) jump))) ∧
          W3.heap[w.heap.size + 1]? = some (.loop (rec .busy none)) ∧
          (W3.putObj (w.heap.size + 1) (.loop (rec (if jump.isNone then .ready else .done) jump))).heap[w.heap.size + 1]? = some (.loop (rec (if jump.isNone then .ready else .done) jump)) ∧
          (W3.putObj (w.heap.size + 1) (.loop (rec (if jump.isNone then .ready else .done) jump))).heap[w.heap.size]? = some (.deferred (some [])) ∧
          W.heap.size ≤ W3.heap.size ∧ Keeps S W0 (W3.putObj (w.heap.size + 1) (.loop (rec (if jump.isNone then .ready else .done) jump))) := fun jump W3 hk3 => by
        have hl3 := (hk3.2 _ (.inr (.inr rfl))).trans hl2
        have hd3 := (hk3.2 _ (.inr (.inl rfl))).trans hd2
        have hs3 := hk3.1
        rw [World.putObj_size] at hs3
        have he := run_endRound (P := P) jump hl3
        rw [hturn2] at he
        refine ⟨he, hl3, World.putObj_heap_same (by omega), (World.putObj_heap_other (by omega)).trans hd3, hs3, hkS.trans ⟨by rw [World.putObj_size]; exact hs3, fun b hb => ?_⟩⟩
        have hne : b ≠ w.heap.size + 1 := fun e => hnS (e ▸ hb)
        exact (World.putObj_heap_other hne).trans ((hk3.2 b (.inl hb)).trans (World.putObj_heap_other hne))
      have stay : ∀ {W3 : World}, W.heap.size ≤ W3.heap.size → Stays K S W1 W3 := fun hs => ⟨h2.1, fun b hb => (h2.2 b hb).imp_right fun h => ⟨h.1, by omega⟩⟩
      rintro e a3 W3 hpst
      cases e with
      | normal =>
        obtain ⟨hk3, hi3⟩ := hpst
        obtain ⟨hr, hl3, hl4, hd4, hs4, hks⟩ := fin none W3 hk3
        exact ⟨_, _, hr, .inl ⟨rfl, ⟨hlw h1 (by rw [World.putObj_size]; exact hs4), stay (by rw [World.putObj_size]; exact hs4), (hI _).putObj _ hi3 (by omega) hl3 rfl, hl4, hd4⟩, hks⟩⟩
      | ret =>
        obtain ⟨hk3, hi3⟩ := hpst
        obtain ⟨hr, hl3, hl4, hd4, hs4, hks⟩ := fin (some .ret) W3 hk3
        exact ⟨_, _, hr, .inr ⟨rfl, ⟨stay (by rw [World.putObj_size]; exact hs4), .ret, (hIx _ _).putObj _ hi3 (by omega) hl3 rfl, hl4, hd4⟩, hks⟩⟩
      | exit id =>
        obtain ⟨hk3, hi3⟩ := hpst
        obtain ⟨hr, hl3, hl4, hd4, hs4, hks⟩ := fin (some (.exit id)) W3 hk3
        exact ⟨_, _, hr, .inr ⟨rfl, ⟨stay (by rw [World.putObj_size]; exact hs4), .exit id, (hIx _ _).putObj _ hi3 (by omega) hl3 rfl, hl4, hd4⟩, hks⟩⟩
      | goto t =>
        obtain ⟨hk3, hi3⟩ := hpst
        obtain ⟨hr, hl3, hl4, hd4, hs4, hks⟩ := fin (some (.goto t)) W3 hk3
        exact ⟨_, _, hr, .inr ⟨rfl, ⟨stay (by rw [World.putObj_size]; exact hs4), .goto t, (hIx _ _).putObj _ hi3 (by omega) hl3 rfl, hl4, hd4⟩, hks⟩⟩
      | panic ch => exact hpst.elim
      | outgrown => exact hpst.elim
    · -- before the first round
      intro S W' hb hst
      have hl' := (hb.block (w.heap.size + 1) (by omega)).trans hL1
      have hd' := (hb.block w.heap.size (by omega)).trans hD1
      have hlt : ∀ b, S b → b < W'.heap.size := fun b hb' => by
        rcases hst.2 b hb' with h | h
        · have := hK b h; have := hb.size; omega
        · exact h.2
      refine ⟨hlt, hst, hstart (T S) W' (hb1.trans (hb.mono (by omega))) ⟨fun b hb' => .inl (hst.1 b hb'), fun b hb' => ?_⟩, hl', hd'⟩
      have := hb.size
      rcases hb' with h | rfl | rfl
      · exact (hst.2 b h).imp_right fun h => ⟨by omega, h.2⟩
      · exact .inr ⟨by omega, by omega⟩
      · exact .inr ⟨by omega, by omega⟩
    · -- behind the iterator
      have hT : ∀ {S : Nat → Prop} {W : World} {r : Loop} {ob : Obj}, Stays K S W1 W → W.heap[w.heap.size + 1]? = some (.loop r) → Stays K (T S) w (W.putObj (w.heap.size + 1) ob) := fun h hl => by
        have hlt := (Array.getElem?_eq_some_iff.1 hl).1
        refine ⟨fun b hb => .inl (h.1 b hb), fun b hb => ?_⟩
        rw [World.putObj_size]
        rcases hb with hb | rfl | rfl
        · exact (h.2 b hb).imp_right fun h => ⟨by omega, h.2⟩
        · exact .inr ⟨by omega, by omega⟩
        · exact .inr ⟨by omega, by omega⟩
      rintro e W2 ⟨⟨v, rfl⟩, S, hst, (⟨xs, hxl, _, _, hi, hl, hd⟩ | ⟨pre, hpre, _, c, hi, hl, hd⟩)⟩
      · have he := run_endLoop (P := P) hl (by rw [(hp _ _).2.1]; simp)
        rw [hturn, (hp _ _).2.2.1] at he
        exact ⟨none, _, he, hdone _ (T S) xs _ (Nat.le_refl _) (hT hst hl) hxl ((hI _).putObj _ hi (by omega) hl rfl) ((World.putObj_heap_other (by omega)).trans hd)⟩
      · have he := run_endLoop (P := P) hl (by rw [(hp _ _).2.1]; simp)
        rw [hturn, (hp _ _).2.2.1] at he
        exact ⟨some c, _, he, hstop _ (T S) c pre _ (Nat.le_refl _) (hT hst hl) hpre ((hIx _ c).putObj _ hi (by omega) hl rfl) ((World.putObj_heap_other (by omega)).trans hd)⟩
end Go.Proofs.Ytmgjoggffnogfaa
