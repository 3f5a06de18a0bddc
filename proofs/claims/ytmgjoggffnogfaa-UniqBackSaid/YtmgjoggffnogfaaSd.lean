/- A region that draws its order, with variables that it makes and fills: their operations are paid here. -/
import Derived.Test.YtmgjoggffnogfaaSc
namespace Go.Proofs.Ytmgjoggffnogfaa
set_option linter.unusedSimpArgs false
set_option linter.unusedVariables false
open Go.RowKit
section
variable {L : Nat → Bool} {vals : Nat → Value} {J : PH}
/-- A box's piece lies among the others; those stay while it turns. -/
theorem Bxs.at_ {bxs : List Bx} {bs : List PH} (h : Bxs L vals J bxs bs) (hd : bxs.Pairwise fun b c => b.i ≠ c.i ∧ b.i ≠ c.s ∧ b.s ≠ c.i ∧ b.s ≠ c.s) {b : Bx} (hb : b ∈ bxs) {k : Nat} (hk : k = b.i ∨ k = b.s) (v : Value) (J' : PH)
    (mono : ∀ c ∈ bxs, ∀ cs, c.C cs J → c.C cs J') :
    ∃ pre m post, bs = pre ++ m :: post ∧ b.st L vals J m ∧ ∀ m', b.st (upd L k true) (upd vals k v) J' m' → Bxs (upd L k true) (upd vals k v) J' bxs (pre ++ m' :: post) := by
  have grow : ∀ c ∈ bxs, ∀ m, k ≠ c.i → k ≠ c.s → c.st L vals J m → c.st (upd L k true) (upd vals k v) J' m := fun c hc m h1 h2 hst => by
    rw [Bx.st_other v h1 h2]
    unfold Bx.st at hst ⊢
    split
    · rename_i hL
      rw [if_pos hL] at hst
      obtain ⟨X, cs, e1, e2, e3, e4⟩ := hst
      refine ⟨X, cs, e1, e2, e3, ?_⟩
      split
      · rename_i hs; rw [if_pos hs] at e4; exact mono c hc cs e4
      · rename_i hs; rw [if_neg hs] at e4; exact e4
    · rename_i hL; rw [if_neg hL] at hst; exact hst
  induction h with
  | nil => cases hb
  | @cons c bs' m ms hst hrest ih =>
    have hp := List.pairwise_cons.1 hd
    by_cases hbc : b = c
    · subst hbc
      refine ⟨[], m, ms, rfl, hst, fun m' hm' => .cons hm' ?_⟩
      have rest_ : ∀ {cs : List Bx} {ms : List PH}, Bxs L vals J cs ms → (∀ c ∈ cs, c ∈ b :: bs' ∧ (k ≠ c.i ∧ k ≠ c.s)) → Bxs (upd L k true) (upd vals k v) J' cs ms := by
        intro cs ms hB hne
        induction hB with
        | nil => exact .nil
        | @cons c' _ m' _ h1 _ ih' =>
          have := hne c' (.head _)
          exact .cons (grow c' this.1 m' this.2.1 this.2.2 h1) (ih' fun x hx => hne x (.tail _ hx))
      refine rest_ hrest fun x hx => ⟨.tail _ hx, ?_⟩
      have := hp.1 x hx
      rcases hk with rfl | rfl
      · exact ⟨this.1, this.2.1⟩
      · exact ⟨this.2.2.1, this.2.2.2⟩
    · have hb' : b ∈ bs' := by
        rcases List.mem_cons.1 hb with h | h
        · exact absurd h hbc
        · exact h
      obtain ⟨pre, m0, post, e, h1, h2⟩ := ih hp.2 hb' (fun x hx => mono x (.tail _ hx)) (fun x hx => grow x (.tail _ hx))
      subst e
      refine ⟨m :: pre, m0, post, rfl, h1, fun m' hm' => .cons ?_ (h2 m' hm')⟩
      have := hp.1 b hb'
      refine grow c (.head _) m ?_ ?_ hst
      · rcases hk with rfl | rfl
        · exact Ne.symm this.1
        · exact Ne.symm this.2.1
      · rcases hk with rfl | rfl
        · exact Ne.symm this.2.2.1
        · exact Ne.symm this.2.2.2
theorem Bxs.more {bxs : List Bx} {bs : List PH} (h : Bxs L vals J bxs bs) {k : Nat} (hne : ∀ b ∈ bxs, k ≠ b.i ∧ k ≠ b.s) (v : Value) (J' : PH) (mono : ∀ c ∈ bxs, ∀ cs, c.C cs J → c.C cs J') : Bxs (upd L k true) (upd vals k v) J' bxs bs := by
  induction h with
  | nil => exact .nil
  | @cons c _ m _ hst _ ih =>
    refine .cons ?_ (ih (fun b hb => hne b (.tail _ hb)) fun c hc => mono c (.tail _ hc))
    rw [Bx.st_other v (hne c (.head _)).1 (hne c (.head _)).2]
    unfold Bx.st at hst ⊢
    split
    · rename_i hL
      rw [if_pos hL] at hst
      obtain ⟨X, cs, e1, e2, e3, e4⟩ := hst
      refine ⟨X, cs, e1, e2, e3, ?_⟩
      split
      · rename_i hs; rw [if_pos hs] at e4; exact mono c (.head _) cs e4
      · rename_i hs; rw [if_neg hs] at e4; exact e4
    · rename_i hL; rw [if_neg hL] at hst; exact hst
theorem Bxs.start (bxs : List Bx) (vals : Nat → Value) (J : PH) : Bxs (fun _ => false) vals J bxs (bxs.map fun _ _ => none) := by
  induction bxs with
  | nil => exact .nil
  | cons b bs ih => exact .cons (by unfold Bx.st; rw [if_neg (by simp)]) ih
end
theorem Sat.empties {E w : World} {I : PH} {ms : List PH} (h : Sat E I ms w) : ∀ bxs : List Bx, Sat E I ((bxs.map fun _ _ => none) ++ ms) w
  | [] => h
  | _ :: bs => (h.empties bs).empty
section
variable {P : Program} {w : World}
theorem run_alloc_S {T : TypeId} {z : Value} (hz : (P.info? T).bind (·.zero) = some z) : (Instr.alloc T true (.tuple #[])).run P w = .ok (.pointer (some ⟨w.heap.size, 0, none⟩)) (w.alloc (.cells z.cells T)) := by
  cases hq : P.info? T with
  | none => rw [hq] at hz; cases hz
  | some i =>
    have hi : i.zero = some z := by rw [hq] at hz; exact hz
    simp [Instr.alloc, zeroValue, typeInfo, hq, hi, newVar, newRow]
theorem run_storeVar_S {g : Nat} {t ty : TypeId} {old : Array Value} {v : Value} (hg : w.heap[g]? = some (.cells old t (0, 0))) (hi : (P.info? ty).map (·.size) = some v.cells.size)
    (ho : old.size = v.cells.size) (h1 : v.cells.all (·.oneCell') = true) : (storeVar ty ⟨g, 0, none⟩ v).run P w = .ok () (w.setRow g v.cells) := by
  have := run_storeCells_from (P := P) g t v.cells.toList 0 old w hg (by simp; omega) (fun v hv => (Array.all_eq_true_iff_forall_mem.1 h1) v (by simpa using hv))
  cases hq : P.info? ty with
  | none => simp [hq] at hi
  | some i =>
    have hs : v.cells.size = i.size := by simp [hq] at hi; omega
    simp [storeVar, sizeOf, typeInfo, hq, hs, this]
end
theorem Bxs.all {L : Nat → Bool} {vals : Nat → Value} {J : PH} {bxs : List Bx} {bs : List PH} (h : Bxs L vals J bxs bs) (hL : ∀ b ∈ bxs, L b.i = true ∧ L b.s = true) : Bxs (fun _ => true) vals J bxs bs := by
  induction h with
  | nil => exact .nil
  | @cons c _ m _ hst _ ih =>
    refine .cons ?_ (ih fun b hb => hL b (.tail _ hb))
    unfold Bx.st at hst ⊢
    rw [(hL c (.head _)).1, (hL c (.head _)).2] at hst
    exact hst
theorem setRow_step {E w : World} {I : PH} {ms : List PH} {X : Nat} {c c' : Array Value} {T : TypeId} (h : Sat E I (PH.one X (.cells c T) :: ms) w) : Sat E I (PH.one X (.cells c' T) :: ms) (w.setRow X c') := by
  have hX := h.own _ (.head _) X _ (PH.one_self _ _)
  refine h.change (by simp [World.setRow]) rfl rfl rfl (fun b _ hb => ?_) (fun b u hb => ?_) (fun b hb hlt => ?_)
  · have hne : b ≠ X := by
      rintro rfl
      rw [PH.one_self] at hb; cases hb
    simp only [World.setRow, Array.getElem?_modify]
    rw [if_neg (Ne.symm hne)]
  · obtain ⟨rfl, rfl⟩ := PH.one_some hb
    exact setRow_heap w b c c' T (0, 0) hX
  · unfold PH.one at hb ⊢
    split at hb
    · cases hb
    · rename_i hne; rw [if_neg hne]
/-- What is to be known of a box's two operations. -/
structure BxOk (P : Program) (ops : List Oper) (A : List (List Nat)) (b : Bx) : Prop where
  lt : b.i < ops.length ∧ b.s < ops.length ∧ b.i ≠ b.s
  al : (opAt ops b.i).op = .alloc b.T ∧ (opAt ops b.i).guard = none ∧ (opAt ops b.i).dst.isSome = true
  z : ∃ z, (P.info? b.T).bind (·.zero) = some z ∧ z.cells = b.z
  st : (opAt ops b.s).guard = none ∧ (opAt ops b.s).dst = none ∧ ∃ y, (opAt ops b.s).op = .store b.T (match (opAt ops b.i).dst with | some d => .tmp d | none => .const undef) y
  anc : b.i ∈ A.getD b.s []
  size : (P.info? b.T).map (·.size) = some b.z.size
def storeArg (o : Oper) : Operand := match o.op with | .store _ _ y => y | _ => .const undef
theorem region_bx {P : Program} {id : Nat} {ops : List Oper} {Q : Exit → Act → World → Prop} {a : Act} {w : World} (A : List (List Nat)) (E : World) (I : PH) (ro ms : List PH) (bxs : List Bx)
    (D : Nat → Value → PH → Prop) (MT : (Nat → Bool) → (Nat → Value) → PH → List PH → Prop)
    (hm : P.follows .mixedOrders = true) (chk : ogOk ops A a.tmps.size = true) (hbx : bxs.Pairwise fun b c => b.i ≠ c.i ∧ b.i ≠ c.s ∧ b.s ≠ c.i ∧ b.s ≠ c.s)
    (hS : Sat E I (ro ++ ms) w) (hMT : MT (fun _ => false) (fun _ => undef) I ms)
    (mono : ∀ i v I J, PH.le I J → D i v I → D i v J) (monoC : ∀ b ∈ bxs, ∀ cs I J, PH.le I J → b.C cs I → b.C cs J)
    (stab : ∀ b ∈ bxs, ∀ L vals J v ns, MT L vals J ns → MT (upd L b.i true) (upd vals b.i v) J ns ∧ MT (upd L b.s true) (upd vals b.s v) J ns)
    (okb : ∀ b ∈ bxs, BxOk P ops A b) (dal : ∀ b ∈ bxs, ∀ v J, D b.i v J ∧ D b.s v J)
    (fill : ∀ b ∈ bxs, ∀ (vals : Nat → Value) (J : PH), I.le J → (∀ j ∈ A.getD b.s [], D j (vals j) J) →
      ∃ v, (textL ops vals a b.s).eval (storeArg (opAt ops b.s)) = v ∧ v.cells.size = b.z.size ∧ v.cells.all (·.oneCell') = true ∧ b.C v.cells J)
    (plain : ∀ k, k < ops.length → (∀ b ∈ bxs, k ≠ b.i ∧ k ≠ b.s) → ∀ (L : Nat → Bool) (vals : Nat → Value) (J : PH) (bs ns : List PH) (w' : World), L k = false → (∀ j ∈ A.getD k [], L j = true ∧ D j (vals j) J) → I.le J → Sat E J (ro ++ (bs ++ ns)) w' → MT L vals J ns →
      wpStep P ops (opAt ops k) (fun a' w'' => a'.defers = a.defers ∧ ∃ (J' : PH) (ns' : List PH), J.le J' ∧ Sat E J' (ro ++ (bs ++ ns')) w'' ∧ D k (outOf (opAt ops k) a') J' ∧ MT (upd L k true) (upd vals k (outOf (opAt ops k) a')) J' ns') (textL ops vals a k) w')
    (fin : ∀ (vals : Nat → Value) (J : PH) (bs ns : List PH) (w' : World), I.le J → (∀ j, j < ops.length → D j (vals j) J) → Sat E J (ro ++ (bs ++ ns)) w' → Bxs (fun _ => true) vals J bxs bs → (∃ L, (∀ j, j < ops.length → L j = true) ∧ MT L vals J ns) → Q .normal (textL ops vals a ops.length) w') :
    (Code.region id ops.toArray true).wp P Q a w := by
  refine region_og A E I ro ((bxs.map fun _ _ => none) ++ ms) D (fun L vals J ns => ∃ bs ms', Bxs L vals J bxs bs ∧ ns = bs ++ ms' ∧ MT L vals J ms') hm chk ?_ ⟨_, ms, Bxs.start _ _ _, rfl, hMT⟩ mono ?_ ?_
  · have := (hS.perm (ns := ms ++ ro) List.perm_append_comm).empties bxs
    refine this.perm ?_
    rw [← List.append_assoc]
    exact List.perm_append_comm
  · intro i hi L vals J ns w' hLi hdn hanc hJ hs ⟨bs, ms', hB, hns, hMT'⟩
    subst hns
    by_cases hbox : ∃ b ∈ bxs, i = b.i ∨ i = b.s
    · obtain ⟨b, hb, hib⟩ := hbox
      have ok := okb b hb
      have front : ∀ (pre post : List PH) (m : PH), (ro ++ ((pre ++ m :: post) ++ ms')).Perm (m :: (ro ++ (pre ++ post ++ ms'))) := fun pre post m => by
        rw [List.append_assoc, List.cons_append, ← List.append_assoc, ← List.append_assoc]
        refine List.perm_middle.trans ?_
        simp only [List.append_assoc]
        exact List.Perm.refl _
      obtain ⟨d, hd⟩ := Option.isSome_iff_exists.1 ok.al.2.2
      have hdl : ∀ k, d < (textL ops vals a k).tmps.size := fun k => by
        rw [actL_size]
        have := (og_row chk ok.lt.1).1
        unfold ogRow at this
        rw [dstAt_eq ok.lt.1, hd] at this
        simp only [Bool.and_eq_true] at this
        simpa using this.2
      rcases hib with rfl | rfl
      · obtain ⟨z, hz, hzc⟩ := ok.z
        have hw : Region.wanted (opAt ops b.i) (yielded ops.toArray (textL ops vals a b.i).tmps) = true := by simp [Region.wanted, ok.al.2.1]
        unfold wpStep
        rw [if_pos hw]
        unfold Oper.wp
        have hrun : (execOp (textL ops vals a b.i).eval (opAt ops b.i)).run P w' = .ok (.value (.pointer (some ⟨w'.heap.size, 0, none⟩))) (w'.alloc (.cells z.cells b.T)) := by
          unfold execOp
          simp only [ok.al.1, Sem.run_bind, run_alloc_S hz, Result.andThen_ok, Sem.run_pure]
        rw [hrun]
        have hout := outOf_put (o := opAt ops b.i) (v := .pointer (some ⟨w'.heap.size, 0, none⟩)) (a := textL ops vals a b.i) (fun d' hd' => by rw [hd] at hd'; cases hd'; exact hdl _) d hd
        refine ⟨by
          show ((textL ops vals a b.i).put (opAt ops b.i).dst _).defers = _
          rw [hd]; exact actL_defers _, J, ?_⟩
        rw [hout]
        obtain ⟨pre, m, post, rfl, hst, hnew⟩ := hB.at_ hbx hb (.inl rfl) (.pointer (some ⟨w'.heap.size, 0, none⟩)) J (fun c hc cs h => h)
        have hm : m = fun _ => none := by
          unfold Bx.st at hst
          rw [if_neg (by rw [hLi]; simp)] at hst
          exact hst
        subst hm
        have h1 := (hs.perm (front _ _ _)).drop.alloc (.cells z.cells b.T)
        refine ⟨(pre ++ PH.one w'.heap.size (.cells z.cells b.T) :: post) ++ ms', PH.le.refl _, h1.perm (front _ _ _).symm, (dal b hb _ _).1, _, ms', hnew _ ?_, rfl, (stab b hb _ _ _ _ _ hMT').1⟩
        unfold Bx.st
        have hLs : L b.s = false := by
          cases hb : L b.s with
          | false => rfl
          | true => rw [hdn b.s ok.lt.2.1 hb b.i ok.anc] at hLi; cases hLi
        rw [upd_self, if_pos rfl]
        refine ⟨_, z.cells, upd_self _ _ _, rfl, by rw [hzc], ?_⟩
        rw [upd_ne _ _ (Ne.symm ok.lt.2.2), hLs]
        simpa using hzc
      · have hia := hanc b.i ok.anc
        obtain ⟨v, hv, hvs, hv1, hvC⟩ := fill b hb vals J hJ fun j hj => (hanc j hj).2
        obtain ⟨y, hy⟩ := ok.st.2.2
        obtain ⟨pre, m, post, rfl, hst, hnew⟩ := hB.at_ hbx hb (.inr rfl) undef J (fun c hc cs h => h)
        unfold Bx.st at hst
        rw [if_pos hia.1] at hst
        obtain ⟨X, cs, e1, rfl, e3, _⟩ := hst
        have h0 := hs.perm (front _ _ _)
        have hw : Region.wanted (opAt ops b.s) (yielded ops.toArray (textL ops vals a b.s).tmps) = true := by simp [Region.wanted, ok.st.1]
        have hbi : b.i < b.s := og_lt chk b.s ok.lt.2.1 b.i ok.anc
        have hx : (textL ops vals a b.s).eval (.tmp d) = .pointer (some ⟨X, 0, none⟩) := by
          have hdi : dstAt ops b.i = some d := by rw [dstAt_eq ok.lt.1, hd]
          have := actL_hit (ops := ops) (L := fun _ => true) (vals := vals) (a := a) d b.i (by have := hdl 0; exact this) hdi rfl (fun k hne => og_unique chk hne hdi) b.s hbi
          show (textL ops vals a b.s).tmps.getD d undef = _
          rw [Array.getD_eq_getD_getElem?, this, e1]; rfl
        unfold wpStep
        rw [if_pos hw]
        unfold Oper.wp
        have hval : (textL ops vals a b.s).eval y = v := by
          rw [← hv]; unfold storeArg; rw [hy]
        have hrun : (execOp (textL ops vals a b.s).eval (opAt ops b.s)).run P w' = .ok .skip (w'.setRow X v.cells) := by
          unfold execOp
          rw [hd] at hy
          simp only [hy, hx, hval, Instr.storeAt, Instr.sureAddr, Sem.run_bind, Sem.run_pure, Result.andThen_ok]
          rw [run_storeVar_S (h0.own _ (.head _) X _ (PH.one_self _ _)) (by rw [ok.size, hvs]) (by rw [e3, hvs]) hv1]
          rfl
        rw [hrun]
        have hout : outOf (opAt ops b.s) ((textL ops vals a b.s).put (opAt ops b.s).dst undef) = undef := by
          unfold outOf; rw [ok.st.2.1]
        refine ⟨by
          show ((textL ops vals a b.s).put (opAt ops b.s).dst _).defers = _
          rw [ok.st.2.1]; exact actL_defers _, J, ?_⟩
        rw [hout]
        refine ⟨(pre ++ PH.one X (.cells v.cells b.T) :: post) ++ ms', PH.le.refl _, (setRow_step h0).perm (front _ _ _).symm, (dal b hb _ _).2, _, ms', hnew _ ?_, rfl, (stab b hb _ _ _ _ _ hMT').2⟩
        unfold Bx.st
        rw [upd_ne _ _ ok.lt.2.2, if_pos hia.1]
        refine ⟨X, v.cells, by rw [upd_ne _ _ ok.lt.2.2]; exact e1, rfl, hvs, ?_⟩
        rw [upd_self, if_pos rfl]
        exact hvC
    · have hne : ∀ b ∈ bxs, i ≠ b.i ∧ i ≠ b.s := fun b hb => ⟨fun e => hbox ⟨b, hb, .inl e⟩, fun e => hbox ⟨b, hb, .inr e⟩⟩
      refine wpStep_mono (plain i hi hne L vals J bs ms' w' hLi hanc hJ hs hMT') fun a' w'' hpost => ?_
      obtain ⟨h1, J', ns', h2, h3, h4, h5⟩ := hpost
      exact ⟨h1, J', bs ++ ns', h2, h3, h4, bs, ns', hB.more hne _ J' fun c hc cs => monoC c hc cs J J' h2, rfl, h5⟩
  · intro vals J ns w' hJ hD hs ⟨L, hL, bs, ms', hB, hns, hMT'⟩
    subst hns
    exact fin vals J bs ms' w' hJ hD hs (hB.all fun b hb => ⟨hL _ (okb b hb).lt.1, hL _ (okb b hb).lt.2.1⟩) ⟨L, hL, hMT'⟩
end Go.Proofs.Ytmgjoggffnogfaa
