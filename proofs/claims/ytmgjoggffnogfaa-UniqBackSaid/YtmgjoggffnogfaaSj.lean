/- The law of a region that draws its order, with a way out by a panic. -/
import Derived.Test.YtmgjoggffnogfaaSg
namespace Go.Proofs.Ytmgjoggffnogfaa
set_option linter.unusedSimpArgs false
set_option linter.unusedVariables false
open Go.RowKit
def calmZ (Z : List PanicEntry → World → Prop) : Exit → Act → World → Prop := fun e _ w => match e with | .panic c => Z c w | _ => False
def wpStepZ (Z : List PanicEntry → World → Prop) (P : Program) (ops : List Oper) (o : Oper) (K : Act → World → Prop) (a : Act) (w : World) : Prop :=
  if Region.wanted o (yielded ops.toArray a.tmps) then o.wp P a w K (calmZ Z) else K (a.put o.dst undef) w
theorem wpStepZ_of {Z : List PanicEntry → World → Prop} {P : Program} {ops : List Oper} {o : Oper} {K : Act → World → Prop} {a : Act} {w : World} (h : ∀ K' : Act → World → Prop, (∀ a w, K a w → K' a w) → if Region.wanted o (yielded ops.toArray a.tmps) then o.wp P a w K' (calmZ Z) else K' (a.put o.dst undef) w) : wpStepZ Z P ops o K a w :=
  h K fun _ _ hk => hk
/-- An operation runs alike in two activations that agree on what it looks at. -/
theorem wpStepZ_carry {P : Program} {Z : List PanicEntry → World → Prop} {ops : List Oper} {o : Oper} {a b : Act} {w : World} {R : Value → World → Prop} {K : Act → World → Prop} {Q : Exit → Act → World → Prop}
    (hs : isSelect o.op = false) (hlook : ∀ t ∈ o.looksAt ops.toArray, a.tmps.getD t undef = b.tmps.getD t undef ∧ a.tmps[t]? = b.tmps[t]?)
    (hin : ∀ d, o.dst = some d → d < a.tmps.size)
    (h : wpStepZ Z P ops o (fun a' w' => a'.defers = a.defers ∧ R (outOf o a') w') a w) (hK : ∀ v w', R (match o.dst with | some _ => v | none => undef) w' → K (b.put o.dst v) w') (hZ : ∀ c w', Z c w' → Q (.panic c) b w') :
    (if Region.wanted o (yielded ops.toArray b.tmps) then o.wp P b w K Q ∨ (o.asks P b w ∧ LetsOut Q) else K (b.put o.dst undef) w) := by
  have hrun : execOp b.eval o = execOp a.eval o := execOp_congr o (fun cs bl he => by rw [he] at hs; cases hs) fun x hx => by
    cases x with
    | tmp t =>
      refine ((hlook t ?_).1).symm
      exact List.mem_append_left _ (List.mem_filterMap.2 ⟨.tmp t, by simpa using hx, rfl⟩)
    | const v => rfl
    | global g => rfl
    | func f => rfl
  have hw : Region.wanted o (yielded ops.toArray b.tmps) = Region.wanted o (yielded ops.toArray a.tmps) := by
    unfold Region.wanted
    cases hg : o.guard with
    | none => rfl
    | some gw =>
      obtain ⟨g, want⟩ := gw
      have hy : yielded ops.toArray b.tmps g = yielded ops.toArray a.tmps g := by
        unfold yielded
        cases ht : (ops.toArray[g]?).bind (·.dst) with
        | none => rfl
        | some t =>
          have hmem : t ∈ o.looksAt ops.toArray := by
            unfold Oper.looksAt
            rw [hg]
            simp only [ht]
            exact List.mem_append_right _ (by simp)
          simp [(hlook t hmem).2]
      simp only [hy]
  have out : ∀ v : Value, outOf o (a.put o.dst v) = (match o.dst with | some _ => v | none => undef) := fun v => by
    cases hd' : o.dst with
    | none => simp [outOf, hd']
    | some d =>
      have := outOf_put (v := v) hin d hd'
      rw [hd'] at this
      exact this
  rw [hw]
  unfold wpStepZ at h
  split
  · rename_i hwant
    rw [if_pos hwant] at h
    refine .inl ?_
    unfold Oper.wp at h ⊢
    rw [hrun]
    generalize (execOp a.eval o).run P w = r at h ⊢
    cases r with
    | ok n w' =>
      cases n <;> simp only [Oper.upon, calmZ] at h ⊢
      case value v => exact hK v w' (by rw [← out]; exact h.2)
      case skip => exact hK undef w' (by rw [← out]; exact h.2)
      case defer d =>
        have h1 : (d :: a.defers) = a.defers := by
          have := h.1
          rwa [show ({ a with defers := d :: a.defers } : Act).put o.dst undef = ({ a with defers := d :: a.defers } : Act).put o.dst undef from rfl, show (({ a with defers := d :: a.defers } : Act).put o.dst undef).defers = d :: a.defers by cases o.dst <;> rfl] at this
        exact absurd (congrArg List.length h1) (by simp)
      case enter f args =>
        refine Calls.mono h fun e w'' he => ?_
        cases e with
        | returned v => exact hK v w'' (by rw [← out]; exact he.2)
        | panicked c => exact hZ _ _ he
        | outgrown => obtain ⟨_, _, hf⟩ := he; exact hf.elim
      case row row args => exact Rows.mono h fun v w'' he => hK v w'' (by rw [← out]; exact he.2)
    | halt x w' =>
      cases x <;> simp only [Oper.upon, calmZ] at h ⊢
      exact hZ _ _ h
  · rename_i hwant
    rw [if_neg hwant] at h
    exact hK undef w (by rw [← out]; exact h.2)
/-- A region that draws its order; an operation may panic with what Z says. -/
theorem region_ogZ (Z : List PanicEntry → World → Prop) {P : Program} {id : Nat} {ops : List Oper} {Q : Exit → Act → World → Prop} {a : Act} {w : World} (A : List (List Nat)) (E : World) (I : PH) (ro ms : List PH)
    (D : Nat → Value → PH → Prop) (MS : (Nat → Bool) → (Nat → Value) → PH → List PH → Prop)
    (hm : P.follows .mixedOrders = true) (chk : ogOk ops A a.tmps.size = true)
    (hS : Sat E I (ro ++ ms) w) (hMS : MS (fun _ => false) (fun _ => undef) I ms) (mono : ∀ i v I J, PH.le I J → D i v I → D i v J)
    (step : ∀ i, i < ops.length → ∀ (L : Nat → Bool) (vals : Nat → Value) (J : PH) (ns : List PH) (w' : World), L i = false → (∀ j, j < ops.length → L j = true → ∀ k ∈ A.getD j [], L k = true) → (∀ j ∈ A.getD i [], L j = true ∧ D j (vals j) J) → I.le J → Sat E J (ro ++ ns) w' → MS L vals J ns →
      wpStepZ Z P ops (opAt ops i) (fun a' w'' => a'.defers = a.defers ∧ ∃ (J' : PH) (ns' : List PH), J.le J' ∧ Sat E J' (ro ++ ns') w'' ∧ D i (outOf (opAt ops i) a') J' ∧ MS (upd L i true) (upd vals i (outOf (opAt ops i) a')) J' ns') (textL ops vals a i) w')
    (hZ : ∀ c (b : Act) w', b.defers = a.defers → Z c w' → Q (.panic c) b w')
    (fin : ∀ (vals : Nat → Value) (J : PH) (ns : List PH) (w' : World), I.le J → (∀ j, j < ops.length → D j (vals j) J) → Sat E J (ro ++ ns) w' → (∃ L, (∀ j, j < ops.length → L j = true) ∧ MS L vals J ns) → Q .normal (textL ops vals a ops.length) w') :
    (Code.region id ops.toArray true).wp P Q a w := by
  refine wp_region_any hm ?_
  have key : ∀ (fuel : Nat) (listed : Array Bool) (L : Nat → Bool) (vals : Nat → Value) (J : PH) (ns : List PH) (w' : World), listed.size = ops.length → (∀ j, j < ops.length → listed.getD j false = L j) →
      (∀ k, k < ops.length → L k = true → ∀ j ∈ directs (opAt ops k), L j = true) → I.le J → (∀ j, L j = true → D j (vals j) J) → Sat E J (ro ++ ns) w' → MS L vals J ns →
      ((List.range ops.length).filter fun j => !L j).length ≤ fuel → wpAny P .any ops.toArray Q fuel listed (actL ops L vals a ops.length) w' := by
    intro fuel
    induction fuel with
    | zero =>
      intro listed L vals J ns w' hsz hL hdown hJ hD hs hms hf
      have hall : ∀ j, j < ops.length → L j = true := by
        intro j hj
        have h0 : ((List.range ops.length).filter fun j => !L j) = [] := List.eq_nil_of_length_eq_zero (by omega)
        rw [List.filter_eq_nil_iff] at h0
        have := h0 j (List.mem_range.2 hj)
        simpa using this
      have hr : Region.ready .any ops.toArray listed = [] := by
        refine List.eq_nil_iff_forall_not_mem.2 fun j hj => ?_
        obtain ⟨h1, o, ho, _⟩ := mem_ready.1 hj
        have hjl : j < ops.length := by simpa using (Array.getElem?_eq_some_iff.1 ho).1
        have h2 := hL j hjl
        rw [hall j hjl] at h2
        have : listed.getD j true = true := by
          have hjs : j < listed.size := by omega
          simp [hjs] at h2 ⊢
          exact h2
        rw [this] at h1; cases h1
      refine ⟨hr, ?_⟩
      rw [actL_congr (L' := fun _ => true) _ hall]
      exact fin vals J ns w' hJ (fun j hj => hD j (hall j hj)) hs ⟨L, hall, hms⟩
    | succ fuel ih =>
      intro listed L vals J ns w' hsz hL hdown hJ hD hs hms hf
      refine ⟨fun hr => ?_, fun i hi => ?_⟩
      · have hall : ∀ j, j < ops.length → L j = true := by
          intro j
          induction j using Nat.strongRecOn with
          | _ j ihj =>
            intro hj
            cases hb : L j with
            | true => rfl
            | false =>
              exfalso
              have hrow := (og_row chk hj).1
              unfold ogRow at hrow
              simp only [Bool.and_eq_true, List.all_eq_true] at hrow
              have hmem : j ∈ Region.ready .any ops.toArray listed := by
                refine mem_ready.2 ⟨?_, opAt ops j, by simpa using opAt_some hj, fun e he hbd => ?_⟩
                · have h2 := hL j hj
                  rw [hb] at h2
                  have hjs : j < listed.size := by omega
                  simp [hjs] at h2 ⊢
                  exact h2
                · have hin : e.on ∈ directs (opAt ops j) := List.mem_map.2 ⟨e, List.mem_filter.2 ⟨by simpa using he, hbd⟩, rfl⟩
                  have hlt : e.on < j := by simpa using hrow.1.1.1 e.on hin
                  rw [hL e.on (by omega)]
                  exact ihj e.on hlt (by omega)
              rw [hr] at hmem; cases hmem
        rw [actL_congr (L' := fun _ => true) _ hall]
        exact fin vals J ns w' hJ (fun j hj => hD j (hall j hj)) hs ⟨L, hall, hms⟩
      · obtain ⟨h1, o, ho, hedges⟩ := mem_ready.1 hi
        have hil : i < ops.length := by simpa using (Array.getElem?_eq_some_iff.1 ho).1
        have hoe : o = opAt ops i := by
          have := opAt_some hil
          have h2 : ops[i]? = some o := by simpa using ho
          rw [this] at h2; injection h2 with h2; exact h2.symm
        subst hoe
        have his : i < listed.size := by omega
        have hLi : L i = false := by
          rw [← hL i hil]
          simp [his] at h1 ⊢
          exact h1
        have hdir : ∀ j ∈ directs (opAt ops i), L j = true := by
          intro j hj
          obtain ⟨e, he, rfl⟩ := List.mem_map.1 hj
          obtain ⟨he1, he2⟩ := List.mem_filter.1 he
          have := hedges e (by simpa using he1) he2
          have hrow := (og_row chk hil).1
          unfold ogRow at hrow
          simp only [Bool.and_eq_true, List.all_eq_true] at hrow
          have hlt : e.on < i := by simpa using hrow.1.1.1 e.on hj
          rw [← hL e.on (by omega)]; exact this
        have hanc := og_anc chk hdown i hil hdir
        have hrow := (og_row chk hil).1
        unfold ogRow at hrow
        simp only [Bool.and_eq_true] at hrow
        have hst := step i hil L vals J ns w' hLi (fun j hj hLj => og_anc chk hdown j hj (hdown j hj hLj)) (fun j hj => ⟨hanc j hj, hD j (hanc j hj)⟩) hJ hs hms
        have hsel : isSelect (opAt ops i).op = false := by simpa using hrow.1.2
        have hds : ∀ d, (opAt ops i).dst = some d → d < (textL ops vals a i).tmps.size := by
          intro d hd
          rw [actL_size]
          have := hrow.2
          rw [dstAt_eq hil, hd] at this
          simpa using this
        have := wpStepZ_carry (b := actL ops L vals a ops.length) (Q := Q) (K := wpAny P .any ops.toArray Q fuel (listed.setIfInBounds i true)) (R := fun v w'' => ∃ (J' : PH) (ns' : List PH), J.le J' ∧ Sat E J' (ro ++ ns') w'' ∧ D i v J' ∧ MS (upd L i true) (upd vals i v) J' ns')
          hsel (fun t ht => by
            have := looks_same (vals := vals) chk hdown hil hLi hanc ht
            exact ⟨by rw [Array.getD_eq_getD_getElem?, Array.getD_eq_getD_getElem?, this], this⟩) hds (by
            rw [show (textL ops vals a i).defers = a.defers from actL_defers i]
            exact hst) (fun v w'' hR => by
            obtain ⟨J', ns', hJ', hs', hD', hms'⟩ := hR
            have hput : (actL ops L vals a ops.length).put (opAt ops i).dst v = actL ops (upd L i true) (upd vals i (match (opAt ops i).dst with | some _ => v | none => undef)) a ops.length := by
              rw [actL_next i _ hLi (fun k d hne hd => og_unique chk hne hd) _ hil, dstAt_eq hil]
              cases (opAt ops i).dst <;> rfl
            rw [hput]
            refine ih _ _ _ J' ns' w'' (by simp [hsz]) (fun j hj => ?_) (fun k hk hLk j hj => ?_) (hJ.trans hJ') (fun j hj => ?_) hs' hms' ?_
            · by_cases hji : j = i
              · subst hji; rw [upd_self]; simp [his]
              · rw [upd_ne _ _ hji, ← hL j hj, getD_set_ne false (Ne.symm hji)]
            · by_cases hji : j = i
              · subst hji; exact upd_self _ _ _
              · rw [upd_ne _ _ hji]
                by_cases hki : k = i
                · subst hki; exact hdir j hj
                · rw [upd_ne _ _ hki] at hLk; exact hdown k hk hLk j hj
            · by_cases hji : j = i
              · subst hji; rw [upd_self]; exact hD'
              · rw [upd_ne _ _ hji] at hj ⊢
                exact mono _ _ _ _ hJ' (hD j hj)
            · have hmem : i ∈ (List.range ops.length).filter fun j => !L j := List.mem_filter.2 ⟨List.mem_range.2 hil, by simp [hLi]⟩
              have hlt : ((List.range ops.length).filter fun j => !(upd L i true) j).length < ((List.range ops.length).filter fun j => !L j).length := by
                have e : ((List.range ops.length).filter fun j => !(upd L i true) j) = ((List.range ops.length).filter fun j => !L j).filter fun j => j != i := by
                  rw [List.filter_filter]
                  refine List.filter_congr fun j _ => ?_
                  by_cases hji : j = i
                  · subst hji; simp [upd]
                  · simp [upd, hji]
                rw [e]
                exact List.length_filter_lt_length_iff_exists.2 ⟨i, hmem, by simp⟩
              omega) (fun c w'' hz => hZ c _ w'' (actL_defers _) hz)
        unfold wpOp
        rw [ho]
        exact this
  have h0 : actL ops (fun _ => false) (fun _ => undef) a ops.length = a := by
    have : ∀ n, actL ops (fun _ => false) (fun _ => undef) a n = a := fun n => by
      induction n with
      | zero => rfl
      | succ n ihn => unfold actL; simpa using ihn
    exact this _
  have hk := key ops.toArray.size (Array.replicate ops.toArray.size false) (fun _ => false) (fun _ => undef) I ms { w with drawn := w.drawn + 1 } (by simp) (fun j hj => by simp [hj]) (fun _ _ h => by cases h) (PH.le.refl _) (fun _ h => by cases h) (hS.drawn _) hMS (by
    refine Nat.le_trans (List.length_filter_le _ _) (by simp))
  rw [h0] at hk
  exact hk
end Go.Proofs.Ytmgjoggffnogfaa
