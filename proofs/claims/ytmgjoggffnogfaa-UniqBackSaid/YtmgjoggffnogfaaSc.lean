/- A region that draws its order: each operation shown once, from what its forerunners have left. -/
import Derived.Test.YtmgjoggffnogfaaSa
import Derived.Deep.RegionHeld3
namespace Go.Proofs.Ytmgjoggffnogfaa
set_option linter.unusedSimpArgs false
set_option linter.unusedVariables false
open Go.RowKit
def directs (o : Oper) : List Nat := (o.after.toList.filter fun e => Region.binds .any e).map (·.on)
def opAt (ops : List Oper) (i : Nat) : Oper := ops.getD i default
def dstAt (ops : List Oper) (i : Nat) : Option Tmp := (ops[i]?).bind (·.dst)
/-- For each operation those that stand before it in every order. -/
def ancOf (ops : List Oper) : List (List Nat) := ops.foldl (fun acc o => acc ++ [((directs o).flatMap fun k => k :: acc.getD k []).eraseDups]) []
def isSelect : Op → Bool
  | .select _ _ => true
  | .defer _ => true
  | _ => false
def ogRow (ops : List Oper) (A : List (List Nat)) (sz i : Nat) : Bool :=
  (directs (opAt ops i)).all (fun k => decide (k < i)) &&
  (A.getD i []).all (fun j => (directs (opAt ops i)).contains j || (directs (opAt ops i)).any fun k => (A.getD k []).contains j) &&
  !isSelect (opAt ops i).op &&
  (match dstAt ops i with | some d => decide (d < sz) | none => true)
def ogPair (ops : List Oper) (A : List (List Nat)) (i j : Nat) : Bool :=
  i == j ||
  (match dstAt ops j with
   | none => true
   | some d => dstAt ops i != some d && (!((opAt ops i).looksAt ops.toArray).contains d || (decide (j < i) && (A.getD i []).contains j) || (decide (i < j) && (A.getD j []).contains i)))
def ogOk (ops : List Oper) (A : List (List Nat)) (sz : Nat) : Bool :=
  (List.range ops.length).all fun i => ogRow ops A sz i && (List.range ops.length).all fun j => ogPair ops A i j
/-- The activation when the operations of L below n have run. -/
def actL (ops : List Oper) (L : Nat → Bool) (vals : Nat → Value) (a : Act) : Nat → Act
  | 0 => a
  | k + 1 => if L k then (actL ops L vals a k).put (dstAt ops k) (vals k) else actL ops L vals a k
def upd {α : Type} (f : Nat → α) (i : Nat) (v : α) : Nat → α := fun j => if j = i then v else f j
theorem upd_self {α : Type} (f : Nat → α) (i : Nat) (v : α) : upd f i v i = v := by simp [upd]
theorem upd_ne {α : Type} (f : Nat → α) {i j : Nat} (v : α) (h : j ≠ i) : upd f i v j = f j := by simp [upd, h]
section
variable {ops : List Oper} {L L' : Nat → Bool} {vals : Nat → Value} {a : Act}
theorem actL_size : ∀ n, (actL ops L vals a n).tmps.size = a.tmps.size
  | 0 => rfl
  | n + 1 => by
    unfold actL
    split
    · cases dstAt ops n <;> simp [Act.put, actL_size n]
    · exact actL_size n
theorem put_get_ne (a : Act) {d : Option Tmp} {t : Tmp} (v : Value) (h : d ≠ some t) : (a.put d v).tmps[t]? = a.tmps[t]? := by
  cases d with
  | none => rfl
  | some d =>
    have hne : d ≠ t := fun e => h (by rw [e])
    simp [Act.put, Array.getElem?_setIfInBounds_ne hne]
theorem actL_miss (t : Tmp) : ∀ n, (∀ k, k < n → L k = true → dstAt ops k ≠ some t) → (actL ops L vals a n).tmps[t]? = a.tmps[t]?
  | 0, _ => rfl
  | n + 1, h => by
    unfold actL
    split
    · rename_i hL
      rw [put_get_ne _ _ (h n (by omega) hL)]
      exact actL_miss t n fun k hk => h k (by omega)
    · exact actL_miss t n fun k hk => h k (by omega)
theorem actL_hit (t : Tmp) (i : Nat) (ht : t < a.tmps.size) (hi : dstAt ops i = some t) (hL : L i = true) (hu : ∀ k, k ≠ i → dstAt ops k ≠ some t) : ∀ n, i < n → (actL ops L vals a n).tmps[t]? = some (vals i)
  | 0, h => by omega
  | n + 1, h => by
    unfold actL
    by_cases hn : n = i
    · subst hn
      rw [if_pos hL, hi]
      simp [Act.put, actL_size, ht]
    · have ih := actL_hit t i ht hi hL hu n (by omega)
      split
      · rw [put_get_ne _ _ (hu n hn)]; exact ih
      · exact ih
theorem actL_low (i : Nat) (b : Bool) (v : Value) : ∀ n, n ≤ i → actL ops (upd L i b) (upd vals i v) a n = actL ops L vals a n
  | 0, _ => rfl
  | n + 1, h => by
    unfold actL
    rw [actL_low i b v n (by omega), upd_ne _ _ (by omega), upd_ne _ _ (by omega)]
theorem actL_next (i : Nat) (v : Value) (hi : L i = false) (hu : ∀ k d, k ≠ i → dstAt ops i = some d → dstAt ops k ≠ some d) : ∀ n, i < n →
    actL ops (upd L i true) (upd vals i v) a n = (actL ops L vals a n).put (dstAt ops i) v
  | 0, h => by omega
  | n + 1, h => by
    by_cases hn : n = i
    · subst hn
      unfold actL
      rw [upd_self, upd_self, if_pos rfl, actL_low _ _ _ _ (Nat.le_refl _), hi]
      rfl
    · have ih := actL_next i v hi hu n (by omega)
      show (if upd L i true n = true then (actL ops (upd L i true) (upd vals i v) a n).put (dstAt ops n) (upd vals i v n) else actL ops (upd L i true) (upd vals i v) a n) = (if L n = true then (actL ops L vals a n).put (dstAt ops n) (vals n) else actL ops L vals a n).put (dstAt ops i) v
      rw [upd_ne _ _ hn, upd_ne _ _ hn, ih]
      split
      · exact (Act.put_comm _ _ _ fun d hd => fun he => hu n d hn hd he)
      · rfl
theorem actL_defers : ∀ n, (actL ops L vals a n).defers = a.defers
  | 0 => rfl
  | n + 1 => by
    unfold actL
    split
    · cases dstAt ops n <;> simp [Act.put, actL_defers n]
    · exact actL_defers n
end
/-- The activation in the order of the text, below n. -/
abbrev textL (ops : List Oper) (vals : Nat → Value) (a : Act) (n : Nat) : Act := actL ops (fun _ => true) vals a n
def outOf (o : Oper) (a : Act) : Value := match o.dst with | some d => a.tmps.getD d undef | none => undef
def calm : Exit → Act → World → Prop := fun _ _ _ => False
def wpStep (P : Program) (ops : List Oper) (o : Oper) (K : Act → World → Prop) (a : Act) (w : World) : Prop :=
  if Region.wanted o (yielded ops.toArray a.tmps) then o.wp P a w K calm else K (a.put o.dst undef) w
section
variable {P : Program} {Q : Exit → Act → World → Prop} {ops : List Oper} {A : List (List Nat)} {a0 : Act}
theorem og_row {sz : Nat} (h : ogOk ops A sz = true) {i : Nat} (hi : i < ops.length) : ogRow ops A sz i = true ∧ ∀ j, j < ops.length → ogPair ops A i j = true := by
  unfold ogOk at h
  rw [List.all_eq_true] at h
  have := h i (List.mem_range.2 hi)
  rw [Bool.and_eq_true, List.all_eq_true] at this
  exact ⟨this.1, fun j hj => this.2 j (List.mem_range.2 hj)⟩
theorem og_dst_lt {i : Nat} {d : Tmp} (h : dstAt ops i = some d) : i < ops.length := by
  unfold dstAt at h
  rcases Nat.lt_or_ge i ops.length with hl | hl
  · exact hl
  · rw [List.getElem?_eq_none hl] at h; cases h
theorem og_unique {sz : Nat} (h : ogOk ops A sz = true) {i k : Nat} {d : Tmp} (hne : k ≠ i) (hi : dstAt ops i = some d) : dstAt ops k ≠ some d := by
  intro hk
  have := (og_row h (og_dst_lt hk)).2 i (og_dst_lt hi)
  unfold ogPair at this
  simp only [hi, hk, Bool.or_eq_true, Bool.and_eq_true] at this
  rcases this with h1 | h1
  · exact hne (by simpa using h1)
  · simp at h1
/-- What stands before an operation has run when it may run. -/
theorem og_anc {sz : Nat} (h : ogOk ops A sz = true) {L : Nat → Bool} (hdown : ∀ k, k < ops.length → L k = true → ∀ j ∈ directs (opAt ops k), L j = true) :
    ∀ i, i < ops.length → (∀ j ∈ directs (opAt ops i), L j = true) → ∀ j ∈ A.getD i [], L j = true := by
  intro i
  induction i using Nat.strongRecOn with
  | _ i ih =>
    intro hi hd j hj
    have hr := (og_row h hi).1
    unfold ogRow at hr
    simp only [Bool.and_eq_true, List.all_eq_true] at hr
    obtain ⟨⟨⟨h1, h2⟩, _⟩, _⟩ := hr
    have := h2 j hj
    rw [Bool.or_eq_true] at this
    rcases this with h3 | h3
    · exact hd j (by simpa using h3)
    · rw [List.any_eq_true] at h3
      obtain ⟨k, hk, hjk⟩ := h3
      have hki : k < i := by simpa using h1 k hk
      have hkl : L k = true := hd k hk
      exact ih k hki (by omega) (hdown k (by omega) hkl) j (by simpa using hjk)
end
theorem og_lt {ops : List Oper} {A : List (List Nat)} {sz : Nat} (h : ogOk ops A sz = true) : ∀ i, i < ops.length → ∀ j ∈ A.getD i [], j < i := by
  intro i
  induction i using Nat.strongRecOn with
  | _ i ih =>
    intro hi j hj
    have hr := (og_row h hi).1
    unfold ogRow at hr
    simp only [Bool.and_eq_true, List.all_eq_true] at hr
    obtain ⟨⟨⟨h1, h2⟩, _⟩, _⟩ := hr
    have := h2 j hj
    rw [Bool.or_eq_true] at this
    rcases this with h3 | h3
    · simpa using h1 j (by simpa using h3)
    · rw [List.any_eq_true] at h3
      obtain ⟨k, hk, hjk⟩ := h3
      have hki : k < i := by simpa using h1 k hk
      have := ih k hki (by omega) j (by simpa using hjk)
      omega
theorem wpStep_mono {P : Program} {ops : List Oper} {o : Oper} {K K' : Act → World → Prop} {a : Act} {w : World} (h : wpStep P ops o K a w) (hk : ∀ a w, K a w → K' a w) : wpStep P ops o K' a w := by
  unfold wpStep at h ⊢
  split
  · rename_i hw; rw [if_pos hw] at h; exact Oper.wp_mono hk h
  · rename_i hw; rw [if_neg hw] at h; exact hk _ _ h
theorem wpStep_of {P : Program} {ops : List Oper} {o : Oper} {K : Act → World → Prop} {a : Act} {w : World} (h : ∀ K' : Act → World → Prop, (∀ a w, K a w → K' a w) → if Region.wanted o (yielded ops.toArray a.tmps) then o.wp P a w K' calm else K' (a.put o.dst undef) w) : wpStep P ops o K a w :=
  h K fun _ _ hk => hk
theorem outOf_put {o : Oper} {a : Act} {v : Value} (h : ∀ d, o.dst = some d → d < a.tmps.size) : ∀ d, o.dst = some d → outOf o (a.put o.dst v) = v := by
  intro d hd
  unfold outOf
  rw [hd]
  have := h d hd
  simp [Act.put, this]
/-- An operation runs alike in two activations that agree on what it looks at. -/
theorem wpStep_carry {P : Program} {ops : List Oper} {o : Oper} {a b : Act} {w : World} {R : Value → World → Prop} {K : Act → World → Prop} {Q : Exit → Act → World → Prop}
    (hs : isSelect o.op = false) (hlook : ∀ t ∈ o.looksAt ops.toArray, a.tmps.getD t undef = b.tmps.getD t undef ∧ a.tmps[t]? = b.tmps[t]?)
    (hin : ∀ d, o.dst = some d → d < a.tmps.size)
    (h : wpStep P ops o (fun a' w' => a'.defers = a.defers ∧ R (outOf o a') w') a w) (hK : ∀ v w', R (match o.dst with | some _ => v | none => undef) w' → K (b.put o.dst v) w') :
    (if Region.wanted o (yielded ops.toArray b.tmps) then o.wp P b w K Q ∨ (o.asks P b w ∧ LetsOut Q) else K (b.put o.dst undef) w) := by
  have hrun : execOp b.eval o = execOp a.eval o := execOp_congr o (fun cs bl he => by rw [he] at hs; cases hs) fun x hx => by
    cases x with
    | tmp t =>
      refine ((hlook t ?_).1).symm
      exact List.mem_append_left _ (List.mem_filterMap.2 ⟨.tmp t, by simpa using hx, rfl⟩)
    | const v => rfl
    | global g => rfl
    | func f => rfl
  have hw : Region.wanted o (yielded ops.toArray b.tmps) = Region.wanted o (yielded ops.toArray a.tmps) := by
    unfold Region.wanted
    cases hg : o.guard with
    | none => rfl
    | some gw =>
      obtain ⟨g, want⟩ := gw
      have hy : yielded ops.toArray b.tmps g = yielded ops.toArray a.tmps g := by
        unfold yielded
        cases ht : (ops.toArray[g]?).bind (·.dst) with
        | none => rfl
        | some t =>
          have hmem : t ∈ o.looksAt ops.toArray := by
            unfold Oper.looksAt
            rw [hg]
            simp only [ht]
            exact List.mem_append_right _ (by simp)
          simp [(hlook t hmem).2]
      simp only [hy]
  have out : ∀ v : Value, outOf o (a.put o.dst v) = (match o.dst with | some _ => v | none => undef) := fun v => by
    cases hd' : o.dst with
    | none => simp [outOf, hd']
    | some d =>
      have := outOf_put (v := v) hin d hd'
      rw [hd'] at this
      exact this
  rw [hw]
  unfold wpStep at h
  split
  · rename_i hwant
    rw [if_pos hwant] at h
    refine .inl ?_
    unfold Oper.wp at h ⊢
    rw [hrun]
    generalize (execOp a.eval o).run P w = r at h ⊢
    cases r with
    | ok n w' =>
      cases n <;> simp only [Oper.upon, calm] at h ⊢
      case value v => exact hK v w' (by rw [← out]; exact h.2)
      case skip => exact hK undef w' (by rw [← out]; exact h.2)
      case defer d =>
        have h1 : (d :: a.defers) = a.defers := by
          have := h.1
          rwa [show ({ a with defers := d :: a.defers } : Act).put o.dst undef = ({ a with defers := d :: a.defers } : Act).put o.dst undef from rfl, show (({ a with defers := d :: a.defers } : Act).put o.dst undef).defers = d :: a.defers by cases o.dst <;> rfl] at this
        exact absurd (congrArg List.length h1) (by simp)
      case enter f args =>
        refine Calls.mono h fun e w'' he => ?_
        cases e with
        | returned v => exact hK v w'' (by rw [← out]; exact he.2)
        | panicked c => exact he.elim
        | outgrown => obtain ⟨_, _, hf⟩ := he; exact hf.elim
      case row row args => exact Rows.mono h fun v w'' he => hK v w'' (by rw [← out]; exact he.2)
    | halt x w' => cases x <;> simp only [Oper.upon, calm] at h ⊢
  · rename_i hwant
    rw [if_neg hwant] at h
    exact hK undef w (by rw [← out]; exact h.2)
theorem actL_congr {ops : List Oper} {L L' : Nat → Bool} {vals : Nat → Value} {a : Act} : ∀ n, (∀ k, k < n → L k = L' k) → actL ops L vals a n = actL ops L' vals a n
  | 0, _ => rfl
  | n + 1, h => by
    unfold actL
    rw [actL_congr n (fun k hk => h k (by omega)), h n (by omega)]
theorem opAt_some {ops : List Oper} {i : Nat} (h : i < ops.length) : ops[i]? = some (opAt ops i) := by
  unfold opAt
  simp [h]
theorem dstAt_eq {ops : List Oper} {i : Nat} (h : i < ops.length) : dstAt ops i = (opAt ops i).dst := by
  unfold dstAt
  rw [opAt_some h]; rfl
theorem looks_same {ops : List Oper} {A : List (List Nat)} {a : Act} {L : Nat → Bool} {vals : Nat → Value} (chk : ogOk ops A a.tmps.size = true)
    (hdown : ∀ k, k < ops.length → L k = true → ∀ j ∈ directs (opAt ops k), L j = true) {i : Nat} (hi : i < ops.length) (hLi : L i = false) (hanc : ∀ j ∈ A.getD i [], L j = true)
    {t : Tmp} (ht : t ∈ (opAt ops i).looksAt ops.toArray) : (textL ops vals a i).tmps[t]? = (actL ops L vals a ops.length).tmps[t]? := by
  by_cases hk : ∃ k, dstAt ops k = some t
  · obtain ⟨k, hk⟩ := hk
    have hkl := og_dst_lt hk
    have uniq : ∀ k', k' ≠ k → dstAt ops k' ≠ some t := fun k' hne => og_unique chk hne hk
    have missT : i ≤ k → (textL ops vals a i).tmps[t]? = a.tmps[t]? := fun hle => actL_miss t i fun k' hk' _ => uniq k' (by omega)
    have missL : L k = false → (actL ops L vals a ops.length).tmps[t]? = a.tmps[t]? := fun hf => actL_miss t _ fun k' _ hL' => uniq k' (by rintro rfl; rw [hf] at hL'; cases hL')
    by_cases hik : k = i
    · subst hik
      rw [missT (Nat.le_refl _), missL hLi]
    · have hp := (og_row chk hi).2 k hkl
      unfold ogPair at hp
      simp only [hk, Bool.or_eq_true, Bool.and_eq_true] at hp
      rcases hp with h1 | ⟨_, h1⟩
      · exact absurd (by simpa using h1) (Ne.symm hik)
      · rcases h1 with (h1 | ⟨h1, h2⟩) | ⟨h1, h2⟩
        · simp at h1; exact absurd ht h1
        · have hki : k < i := by simpa using h1
          have hLk := hanc k (by simpa using h2)
          have hts : t < a.tmps.size := by
            have := (og_row chk hkl).1
            unfold ogRow at this
            simp only [hk, Bool.and_eq_true] at this
            simpa using this.2
          rw [actL_hit t k hts hk rfl uniq i hki, actL_hit t k hts hk hLk uniq _ hkl]
        · have hik' : i < k := by simpa using h1
          have hLk : L k = false := by
            cases hb : L k with
            | false => rfl
            | true =>
              have := og_anc chk hdown k hkl (hdown k hkl hb) i (by simpa using h2)
              rw [hLi] at this; cases this
          rw [missT (by omega), missL hLk]
  · have hn : ∀ k, dstAt ops k ≠ some t := fun k h => hk ⟨k, h⟩
    rw [actL_miss t i fun k _ _ => hn k, actL_miss t _ fun k _ _ => hn k]
/-- A region that draws its order. D i: what operation i's value is good for; MS: the pieces, by what has run; ro: pieces that no operation writes. -/
theorem region_og {P : Program} {id : Nat} {ops : List Oper} {Q : Exit → Act → World → Prop} {a : Act} {w : World} (A : List (List Nat)) (E : World) (I : PH) (ro ms : List PH)
    (D : Nat → Value → PH → Prop) (MS : (Nat → Bool) → (Nat → Value) → PH → List PH → Prop)
    (hm : P.follows .mixedOrders = true) (chk : ogOk ops A a.tmps.size = true)
    (hS : Sat E I (ro ++ ms) w) (hMS : MS (fun _ => false) (fun _ => undef) I ms) (mono : ∀ i v I J, PH.le I J → D i v I → D i v J)
    (step : ∀ i, i < ops.length → ∀ (L : Nat → Bool) (vals : Nat → Value) (J : PH) (ns : List PH) (w' : World), L i = false → (∀ j, j < ops.length → L j = true → ∀ k ∈ A.getD j [], L k = true) → (∀ j ∈ A.getD i [], L j = true ∧ D j (vals j) J) → I.le J → Sat E J (ro ++ ns) w' → MS L vals J ns →
      wpStep P ops (opAt ops i) (fun a' w'' => a'.defers = a.defers ∧ ∃ (J' : PH) (ns' : List PH), J.le J' ∧ Sat E J' (ro ++ ns') w'' ∧ D i (outOf (opAt ops i) a') J' ∧ MS (upd L i true) (upd vals i (outOf (opAt ops i) a')) J' ns') (textL ops vals a i) w')
    (fin : ∀ (vals : Nat → Value) (J : PH) (ns : List PH) (w' : World), I.le J → (∀ j, j < ops.length → D j (vals j) J) → Sat E J (ro ++ ns) w' → (∃ L, (∀ j, j < ops.length → L j = true) ∧ MS L vals J ns) → Q .normal (textL ops vals a ops.length) w') :
    (Code.region id ops.toArray true).wp P Q a w := by
  refine wp_region_any hm ?_
  have key : ∀ (fuel : Nat) (listed : Array Bool) (L : Nat → Bool) (vals : Nat → Value) (J : PH) (ns : List PH) (w' : World), listed.size = ops.length → (∀ j, j < ops.length → listed.getD j false = L j) →
      (∀ k, k < ops.length → L k = true → ∀ j ∈ directs (opAt ops k), L j = true) → I.le J → (∀ j, L j = true → D j (vals j) J) → Sat E J (ro ++ ns) w' → MS L vals J ns →
      ((List.range ops.length).filter fun j => !L j).length ≤ fuel → wpAny P .any ops.toArray Q fuel listed (actL ops L vals a ops.length) w' := by
    intro fuel
    induction fuel with
    | zero =>
      intro listed L vals J ns w' hsz hL hdown hJ hD hs hms hf
      have hall : ∀ j, j < ops.length → L j = true := by
        intro j hj
        have h0 : ((List.range ops.length).filter fun j => !L j) = [] := List.eq_nil_of_length_eq_zero (by omega)
        rw [List.filter_eq_nil_iff] at h0
        have := h0 j (List.mem_range.2 hj)
        simpa using this
      have hr : Region.ready .any ops.toArray listed = [] := by
        refine List.eq_nil_iff_forall_not_mem.2 fun j hj => ?_
        obtain ⟨h1, o, ho, _⟩ := mem_ready.1 hj
        have hjl : j < ops.length := by simpa using (Array.getElem?_eq_some_iff.1 ho).1
        have h2 := hL j hjl
        rw [hall j hjl] at h2
        have : listed.getD j true = true := by
          have hjs : j < listed.size := by omega
          simp [hjs] at h2 ⊢
          exact h2
        rw [this] at h1; cases h1
      refine ⟨hr, ?_⟩
      rw [actL_congr (L' := fun _ => true) _ hall]
      exact fin vals J ns w' hJ (fun j hj => hD j (hall j hj)) hs ⟨L, hall, hms⟩
    | succ fuel ih =>
      intro listed L vals J ns w' hsz hL hdown hJ hD hs hms hf
      refine ⟨fun hr => ?_, fun i hi => ?_⟩
      · have hall : ∀ j, j < ops.length → L j = true := by
          intro j
          induction j using Nat.strongRecOn with
          | _ j ihj =>
            intro hj
            cases hb : L j with
            | true => rfl
            | false =>
              exfalso
              have hrow := (og_row chk hj).1
              unfold ogRow at hrow
              simp only [Bool.and_eq_true, List.all_eq_true] at hrow
              have hmem : j ∈ Region.ready .any ops.toArray listed := by
                refine mem_ready.2 ⟨?_, opAt ops j, by simpa using opAt_some hj, fun e he hbd => ?_⟩
                · have h2 := hL j hj
                  rw [hb] at h2
                  have hjs : j < listed.size := by omega
                  simp [hjs] at h2 ⊢
                  exact h2
                · have hin : e.on ∈ directs (opAt ops j) := List.mem_map.2 ⟨e, List.mem_filter.2 ⟨by simpa using he, hbd⟩, rfl⟩
                  have hlt : e.on < j := by simpa using hrow.1.1.1 e.on hin
                  rw [hL e.on (by omega)]
                  exact ihj e.on hlt (by omega)
              rw [hr] at hmem; cases hmem
        rw [actL_congr (L' := fun _ => true) _ hall]
        exact fin vals J ns w' hJ (fun j hj => hD j (hall j hj)) hs ⟨L, hall, hms⟩
      · obtain ⟨h1, o, ho, hedges⟩ := mem_ready.1 hi
        have hil : i < ops.length := by simpa using (Array.getElem?_eq_some_iff.1 ho).1
        have hoe : o = opAt ops i := by
          have := opAt_some hil
          have h2 : ops[i]? = some o := by simpa using ho
          rw [this] at h2; injection h2 with h2; exact h2.symm
        subst hoe
        have his : i < listed.size := by omega
        have hLi : L i = false := by
          rw [← hL i hil]
          simp [his] at h1 ⊢
          exact h1
        have hdir : ∀ j ∈ directs (opAt ops i), L j = true := by
          intro j hj
          obtain ⟨e, he, rfl⟩ := List.mem_map.1 hj
          obtain ⟨he1, he2⟩ := List.mem_filter.1 he
          have := hedges e (by simpa using he1) he2
          have hrow := (og_row chk hil).1
          unfold ogRow at hrow
          simp only [Bool.and_eq_true, List.all_eq_true] at hrow
          have hlt : e.on < i := by simpa using hrow.1.1.1 e.on hj
          rw [← hL e.on (by omega)]; exact this
        have hanc := og_anc chk hdown i hil hdir
        have hrow := (og_row chk hil).1
        unfold ogRow at hrow
        simp only [Bool.and_eq_true] at hrow
        have hst := step i hil L vals J ns w' hLi (fun j hj hLj => og_anc chk hdown j hj (hdown j hj hLj)) (fun j hj => ⟨hanc j hj, hD j (hanc j hj)⟩) hJ hs hms
        have hsel : isSelect (opAt ops i).op = false := by simpa using hrow.1.2
        have hds : ∀ d, (opAt ops i).dst = some d → d < (textL ops vals a i).tmps.size := by
          intro d hd
          rw [actL_size]
          have := hrow.2
          rw [dstAt_eq hil, hd] at this
          simpa using this
        have := wpStep_carry (b := actL ops L vals a ops.length) (Q := Q) (K := wpAny P .any ops.toArray Q fuel (listed.setIfInBounds i true)) (R := fun v w'' => ∃ (J' : PH) (ns' : List PH), J.le J' ∧ Sat E J' (ro ++ ns') w'' ∧ D i v J' ∧ MS (upd L i true) (upd vals i v) J' ns')
          hsel (fun t ht => by
            have := looks_same (vals := vals) chk hdown hil hLi hanc ht
            exact ⟨by rw [Array.getD_eq_getD_getElem?, Array.getD_eq_getD_getElem?, this], this⟩) hds (by
            rw [show (textL ops vals a i).defers = a.defers from actL_defers i]
            exact hst) (fun v w'' hR => by
            obtain ⟨J', ns', hJ', hs', hD', hms'⟩ := hR
            have hput : (actL ops L vals a ops.length).put (opAt ops i).dst v = actL ops (upd L i true) (upd vals i (match (opAt ops i).dst with | some _ => v | none => undef)) a ops.length := by
              rw [actL_next i _ hLi (fun k d hne hd => og_unique chk hne hd) _ hil, dstAt_eq hil]
              cases (opAt ops i).dst <;> rfl
            rw [hput]
            refine ih _ _ _ J' ns' w'' (by simp [hsz]) (fun j hj => ?_) (fun k hk hLk j hj => ?_) (hJ.trans hJ') (fun j hj => ?_) hs' hms' ?_
            · by_cases hji : j = i
              · subst hji; rw [upd_self]; simp [his]
              · rw [upd_ne _ _ hji, ← hL j hj, getD_set_ne false (Ne.symm hji)]
            · by_cases hji : j = i
              · subst hji; exact upd_self _ _ _
              · rw [upd_ne _ _ hji]
                by_cases hki : k = i
                · subst hki; exact hdir j hj
                · rw [upd_ne _ _ hki] at hLk; exact hdown k hk hLk j hj
            · by_cases hji : j = i
              · subst hji; rw [upd_self]; exact hD'
              · rw [upd_ne _ _ hji] at hj ⊢
                exact mono _ _ _ _ hJ' (hD j hj)
            · have hmem : i ∈ (List.range ops.length).filter fun j => !L j := List.mem_filter.2 ⟨List.mem_range.2 hil, by simp [hLi]⟩
              have hlt : ((List.range ops.length).filter fun j => !(upd L i true) j).length < ((List.range ops.length).filter fun j => !L j).length := by
                have e : ((List.range ops.length).filter fun j => !(upd L i true) j) = ((List.range ops.length).filter fun j => !L j).filter fun j => j != i := by
                  rw [List.filter_filter]
                  refine List.filter_congr fun j _ => ?_
                  by_cases hji : j = i
                  · subst hji; simp [upd]
                  · simp [upd, hji]
                rw [e]
                exact List.length_filter_lt_length_iff_exists.2 ⟨i, hmem, by simp⟩
              omega)
        unfold wpOp
        rw [ho]
        exact this
  have h0 : actL ops (fun _ => false) (fun _ => undef) a ops.length = a := by
    have : ∀ n, actL ops (fun _ => false) (fun _ => undef) a n = a := fun n => by
      induction n with
      | zero => rfl
      | succ n ihn => unfold actL; simpa using ihn
    exact this _
  have hk := key ops.toArray.size (Array.replicate ops.toArray.size false) (fun _ => false) (fun _ => undef) I ms { w with drawn := w.drawn + 1 } (by simp) (fun j hj => by simp [hj]) (fun _ _ h => by cases h) (PH.le.refl _) (fun _ h => by cases h) (hS.drawn _) hMS (by
    refine Nat.le_trans (List.length_filter_le _ _) (by simp))
  rw [h0] at hk
  exact hk
/-- A variable that the region makes (operation i) and fills (operation s): its piece. -/
structure Bx where
  i : Nat
  s : Nat
  T : TypeId
  z : Array Value
  C : Array Value → PH → Prop
def Bx.st (b : Bx) (L : Nat → Bool) (vals : Nat → Value) (J : PH) (m : PH) : Prop :=
  if L b.i = true then ∃ X cs, vals b.i = .pointer (some ⟨X, 0, none⟩) ∧ m = PH.one X (.cells cs b.T) ∧ cs.size = b.z.size ∧ (if L b.s = true then b.C cs J else cs = b.z) else m = fun _ => none
theorem Bx.st_other {b : Bx} {L : Nat → Bool} {vals : Nat → Value} {J : PH} {m : PH} {k : Nat} (v : Value) (hi : k ≠ b.i) (hs : k ≠ b.s) : b.st (upd L k true) (upd vals k v) J m = b.st L vals J m := by
  unfold Bx.st
  rw [upd_ne _ _ (Ne.symm hi), upd_ne _ _ (Ne.symm hs), upd_ne _ _ (Ne.symm hi)]
inductive Bxs (L : Nat → Bool) (vals : Nat → Value) (J : PH) : List Bx → List PH → Prop
  | nil : Bxs L vals J [] []
  | cons {b bs m ms} : b.st L vals J m → Bxs L vals J bs ms → Bxs L vals J (b :: bs) (m :: ms)
end Go.Proofs.Ytmgjoggffnogfaa
