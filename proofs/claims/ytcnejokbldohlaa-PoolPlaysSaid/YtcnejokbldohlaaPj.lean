/- Package pool: what every pool keeps, and the methods' contracts over it. -/
import Derived.Test.YtcnejokbldohlaaPi
namespace Go.Proofs.Ytcnejokbldohlaa
set_option linter.unusedSimpArgs false
set_option linter.unusedVariables false
open Go.ChangeShapes Go.WideShapes Go.ChangeAt Go.RowKit
set_option linter.unusedVariables false
/-- What every pool that New made keeps. -/
structure Pl.inv (s : Pl) : Prop where
  len : s.at_.length = s.taken.length
  pos : 0 < s.taken.length
  t0 : s.taken.getD 0 false = false
  r1 : 1 ≤ s.room
  r2 : s.room ≤ 1048576
  lim : (s.at_.length : Int) ≤ s.room + 1
  free : ∀ x ∈ s.free, 0 < x ∧ x < s.at_.length ∧ s.taken.getD x.toNat false = false
  nodup : s.free.Nodup
  many : s.many = (s.taken.count true : Nat)
  total : s.taken.count true + s.free.length + 1 = s.taken.length
theorem Pl.inv.ok {s : Pl} (h : s.inv) : s.ok := by
  have := h.lim; have := h.r2; have := h.len; have := h.total
  exact ⟨h.len, h.pos, by omega, by omega⟩
theorem Pl.inv.m0 {s : Pl} (h : s.inv) : 0 ≤ s.many := by rw [h.many]; omega
theorem Pl.inv.m2 {s : Pl} (h : s.inv) : s.many ≤ 2000000 := by
  have := h.lim; have := h.r2; have := h.len; have := h.total; have := h.many; omega
theorem count_pos_of_get {l : List Bool} {k : Nat} (h : l.getD k false = true) : 0 < l.count true := by
  rw [List.count_pos_iff]
  rw [List.getD_eq_getElem?_getD] at h
  cases hk : l[k]? with
  | none => rw [hk] at h; cases h
  | some b => rw [hk] at h; simp at h; subst h; exact List.mem_of_getElem? hk
theorem Pl.inv.m1 {s : Pl} (h : s.inv) (id : Int) (hi : s.is id = true) : 0 < s.many := by
  unfold Pl.is at hi
  simp only [Bool.and_eq_true] at hi
  have := count_pos_of_get hi.2
  rw [h.many]; omega
theorem count_set_true {l : List Bool} {k : Nat} (hk : k < l.length) (h : l.getD k false = false) : (l.set k true).count true = l.count true + 1 := by
  induction l generalizing k with
  | nil => simp at hk
  | cons b l ih =>
    cases k with
    | zero => simp at h; subst h; simp
    | succ k =>
      have := ih (k := k) (by simpa using hk) (by simpa using h)
      simp only [List.set_cons_succ, List.count_cons, this]
      omega
theorem count_set_false {l : List Bool} {k : Nat} (h : l.getD k false = true) : (l.set k false).count true + 1 = l.count true := by
  induction l generalizing k with
  | nil => simp at h
  | cons b l ih =>
    cases k with
    | zero => simp at h; subst h; simp
    | succ k =>
      have := ih (k := k) (by simpa using h)
      simp only [List.set_cons_succ, List.count_cons]
      omega
theorem getD_set_bool (l : List Bool) (k j : Nat) (b : Bool) (hk : k < l.length) : (l.set k b).getD j false = if j = k then b else l.getD j false := by
  simp only [List.getD_eq_getElem?_getD, List.getElem?_set]
  by_cases h : k = j
  · subst h; simp [hk]
  · rw [if_neg h, if_neg (Ne.symm h)]
/-- Laying a node into a free slot. -/
theorem Pl.inv_lay {s : Pl} (k : Nat) (n : Nd) (hk0 : 0 < k) (hk : k < s.at_.length) (len : s.at_.length = s.taken.length) (t0 : s.taken.getD 0 false = false) (r1 : 1 ≤ s.room) (r2 : s.room ≤ 1048576) (lim : (s.at_.length : Int) ≤ s.room + 1)
    (hf : s.taken.getD k false = false) (free : ∀ x ∈ s.free, 0 < x ∧ x < s.at_.length ∧ s.taken.getD x.toNat false = false ∧ x.toNat ≠ k) (nodup : s.free.Nodup) (many : s.many = (s.taken.count true : Nat)) (total : s.taken.count true + s.free.length + 2 = s.taken.length) : (s.lay k n).inv := by
  have hc := count_set_true (l := s.taken) (k := k) (by omega) hf
  refine ⟨by simp [Pl.lay, len], by simp [Pl.lay]; omega, ?_, r1, r2, by simpa [Pl.lay] using lim, ?_, nodup, ?_, ?_⟩
  · show (s.taken.set k true).getD 0 false = false
    rw [getD_set_bool _ _ _ _ (by omega), if_neg (by omega)]; exact t0
  · intro x hx
    obtain ⟨h1, h2, h3, h4⟩ := free x hx
    refine ⟨h1, by simpa [Pl.lay] using h2, ?_⟩
    show (s.taken.set k true).getD x.toNat false = false
    rw [getD_set_bool _ _ _ _ (by omega), if_neg h4]; exact h3
  · show s.many + 1 = _
    rw [show (s.lay k n).taken = s.taken.set k true from rfl, hc, many]; omega
  · show (s.taken.set k true).count true + s.free.length + 1 = (s.taken.set k true).length
    rw [hc, List.length_set]; omega
theorem getLastD_mem {l : List Int} (h : l ≠ []) : l.getLastD 0 ∈ l := by
  rw [List.getLastD_eq_getLast?, List.getLast?_eq_some_getLast h]; exact List.getLast_mem h
theorem last_not_mem {l : List Int} (h : l ≠ []) (hn : l.Nodup) : l.getLastD 0 ∉ l.dropLast := by
  have e : l = l.dropLast ++ [l.getLastD 0] := by
    rw [List.getLastD_eq_getLast?, List.getLast?_eq_some_getLast h]; exact (List.dropLast_concat_getLast h).symm
  rw [e] at hn
  rw [List.nodup_append] at hn
  exact fun hm => hn.2.2 _ hm _ (by simp) rfl
theorem Pl.inv.take {s : Pl} (h : s.inv) (n : Nd) : (s.take n).inv := by
  unfold Pl.take Pl.slot
  by_cases hf : s.free = []
  · rw [if_pos hf]
    by_cases hr : s.room < s.at_.length
    · rw [if_pos hr]; exact h
    · rw [if_neg hr]
      have h1 := h.len; have h2 := h.total; have h3 := h.lim
      rw [hf] at h2
      have ht : (s.taken ++ [false]).count true = s.taken.count true := by simp
      refine Pl.inv_lay s.at_.length n (by have := h.pos; omega) (by simp) (by simp [h1]) ?_ h.r1 h.r2 (by simp; omega) ?_ (by rw [hf]; simp) (by rw [hf]; simp) (by rw [h.many]; simp) (by simp at h2 ⊢; rw [hf]; simp; omega)
      · show (s.taken ++ [false]).getD 0 false = false
        have := h.t0; have hp := h.pos
        rw [List.getD_eq_getElem?_getD] at this ⊢
        rw [List.getElem?_append_left hp]; exact this
      · rw [h1]; simp
  · rw [if_neg hf]
    obtain ⟨h1, h2, h3⟩ := h.free _ (getLastD_mem hf)
    have hl : 0 < s.free.length := List.length_pos_iff.2 hf
    refine Pl.inv_lay (s := { s with free := s.free.dropLast }) _ n (by omega) (by show _ < s.at_.length; omega) h.len h.t0 h.r1 h.r2 h.lim h3 ?_ ?_ h.many ?_
    · intro x hx
      obtain ⟨k1, k2, k3⟩ := h.free x (List.dropLast_subset _ hx)
      refine ⟨k1, k2, k3, fun e => last_not_mem hf h.nodup ?_⟩
      rw [show s.free.getLastD 0 = x from by omega]; exact hx
    · exact h.nodup.sublist (List.dropLast_sublist _)
    · have := h.total
      show s.taken.count true + s.free.dropLast.length + 2 = s.taken.length
      rw [List.length_dropLast]; omega
theorem Pl.inv.give {s : Pl} (h : s.inv) (id : Int) : (s.give id).inv := by
  unfold Pl.give
  cases hv : s.is id
  · rw [if_neg (by simp)]; exact h
  · rw [if_pos rfl]
    obtain ⟨k, rfl, hk0, hk⟩ := Pl.is_at h.ok hv
    have hg : s.taken.getD k false = true := by unfold Pl.is at hv; simpa using (Bool.and_eq_true_iff.1 hv).2
    have hc := count_set_false hg
    have hl := h.len
    refine ⟨by simp [hl], by simpa using h.pos, ?_, h.r1, h.r2, by simpa using h.lim, ?_, ?_, ?_, ?_⟩
    · show (s.taken.set k false).getD 0 false = false
      rw [getD_set_bool _ _ _ _ (by omega), if_neg (by omega)]; exact h.t0
    · intro x hx
      simp only [List.mem_append, List.mem_singleton] at hx
      show 0 < x ∧ x < ((s.at_.set k Nd.zero).length : Int) ∧ (s.taken.set k false).getD x.toNat false = false
      rw [List.length_set, getD_set_bool _ _ _ _ (by omega)]
      rcases hx with hx | rfl
      · obtain ⟨k1, k2, k3⟩ := h.free x hx
        refine ⟨k1, k2, ?_⟩
        split
        · rfl
        · exact k3
      · exact ⟨by omega, by omega, by simp⟩
    · show (s.free ++ [(k : Int)]).Nodup
      rw [List.nodup_append]
      refine ⟨h.nodup, by simp, fun a ha b hb e => ?_⟩
      simp at hb
      subst hb; subst e
      have := (h.free _ ha).2.2
      simp only [Int.toNat_natCast] at this
      rw [hg] at this; cases this
    · show s.many - 1 = (((s.taken.set k false).count true : Nat) : Int)
      rw [h.many]; omega
    · show (s.taken.set k false).count true + (s.free ++ [(k : Int)]).length + 1 = (s.taken.set k false).length
      rw [List.length_set, List.length_append, List.length_singleton]
      have := h.total
      omega
theorem Pl.inv.set {s : Pl} (h : s.inv) (n : Nd) : (s.set n).inv := by
  unfold Pl.set
  split
  · exact ⟨by simpa using h.len, h.pos, h.t0, h.r1, h.r2, by simpa using h.lim, by simpa using h.free, h.nodup, h.many, h.total⟩
  · exact h
def Pl.new (room : Int) : Pl := ⟨room, [Nd.zero], [false], [], 0⟩
theorem Pl.inv_new {room : Int} (h1 : 1 ≤ room) (h2 : room ≤ 1048576) : (Pl.new room).inv :=
  ⟨rfl, by simp [Pl.new], rfl, h1, h2, by simp [Pl.new]; omega, by simp [Pl.new], by simp [Pl.new], by simp [Pl.new], by simp [Pl.new]⟩
/-- From the law's first world on only the pool's own blocks, which are new, have turned; the pool at g is s. -/
structure St (w0 w : World) (g : Nat) (F : List Nat) (s : Pl) : Prop where
  at_ : PoolAt w w0.heap.size g F s
  chg : Chg [] F w0 w
  inv : s.inv
theorem St.below {w0 w : World} {g : Nat} {F : List Nat} {s : Pl} (h : St w0 w g F s) : Below w0.heap.size w0 w := h.chg.nil_below
theorem PoolAt.lt {w : World} {base g : Nat} {F : List Nat} {s : Pl} (h : PoolAt w base g F s) : ∀ b ∈ F, b < w.heap.size := by
  obtain ⟨av, tv, fv, hb, hg, ha, ht, hf, rfl⟩ := h
  intro b hb'
  simp only [List.mem_cons, List.mem_append, Option.mem_toList] at hb'
  rcases hb' with rfl | (h1 | h1) | h1
  · exact hb.lt
  · exact (ha.lt _ h1).2
  · exact (ht.lt _ h1).2
  · exact (hf.lt _ h1).2
/-- Behind steps that touch nothing but blocks that are newer than the pool. -/
theorem St.more {w0 w w' : World} {g : Nat} {F : List Nat} {s : Pl} (h : St w0 w g F s) (hb : Below w.heap.size w w') : St w0 w' g F s :=
  ⟨h.at_.chg (Chg.of_below hb (F := [])) (fun b _ => by simp), h.chg.trans (Chg.of_below hb), h.inv⟩
/-- The end of a call that hands back v and leaves the pool s. -/
def StPost (w0 : World) (g : Nat) (v : Value) (s : Pl) (e : Ending) (w' : World) : Prop := ∃ F', e = .returned v ∧ St w0 w' g F' s
theorem StPost.of_pool {w0 w w' : World} {g : Nat} {F : List Nat} {s s' : Pl} {v : Value} {e : Ending} (h : St w0 w g F s) (hi : s'.inv) (hp : PoolPost w w0.heap.size g F v s' e w') : StPost w0 g v s' e w' := by
  obtain ⟨F', he, ha, hc⟩ := hp
  exact ⟨F', he, ha, h.chg.trans hc, hi⟩
theorem take_st {w0 w : World} {g : Nat} {F : List Nat} {s : Pl} (h : St w0 w g F s) (n : Nd) :
    Calls Try.prog 12 #[.pointer (some ⟨g, 0, none⟩), n.val] w (StPost w0 g (TakeV s) (s.take n)) :=
  (take_any w w0.heap.size g F s n h.at_ h.inv.ok (fun x hx => ⟨(h.inv.free x hx).1, (h.inv.free x hx).2.1⟩) h.chg.size h.inv.m0 h.inv.m2).mono fun _ _ hp => StPost.of_pool h (h.inv.take n) hp
theorem give_st {w0 w : World} {g : Nat} {F : List Nat} {s : Pl} (h : St w0 w g F s) (id : Int) :
    Calls Try.prog 20 #[.pointer (some ⟨g, 0, none⟩), .int .i64 id] w (StPost w0 g (.int .i64 (if s.is id = true then 0 else 5)) (s.give id)) :=
  (give_any w w0.heap.size g F s id h.at_ h.inv.ok h.chg.size (h.inv.m1 id) h.inv.m2).mono fun _ _ hp => StPost.of_pool h (h.inv.give id) hp
theorem set_st {w0 w : World} {g : Nat} {F : List Nat} {s : Pl} (h : St w0 w g F s) (n : Nd) :
    Calls Try.prog 34 #[.pointer (some ⟨g, 0, none⟩), n.val] w (StPost w0 g (.int .i64 (if s.is n.id = true then 0 else 5)) (s.set n)) :=
  (set_any w w0.heap.size g F s n h.at_ h.inv.ok).mono fun _ _ ⟨he, ha, hc⟩ => ⟨F, he, ha, h.chg.trans hc, h.inv.set n⟩
theorem at_st {w0 w : World} {g : Nat} {F : List Nat} {s : Pl} (h : St w0 w g F s) (id : Int) :
    Calls Try.prog 21 #[.pointer (some ⟨g, 0, none⟩), .int .i64 id] w (StPost w0 g (.tuple #[(s.node id).val, .bool (s.is id)]) s) :=
  (at_any w w0.heap.size g F s id h.at_ h.inv.ok).mono fun _ _ ⟨he, hb⟩ => ⟨F, he, h.more hb⟩
theorem len_st {w0 w : World} {g : Nat} {F : List Nat} {s : Pl} (h : St w0 w g F s) :
    Calls Try.prog 22 #[.pointer (some ⟨g, 0, none⟩)] w fun r w' => r = .returned (.int .i64 s.many) ∧ w = w' := len_any w _ g F s h.at_
theorem new_st (room : Int) (w : World) (h1 : 1 ≤ room) (h2 : room ≤ 1048576) :
    Calls Try.prog 11 #[.int .i64 room] w fun e w' => ∃ g F, e = .returned (.tuple #[.pointer (some ⟨g, 0, none⟩), .int .i64 0]) ∧ St w w' g F (Pl.new room) :=
  (new_any room w h1 h2).mono fun _ _ ⟨g, F, he, ha, hc⟩ => ⟨g, F, he, ha, hc, Pl.inv_new h1 h2⟩
end Go.Proofs.Ytcnejokbldohlaa
