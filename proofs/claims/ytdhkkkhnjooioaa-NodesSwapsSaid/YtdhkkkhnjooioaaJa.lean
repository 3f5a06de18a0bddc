import Derived.Test.YtdhkkkhnjooioaaHv
import Derived.Test.YtdhkkkhnjooioaaFa
import Derived.OwnWalkIn
import Derived.TacticsInMore
import Derived.LoopNIn
import Derived.LoopIn
import Derived.Outline
import Derived.Shelf.Abstract
import Derived.Shelf.RegionOpen
namespace Go.Proofs.Ytdhkkkhnjooioaa.G
set_option linter.unusedSimpArgs false
set_option linter.unusedVariables false
theorem nodesFrom_append : ∀ (a b : List (Option Nd)) (k : Nat), nodesFrom k (a ++ b) = nodesFrom k a ++ nodesFrom (k + a.length) b
  | [], b, k => rfl
  | none :: a, b, k => by
    rw [List.cons_append]
    show nodesFrom (k + 1) (a ++ b) = nodesFrom (k + 1) a ++ nodesFrom (k + (a.length + 1)) b
    rw [nodesFrom_append a b, show k + 1 + a.length = k + (a.length + 1) by omega]
  | some n :: a, b, k => by
    rw [List.cons_append]
    show (k, n) :: nodesFrom (k + 1) (a ++ b) = ((k, n) :: nodesFrom (k + 1) a) ++ nodesFrom (k + (a.length + 1)) b
    rw [nodesFrom_append a b, show k + 1 + a.length = k + (a.length + 1) by omega]; rfl
def Pl.upto (p : Pl) (k : Nat) : List (Nat × Nd) := nodesFrom 0 (p.slots.take k)
def Pl.all (p : Pl) : List (Nat × Nd) := nodesFrom 0 p.slots
def one1 (k : Nat) : Option Nd → List (Nat × Nd)
  | none => []
  | some n => [(k, n)]
theorem Pl.upto_succ (p : Pl) {k : Nat} {x : Option Nd} (h : p.slots[k]? = some x) : p.upto (k + 1) = p.upto k ++ one1 k x := by
  have hk := (List.getElem?_eq_some_iff.1 h).1
  unfold Pl.upto
  rw [List.take_add_one, h, nodesFrom_append]
  simp only [Option.toList_some, List.length_take, Nat.zero_add, Nat.min_eq_left (Nat.le_of_lt hk)]
  cases x <;> rfl
theorem Pl.upto_all (p : Pl) : p.upto p.slots.length = p.all := by unfold Pl.upto Pl.all; rw [List.take_length]
theorem Pl.upto_split (p : Pl) {k : Nat} {n : Nd} (h : p.slots[k]? = some (some n)) : ∃ suf, p.all = p.upto k ++ (k, n) :: suf := by
  have hk := (List.getElem?_eq_some_iff.1 h).1
  have hd : p.slots = p.slots.take k ++ p.slots.drop k := (List.take_append_drop k p.slots).symm
  have he : p.slots[k] = some n := by rw [List.getElem?_eq_getElem hk] at h; injection h
  refine ⟨nodesFrom (k + 1) (p.slots.drop (k + 1)), ?_⟩
  unfold Pl.all Pl.upto
  conv => lhs; rw [hd]
  rw [nodesFrom_append, List.drop_eq_getElem_cons hk, he, List.length_take, Nat.min_eq_left (Nat.le_of_lt hk), Nat.zero_add]
  rfl
theorem Pl.mem_all {p : Pl} {i : Nat} {n : Nd} : (i, n) ∈ p.all ↔ p.slots[i]? = some (some n) := by unfold Pl.all; rw [mem_nodesFrom]; simp
end Go.Proofs.Ytdhkkkhnjooioaa.G
namespace Go.Proofs.Ytdhkkkhnjooioaa
set_option linter.unusedSimpArgs false
set_option linter.unusedVariables false
open Go.ChangeShapes Go.WideShapes Go.ChangeAt Go.RowKit Go.Shelf
set_option linter.unusedVariables false
attribute [local go_sem] Oper.semAt_some
attribute [local go_sem ↓] wpIn_at_zero wpIn_at_succ
abbrev Kof (I0 : PH) : Nat → Prop := fun b => I0 b ≠ none
theorem Kof.le {I0 : PH} {w W : World} (h : Keeps (Kof I0) w W) (hw : I0.le (heapOf w)) : I0.le (heapOf W) := fun b o hb => (h.2 b (show I0 b ≠ none by rw [hb]; simp)).trans (hw b o hb)
theorem Kof.lt {I0 : PH} {w : World} (hw : I0.le (heapOf w)) {b : Nat} (h : Kof I0 b) : b < w.heap.size := by
  cases hb : I0 b with
  | none => exact absurd hb h
  | some o => exact (Array.getElem?_eq_some_iff.1 (hw b o hb)).1
set_option maxHeartbeats 1000000 in
theorem ids1_iter (w : World) (I0 : PH) (P Bp : Nat) (p : G.Pl) (hI : I0.le (heapOf w)) (hbox : I0.at Bp 0 = some (vPt P)) (hR : PoolR I0 P p) :
    Iter Try.prog 84 #[.pointer (some ⟨Bp, 0, none⟩)] (fun k : Nat × G.Nd => #[nv k.1]) (Kof I0) p.all w := by
  intro l J Jx W hk hJ hJx hY h0
  have hst : Stays (Kof I0) (Kof I0) W W := ⟨fun _ h => h, fun _ h => .inl h⟩
  have h00 := h0 _ W (Below.refl _ _) hst
  clear h0
  have hY' := hY (Kof I0)
  clear hY
  obtain ⟨hfit, A, cA, T, cT, vF, nF, cF, hvF, h1, h2, h3, h4, h5, h6, h7⟩ := hR
  have hW : ∀ W', Keeps (Kof I0) w W' → W'.cell? ⟨Bp, 0, none⟩ = some (vPt P) ∧ W'.cell? ⟨P, 1, none⟩ = some (.slice (some ⟨A, 0, none⟩) p.slots.length cA) ∧ W'.cell? ⟨P, 2, none⟩ = some (.slice (some ⟨T, 0, none⟩) p.slots.length cT) ∧ ∀ i x, p.slots[i]? = some x → W'.cell? ⟨T, i, none⟩ = some (.bool x.isSome) := fun W' hk' => by
    have hle := Kof.le hk' hI
    exact ⟨heap_at hle hbox, heap_at hle h2, heap_at hle h3, fun i x hx => heap_at hle (h7 i x hx)⟩
  have hn2 : p.slots.length ≤ 1048577 := by have := hfit.len; have := hfit.room; omega
  have hup := p.upto_all
  generalize hn : p.slots.length = n at *
  have HW := Lib.hid hW
  have HY := Lib.hid hY'
  have HJ := Lib.hid h00
  have Hk := Lib.hid hk
  have Hn := Lib.hid hn
  have Hst := Lib.hid hst
  have Hup := Lib.hid hup
  obtain ⟨c0, c1, c2, _⟩ := hW W hk
  clear hW hY' h00 hk hn hst hbox h1 h2 h3 h4 h5 h6 h7 hI hup hfit
  refine callsIn_of_wp Try.func84 rfl trivial ?_ rfl
  simp only [Try.ntmps84, List.size_toArray, List.length_cons, List.length_nil, Nat.reduceAdd, Nat.reduceSub, Array.replicate_succ, Array.replicate_zero, List.push_toArray, List.append_toArray, List.nil_append, List.cons_append]
  gi_wp2
  gi_loopw [11] (fun i wr => ∃ k : Nat, k ≤ n ∧ i = .int .i64 k ∧ J (Kof I0) (p.upto k) wr ∧ Keeps (Kof I0) w wr ∧ W.heap.size ≤ wr.heap.size) (fun i _ => (n - intOf i).toNat)
  case atStart => exact ⟨0, by omega, rfl, HJ.out, Hk.out, Nat.le_refl _⟩
  case round =>
    obtain ⟨k, hkn, rfl, hj, hkp, hwr⟩ := hrel
    clear c0 c1 c2
    obtain ⟨c0, c1, c2, c3a⟩ := HW.out wr hkp
    have Hkp := Lib.hid hkp
    have Hj := Lib.hid hj
    have Hwr := Lib.hid hwr
    clear hkp hj hwr
    by_cases hlt : k < n
    · obtain ⟨x, hx⟩ : ∃ x, p.slots[k]? = some x := ⟨_, List.getElem?_eq_getElem (by rw [Hn.out]; exact hlt)⟩
      have c3 := c3a k x hx
      have hsucc := p.upto_succ hx
      have Hsucc := Lib.hid hsucc
      have ki : (k : Int) < (n : Int) := by omega
      have k0 : (0 : Int) ≤ (k : Int) := by omega
      have Hx := Lib.hid hx
      clear c3a hsucc
      cases x with
      | none =>
        have c3 : wr.cell? ⟨T, k, none⟩ = some (.bool false) := c3
        gi_wp2
        refine ⟨fun _ h => (by cases h), ?_⟩
        gi_wp2
        go_roundw
        case rel => exact ⟨k + 1, by omega, by go_num, by rw [Hsucc.out]; simpa [G.one1] using Hj.out, Hkp.out, Hwr.out⟩
        case measure => simp [intOf]; omega
      | some nd =>
        have c3 : wr.cell? ⟨T, k, none⟩ = some (.bool true) := c3
        obtain ⟨suf, hsuf⟩ := p.upto_split Hx.out
        obtain ⟨fn, tmps, assign, body, hy, hR⟩ := YieldAt.wide 0 (HY.out (p.upto k) (k, nd) suf wr hsuf Hj.out)
        have Hsuf := Lib.hid hsuf
        clear hsuf
        gi_wp2
        refine ⟨rfl, ?_⟩
        refine hR.mono ?_
        clear hR hy
        rintro e W3 (⟨rfl, hJ3, hk3⟩ | ⟨rfl, hJx3, _⟩)
        · have Hz := Lib.hid (Nat.le_trans Hwr.out hk3.1)
          have Hk3 := Lib.hid (Hkp.out.trans hk3)
          have HJ3 := Lib.hid hJ3
          clear hJ3 hk3
          gi_wp2
          go_roundw
          case rel => exact ⟨k + 1, by omega, by go_num, by rw [Hsucc.out]; simpa [G.one1] using HJ3.out, Hk3.out, Hz.out⟩
          case measure => simp [intOf]; omega
        · have HJx3 := Lib.hid hJx3
          clear hJx3
          gi_wp2
          refine bodyPost_ret (results_none rfl _ _ _) rfl ?_
          exact ⟨⟨_, rfl⟩, _, ⟨fun _ h => h, fun _ h => .inl h⟩, .inr ⟨p.upto k ++ [(k, nd)], ⟨suf, by rw [Hsuf.out]; simp⟩, HJx3.out⟩⟩
    · have hkn' : k = n := by omega
      subst hkn'
      gi_wp2
      go_end0
      exact ⟨⟨_, rfl⟩, _, ⟨fun _ h => h, fun _ h => .inl h⟩, .inl (by rw [← Hup.out]; exact Hj.out)⟩
end Go.Proofs.Ytdhkkkhnjooioaa
