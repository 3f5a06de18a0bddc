/- PoolPlays: the comparison of both pools, as a lemma of its own. -/
import Derived.Test.YtcnejokbldohlaaPzf
namespace Go.Proofs.Ytcnejokbldohlaa
set_option linter.unusedSimpArgs false
set_option linter.unusedVariables false
open Go.RowKit
/-- A new row of nodes that nobody writes any more. -/
def NLJ (J : PH) (v : Value) (l : List Nd) : Prop := ∃ A c, v = .slice A l.length c ∧ (0 < l.length → ∃ g, A = some ⟨g, 0, none⟩ ∧ Cells J g 0 (nds l))
theorem NLJ.le {I J : PH} {v : Value} {l : List Nd} (h : I.le J) (k : NLJ I v l) : NLJ J v l := by
  obtain ⟨A, c, rfl, h2⟩ := k
  exact ⟨A, c, rfl, fun h0 => by obtain ⟨g, rfl, h3⟩ := h2 h0; exact ⟨g, rfl, h3.le h⟩⟩
theorem newNL_J {E w w' : World} {J : PH} {ms : List PH} {l : List Nd} {e : Ending} (hS : Sat E J ms w) (h : NewNL w l e w') : ∃ v J', e = .returned v ∧ J.le J' ∧ NLJ J' v l ∧ Sat E J' ms w' := by
  obtain ⟨A, c, rfl, hc, hO, hb⟩ := h
  obtain ⟨J', hJ, hS', hnew⟩ := hS.grow hb
  refine ⟨_, J', rfl, hJ, ⟨A, c, rfl, fun h0 => ?_⟩, hS'⟩
  obtain ⟨g, cap, hv, hg, hlt, _, _, hcell, _⟩ := hO.form h0
  injection hv with hA
  refine ⟨g, hA, fun j u hj => ?_⟩
  have hjl : j < l.length * 5 := by rw [← hO.1]; exact (List.getElem?_eq_some_iff.1 hj).1
  have h1 := hcell j hjl
  rw [hj] at h1
  rw [Nat.zero_add]
  unfold World.cell? at h1
  unfold PH.at
  cases hw : w'.heap[g]? with
  | none => rw [hw] at h1; cases h1
  | some o =>
    rw [hnew g o hg hw]
    rw [hw] at h1
    cases o <;> first | (cases h1) | (simpa using h1)
theorem nds_len (l : List Nd) : (nds l).length = l.length * 5 := by
  induction l with
  | nil => rfl
  | cons a l ih => simp only [nds, List.flatMap_cons, List.length_append, List.length_cons] at ih ⊢; rw [ih]; simp [Nd.cells]; omega
theorem cells_blk {w : World} {B : Nat} {T : TypeId} {cs : Array Value} (h : Blk w B T cs) : Cells (heapOf w) B 0 cs.toList := fun j v hj => by
  unfold Blk at h
  unfold PH.at heapOf
  rw [h]
  simpa using hj
theorem at_cell {w : World} {b off : Nat} {v : Value} (h : w.cell? ⟨b, off, none⟩ = some v) : (heapOf w).at b off = some v := by
  unfold World.cell? at h
  unfold PH.at heapOf
  cases hw : w.heap[b]? with
  | none => rw [hw] at h; cases h
  | some o =>
    rw [hw] at h
    cases o <;> first | (cases h) | (simpa using h)
theorem NLJ.rl {E w : World} {J : PH} {ms : List PH} {A : Option Addr} {c : Nat} {l : List Nd} (hS : Sat E J ms w) (h : NLJ J (.slice A l.length c) l) : RL w w.heap.size 5 A l.length (nds l) := by
  obtain ⟨A', c', hv, h2⟩ := h
  injection hv with hA
  subst hA
  have hn := nds_len l
  refine ⟨hn, fun h0 => ?_⟩
  obtain ⟨g, rfl, hc⟩ := h2 h0
  have hget : ∀ k, k < l.length * 5 → w.cell? ⟨g, k, none⟩ = (nds l)[k]? := fun k hk => by
    have hk2 : k < (nds l).length := by rw [hn]; exact hk
    have h3 := List.getElem?_eq_getElem hk2
    rw [h3]
    have := heap_at hS.imm (hc k _ h3)
    rwa [Nat.zero_add] at this
  refine ⟨g, 0, rfl, ?_, fun k hk => by rw [Nat.zero_add]; exact hget k hk⟩
  have h5 := hget 0 (by omega)
  have h6 : 0 < (nds l).length := by omega
  rw [List.getElem?_eq_getElem h6] at h5
  unfold World.cell? at h5
  cases hw : w.heap[g]? with
  | none => rw [hw] at h5; cases h5
  | some o => exact (Array.getElem?_eq_some_iff.1 hw).1
set_option maxHeartbeats 8000000 in
set_option maxRecDepth 100000 in
theorem r16 (w0 : World) (g B Y Z : Nat) (many : Int) (isv : Bool) (nd : Nd) (r : Rf) (G1 : Option Addr) (e1 : Nat) (G2 : Option Addr) (e2 : Nat) (G3 : Option Addr) (e3 : Nat) (l : List Nd) (Q : Exit → Act → World → Prop) (x0 x1 x2 x3 x4 x5 x6 x8 x10 x11 x12 x18 x19 x20 x21 x22 x23 x24 x25 x26 x27 x28 x29 x30 x31 x32 x33 x34 x35 x36 x37 x38 x39 x40 x41 x42 x43 x44 x45 x46 x47 x48 x49 x50 x51 x52 x53 x54 x55 x56 x57 x58 x59 x60 x61 x62 x63 x64 x65 x66 x67 x68 x69 x70 x71 x72 x73 x74 x75 x76 x77 x78 x79 x80 x81 x82 x83 x84 x85 x86 x87 x88 x89 x90 x91 x92 x93 x94 x95 x96 x97 x98 x99 x100 x101 x102 x103 x104 x105 x106 x107 x108 x109 x110 x111 x112 x113 x114 x115 x116 x117 x118 x119 x120 x121 x122 x123 x124 x125 x126 x127 x128 x129 x130 x131 x132 x133 x134 x135 x136 x137 x138 x139 x140 x141 x142 : Value) (dfs : List Deferred)
    (hY : Cells (heapOf w0) Y 0 nd.cells) (hZ : Cells (heapOf w0) Z 0 nd.cells) (hl : l.length ≤ 4000000000)
    (hpool : Cells (heapOf w0) B 0 [.int .i64 r.room, .slice G1 r.nodes.length e1, .slice G2 r.taken.length e2, .slice G3 r.free.length e3])
    (CL : Hid (∀ w', Below w0.heap.size w0 w' → Calls Try.prog 22 #[.pointer (some ⟨g, 0, none⟩)] w' fun e w'' => e = .returned (.int .i64 many) ∧ w' = w''))
    (CR : Hid (∀ w', Below w0.heap.size w0 w' → Calls Try.prog 31 #[.pointer (some ⟨g, 0, none⟩)] w' fun e w'' => e = .returned (.int .i64 r.room) ∧ w' = w''))
    (RL_ : Hid (∀ w', Below w0.heap.size w0 w' → Calls Try.prog 30 #[r.val G1 e1 G2 e2 G3 e3] w' fun e w'' => e = .returned (.int .i64 many) ∧ Below w'.heap.size w' w''))
    (CA0 : ∀ w', Below w0.heap.size w0 w' → Calls Try.prog 13 #[.pointer (some ⟨g, 0, none⟩), .int .i64 99] w' (NewNL w' l))
    (RA0 : ∀ w', Below w0.heap.size w0 w' → Calls Try.prog 33 #[r.val G1 e1 G2 e2 G3 e3] w' (NewNL w' l))
    (hq : ∀ (vals : Nat → Value) (w' : World), vals 33 = .bool false → Below w0.heap.size w0 w' → Q .normal (textL (opsOf Try.f8 16) vals ⟨#[x0, x1, x2, x3, x4, x5, x6, .pointer (some ⟨g, 0, none⟩), x8, .pointer (some ⟨B, 0, none⟩), x10, x11, x12, .bool true, .pointer (some ⟨Y, 0, none⟩), .bool isv, .pointer (some ⟨Z, 0, none⟩), .bool isv, x18, x19, x20, x21, x22, x23, x24, x25, x26, x27, x28, x29, x30, x31, x32, x33, x34, x35, x36, x37, x38, x39, x40, x41, x42, x43, x44, x45, x46, x47, x48, x49, x50, x51, x52, x53, x54, x55, x56, x57, x58, x59, x60, x61, x62, x63, x64, x65, x66, x67, x68, x69, x70, x71, x72, x73, x74, x75, x76, x77, x78, x79, x80, x81, x82, x83, x84, x85, x86, x87, x88, x89, x90, x91, x92, x93, x94, x95, x96, x97, x98, x99, x100, x101, x102, x103, x104, x105, x106, x107, x108, x109, x110, x111, x112, x113, x114, x115, x116, x117, x118, x119, x120, x121, x122, x123, x124, x125, x126, x127, x128, x129, x130, x131, x132, x133, x134, x135, x136, x137, x138, x139, x140, x141, x142], dfs⟩ 34) w') :
    (Code.region 16 (opsOf Try.f8 16).toArray true).wp Try.prog Q ⟨#[x0, x1, x2, x3, x4, x5, x6, .pointer (some ⟨g, 0, none⟩), x8, .pointer (some ⟨B, 0, none⟩), x10, x11, x12, .bool true, .pointer (some ⟨Y, 0, none⟩), .bool isv, .pointer (some ⟨Z, 0, none⟩), .bool isv, x18, x19, x20, x21, x22, x23, x24, x25, x26, x27, x28, x29, x30, x31, x32, x33, x34, x35, x36, x37, x38, x39, x40, x41, x42, x43, x44, x45, x46, x47, x48, x49, x50, x51, x52, x53, x54, x55, x56, x57, x58, x59, x60, x61, x62, x63, x64, x65, x66, x67, x68, x69, x70, x71, x72, x73, x74, x75, x76, x77, x78, x79, x80, x81, x82, x83, x84, x85, x86, x87, x88, x89, x90, x91, x92, x93, x94, x95, x96, x97, x98, x99, x100, x101, x102, x103, x104, x105, x106, x107, x108, x109, x110, x111, x112, x113, x114, x115, x116, x117, x118, x119, x120, x121, x122, x123, x124, x125, x126, x127, x128, x129, x130, x131, x132, x133, x134, x135, x136, x137, x138, x139, x140, x141, x142], dfs⟩ w0 := by
  have hS : Sat w0 (heapOf w0) ([] ++ []) w0 := Sat.start w0
  have CA := Lib.hid (fun w' (J : PH) (ns : List PH) hb (hS : Sat w0 J ns w') => (CA0 w' hb).mono fun e w'' h => newNL_J hS h)
  have RA := Lib.hid (fun w' (J : PH) (ns : List PH) hb (hS : Sat w0 J ns w') => (RA0 w' hb).mono fun e w'' h => newNL_J hS h)
  have LS := Lib.hid (fun (w' : World) (J : PH) (ns : List PH) (A C : Option Addr) (ca cb : Nat) (h1 : NLJ J (.slice A l.length ca) l) (h2 : NLJ J (.slice C l.length cb) l) (hS : Sat w0 J ns w') => (lsame_any w' _ A C ca cb l.length l rfl (h1.rl hS) (h2.rl hS) hl).mono fun e w'' ⟨he, k, hw⟩ => (show e = Ending.returned (.bool true) ∧ Sat w0 J ns w'' from ⟨he, by subst hw; exact hS.drewN k⟩))
  clear CA0 RA0
  unfold Rf.val at RL_ RA
  unfold Nd.cells at hY hZ
  have hroom : (heapOf w0).at B 0 = some (.int .i64 r.room) := hpool 0 _ rfl
  have hi : (isv != isv) = false := by cases isv <;> rfl
  have hm : (many != many) = false := by simp
  have hr : (r.room != r.room) = false := by simp
  have hops : opsOf Try.f8 16 = opsOf Try.f8 16 := rfl
  conv at hops => rhs; simp [opsOf, Try.f8, regionIn]
  rw [hops] at hq ⊢
  clear hops
  refine region_fnV [[], [0], [0, 1], [0, 1, 2], [0, 1, 2], [0, 1, 2, 3, 4], [0, 1, 2, 3, 4, 5], [0, 1, 2, 3, 4, 5, 6], [0, 1, 2, 3, 4, 5, 6, 7], [0, 1, 2, 3, 4, 5, 6, 7], [0, 1, 2, 3, 4, 5, 6, 7, 8, 9], [0, 1, 2, 3, 4, 5, 6, 7, 8, 9, 10], [0, 1, 2, 3, 4, 5, 6, 7, 8, 9, 10, 11], [0, 1, 2, 3, 4, 5, 6, 7, 8, 9, 10, 11, 12], [0, 1, 2, 3, 4, 5, 6, 7, 8, 9, 10, 11, 12, 13], [0, 1, 2, 3, 4, 5, 6, 7, 8, 9, 10, 11, 12], [0, 1, 2, 3, 4, 5, 6, 7, 8, 9, 10, 11, 12, 13, 14, 15], [0, 1, 2, 3, 4, 5, 6, 7, 8, 9, 10, 11, 12, 13, 14, 15, 16], [0, 1, 2, 3, 4, 5, 6, 7, 8, 9, 10, 11, 12, 13, 14, 15, 16, 17], [0, 1, 2, 3, 4, 5, 6, 7, 8, 9, 10, 11, 12, 13, 14, 15, 16, 17, 18], [0, 1, 2, 3, 4, 5, 6, 7, 8, 9, 10, 11, 12, 13, 14, 15, 16, 17, 18, 19], [0, 1, 2, 3, 4, 5, 6, 7, 8, 9, 10, 11, 12, 13, 14, 15, 16, 17, 18, 19, 20], [0, 1, 2, 3, 4, 5, 6, 7, 8, 9, 10, 11, 12, 13, 14, 15, 16, 17, 18, 19], [0, 1, 2, 3, 4, 5, 6, 7, 8, 9, 10, 11, 12, 13, 14, 15, 16, 17, 18, 19, 22], [0, 1, 2, 3, 4, 5, 6, 7, 8, 9, 10, 11, 12, 13, 14, 15, 16, 17, 18, 19, 20, 21, 22, 23], [0, 1, 2, 3, 4, 5, 6, 7, 8, 9, 10, 11, 12, 13, 14, 15, 16, 17, 18, 19, 20, 21, 22, 23, 24], [0, 1, 2, 3, 4, 5, 6, 7, 8, 9, 10, 11, 12, 13, 14, 15, 16, 17, 18, 19, 20, 21, 22, 23, 24, 25], [0, 1, 2, 3, 4, 5, 6, 7, 8, 9, 10, 11, 12, 13, 14, 15, 16, 17, 18, 19, 20, 21, 22, 23, 24, 25, 26], [0, 1, 2, 3, 4, 5, 6, 7, 8, 9, 10, 11, 12, 13, 14, 15, 16, 17, 18, 19, 20, 21, 22, 23, 24, 25, 26, 27], [0, 1, 2, 3, 4, 5, 6, 7, 8, 9, 10, 11, 12, 13, 14, 15, 16, 17, 18, 19, 20, 21, 22, 23, 24, 25, 26], [0, 1, 2, 3, 4, 5, 6, 7, 8, 9, 10, 11, 12, 13, 14, 15, 16, 17, 18, 19, 20, 21, 22, 23, 24, 25, 26, 27, 28, 29], [0, 1, 2, 3, 4, 5, 6, 7, 8, 9, 10, 11, 12, 13, 14, 15, 16, 17, 18, 19, 20, 21, 22, 23, 24, 25, 26, 27, 28, 29, 30], [0, 1, 2, 3, 4, 5, 6, 7, 8, 9, 10, 11, 12, 13, 14, 15, 16, 17, 18, 19, 20, 21, 22, 23, 24, 25, 26, 27, 28, 29, 30, 31], [0, 1, 2, 3, 4, 5, 6, 7, 8, 9, 10, 11, 12, 13, 14, 15, 16, 17, 18, 19, 20, 21, 22, 23, 24, 25, 26, 27, 28, 29, 30, 31, 32]] w0 (heapOf w0) [] [] [] [fun v _ => v = .bool true, fun v _ => v = .bool false, fun v _ => v = .bool false, fun v _ => v = .agg #[.int .i64 nd.id, .int .i64 nd.var, .int .i64 nd.lo, .int .i64 nd.hi, .int .i64 nd.refs], fun v _ => v = .agg #[.int .i64 nd.id, .int .i64 nd.var, .int .i64 nd.lo, .int .i64 nd.hi, .int .i64 nd.refs], fun v _ => v = .bool false, fun v _ => v = .bool false, fun v _ => v = .bool false, fun v _ => v = .bool isv, fun v _ => v = .bool isv, fun v _ => v = .bool false, fun v _ => v = .bool false, fun v _ => v = .bool false, fun v _ => v = .pointer (some ⟨g, 0, none⟩), fun v _ => v = .int .i64 many, fun v _ => v = .agg #[.int .i64 r.room, .slice G1 r.nodes.length e1, .slice G2 r.taken.length e2, .slice G3 r.free.length e3], fun v _ => v = .int .i64 many, fun v _ => v = .bool false, fun v _ => v = .bool false, fun v _ => v = .bool false, fun v _ => v = .pointer (some ⟨g, 0, none⟩), fun v _ => v = .int .i64 r.room, fun v _ => v = .pointer (some ⟨B, 0, none⟩), fun v _ => v = .int .i64 r.room, fun v _ => v = .bool false, fun v _ => v = .bool false, fun v _ => v = .bool false, fun v _ => v = .pointer (some ⟨g, 0, none⟩), fun v J => NLJ J v l, fun v _ => v = .agg #[.int .i64 r.room, .slice G1 r.nodes.length e1, .slice G2 r.taken.length e2, .slice G3 r.free.length e3], fun v J => NLJ J v l, fun v _ => v = .bool true, fun v _ => v = .bool false, fun v _ => v = .bool false]
    (by kernel_rfl) (by kernel_rfl) (by simp) hS ?_ (fun _ h => by cases h) (fun _ h => by cases h) (fun _ h => by cases h) (fun _ h => by cases h) ?plain ?fin
  · repeat (first | exact Lasting.nil | refine Lasting.cons (fun _ _ _ _ h => h) ?_ | refine Lasting.cons (fun _ _ _ h k => k.le h) ?_)
  case plain =>
    repeat' (first | exact trivial | apply And.intro)
    all_goals first
      | ((refine .inr ?_; intro vals J bs w hg hJ hS; simp only [List.getD_cons_succ, List.getD_cons_zero, Given, Facts] at hg; simp only [textL, actL, dstAt, opAt, List.getD_cons_succ, List.getD_cons_zero, List.getElem?_cons_succ, List.getElem?_cons_zero, Option.bind_some, if_true, Act.put, List.setIfInBounds_toArray, List.set_cons_succ, List.set_cons_zero, hg]; refine ⟨?_⟩; refine wpStep_of (fun K hK => ?_); have HK := Lib.hid hK; clear hK; rw [if_pos (by rfl)]; (first | ((with_reducible refine atLoad ?_); first | ((refine' wp_ldi1 (v := _) hS hJ ?ha rfl ?hc ?_); (case ha => first | exact ty_agg3); (case hc => assumption)) | ((refine' wp_ldiN (vs := _) hS hJ ?ha rfl ?hc ?hb ?_); (case ha => first | exact ty_agg29 | exact ty_agg53); (case hc => assumption); (case hb => first | exact ty_sz29 | exact ty_sz53))) | (go_wp2_with (first | (go_at_call 22; ((with_reducible refine Calls.mono (CL.out _ (hS.end_ hJ)) ?_); rintro e w2 ⟨rfl, rfl⟩)) | (go_at_call 31; ((with_reducible refine Calls.mono (CR.out _ (hS.end_ hJ)) ?_); rintro e w2 ⟨rfl, rfl⟩)) | (go_at_call 30; ((with_reducible refine Calls.mono (RL_.out _ (hS.end_ hJ)) ?_); rintro e w2 ⟨rfl, hb2⟩; have hS2 := hS.below_ hb2; clear hS hb2; have hS := hS2; clear hS2)) | (go_at_call 13; ((with_reducible refine Calls.mono (CA.out _ J _ (hS.end_ hJ) hS) ?_); clear hS; rintro e w2 ⟨v1, J1, rfl, hJ2, hNL, hS⟩)) | (go_at_call 33; ((with_reducible refine Calls.mono (RA.out _ J _ (hS.end_ hJ) hS) ?_); clear hS; rintro e w2 ⟨v1, J1, rfl, hJ2, hNL, hS⟩))))); (first | refine HK.out _ _ ⟨rfl, J, PH.le.refl _, hS, ?_⟩ | refine HK.out _ _ ⟨rfl, _, hJ2, hS, ?_⟩); clear HK; simp only [Facts, outOf, List.getD_cons_succ, List.getD_cons_zero, Act.put, List.setIfInBounds_toArray, List.set_cons_succ, List.set_cons_zero, Array.getD_eq_getD_getElem?, List.getElem?_toArray, List.getElem?_cons_succ, List.getElem?_cons_zero, Option.getD_some]); done)
      | ((refine .inr ?_; intro vals J bs w hg hJ hS; simp only [List.getD_cons_succ, List.getD_cons_zero, Given, Facts] at hg; simp only [textL, actL, dstAt, opAt, List.getD_cons_succ, List.getD_cons_zero, List.getElem?_cons_succ, List.getElem?_cons_zero, Option.bind_some, if_true, Act.put, List.setIfInBounds_toArray, List.set_cons_succ, List.set_cons_zero, hg]; refine ⟨?_⟩; refine wpStep_of (fun K hK => ?_); have HK := Lib.hid hK; clear hK; rw [if_pos (by rfl)]; (first | ((with_reducible refine atLoad ?_); first | ((refine' wp_ldi1 (v := _) hS hJ ?ha rfl ?hc ?_); (case ha => first | exact ty_agg3); (case hc => assumption)) | ((refine' wp_ldiN (vs := _) hS hJ ?ha rfl ?hc ?hb ?_); (case ha => first | exact ty_agg29 | exact ty_agg53); (case hc => assumption); (case hb => first | exact ty_sz29 | exact ty_sz53))) | (go_wp2_with (first | (go_at_call 22; ((with_reducible refine Calls.mono (CL.out _ (hS.end_ hJ)) ?_); rintro e w2 ⟨rfl, rfl⟩)) | (go_at_call 31; ((with_reducible refine Calls.mono (CR.out _ (hS.end_ hJ)) ?_); rintro e w2 ⟨rfl, rfl⟩)) | (go_at_call 30; ((with_reducible refine Calls.mono (RL_.out _ (hS.end_ hJ)) ?_); rintro e w2 ⟨rfl, hb2⟩; have hS2 := hS.below_ hb2; clear hS hb2; have hS := hS2; clear hS2)) | (go_at_call 13; ((with_reducible refine Calls.mono (CA.out _ J _ (hS.end_ hJ) hS) ?_); clear hS; rintro e w2 ⟨v1, J1, rfl, hJ2, hNL, hS⟩)) | (go_at_call 33; ((with_reducible refine Calls.mono (RA.out _ J _ (hS.end_ hJ) hS) ?_); clear hS; rintro e w2 ⟨v1, J1, rfl, hJ2, hNL, hS⟩))))); (first | refine HK.out _ _ ⟨rfl, J, PH.le.refl _, hS, ?_⟩ | refine HK.out _ _ ⟨rfl, _, hJ2, hS, ?_⟩); clear HK; simp only [Facts, outOf, List.getD_cons_succ, List.getD_cons_zero, Act.put, List.setIfInBounds_toArray, List.set_cons_succ, List.set_cons_zero, Array.getD_eq_getD_getElem?, List.getElem?_toArray, List.getElem?_cons_succ, List.getElem?_cons_zero, Option.getD_some]); exact hNL)
      | skip
    · refine .inr ?_
      intro vals J bs w hg hJ hS
      obtain ⟨A, ca, ha, hA⟩ : NLJ J (vals 28) l := hg.get 28 (by decide)
      obtain ⟨C, cb, hb, hC⟩ : NLJ J (vals 30) l := hg.get 30 (by decide)
      have h26 : vals 26 = .bool false := hg.get 26 (by decide)
      clear hg
      simp only [textL, actL, dstAt, opAt, List.getD_cons_succ, List.getD_cons_zero, List.getElem?_cons_succ, List.getElem?_cons_zero, Option.bind_some, if_true, Act.put, List.setIfInBounds_toArray, List.set_cons_succ, List.set_cons_zero, ha, hb, h26]
      refine ⟨?_⟩
      refine wpStep_of (fun K hK => ?_)
      have HK := Lib.hid hK
      clear hK
      rw [if_pos (by rfl)]
      go_wp2_with (go_at_call 32; (refine Calls.mono (LS.out _ J _ A C ca cb ⟨A, ca, rfl, hA⟩ ⟨C, cb, rfl, hC⟩ hS) ?_); clear hS; rintro e w ⟨rfl, hS⟩)
      refine HK.out _ _ ⟨rfl, J, PH.le.refl _, hS, ?_⟩
      simp only [Facts, outOf, List.getD_cons_succ, List.getD_cons_zero, Act.put, List.setIfInBounds_toArray, List.set_cons_succ, List.set_cons_zero, Array.getD_eq_getD_getElem?, List.getElem?_toArray, List.getElem?_cons_succ, List.getElem?_cons_zero, Option.getD_some]
  case fin =>
    intro vals J bs w hJ hg hS hB
    have h33 : vals 33 = .bool false := hg.get 33 (by decide)
    exact ⟨hq vals w h33 (hS.end_ hJ)⟩
end Go.Proofs.Ytcnejokbldohlaa
