/- PoolPlays: the reference's At beside a new variable, as a lemma of its own. -/
import Derived.Test.YtcnejokbldohlaaPx
import Derived.Test.YtcnejokbldohlaaSl
namespace Go.Proofs.Ytcnejokbldohlaa
set_option linter.unusedSimpArgs false
set_option linter.unusedVariables false
open Go.RowKit
theorem ty_agg29 : aggB Try.prog 29 = some true := by kernel_rfl
theorem ty_sz29 : sizeB Try.prog 29 = some 5 := by kernel_rfl
theorem ty_z29 : zeroB Try.prog 29 = some (.agg #[.int .i64 0, .int .i64 0, .int .i64 0, .int .i64 0, .int .i64 0]) := by kernel_rfl
theorem ty_agg3 : aggB Try.prog 3 = some false := by kernel_rfl
theorem ty_sz3 : sizeB Try.prog 3 = some 1 := by kernel_rfl
theorem ty_z3 : zeroB Try.prog 3 = some (.int .i64 0) := by kernel_rfl
theorem ty_agg53 : aggB Try.prog 53 = some true := by kernel_rfl
theorem ty_sz53 : sizeB Try.prog 53 = some 4 := by kernel_rfl
theorem ty_z53 : zeroB Try.prog 53 = some (.agg #[.int .i64 0, .slice none 0 0, .slice none 0 0, .slice none 0 0]) := by kernel_rfl
set_option maxHeartbeats 4000000 in
set_option maxRecDepth 100000 in
theorem r15 (w11 : World) (B b o L c k : Nat) (id : Int) (p0 p1 p2 p3 : Value) (nd : List Value) (isv : Bool) (Q : Exit → Act → World → Prop) (x0 x2 x3 x4 x5 x6 x7 x8 x10 x12 x13 x14 x15 x16 x17 x18 x19 x20 x21 x22 x23 x24 x25 x26 x27 x28 x29 x30 x31 x32 x33 x34 x35 x36 x37 x38 x39 x40 x41 x42 x43 x44 x45 x46 x47 x48 x49 x50 x51 x52 x53 x54 x55 x56 x57 x58 x59 x60 x61 x62 x63 x64 x65 x66 x67 x68 x69 x70 x71 x72 x73 x74 x75 x76 x77 x78 x79 x80 x81 x82 x83 x84 x85 x86 x87 x88 x89 x90 x91 x92 x93 x94 x95 x96 x97 x98 x99 x100 x101 x102 x103 x104 x105 x106 x107 x108 x109 x110 x111 x112 x113 x114 x115 x116 x117 x118 x119 x120 x121 x122 x123 x124 x125 x126 x127 x128 x129 x130 x131 x132 x133 x134 x135 x136 x137 x138 x139 x140 x141 x142 : Value) (dfs : List Deferred)
    (hkL : k < L) (hn5 : nd.length = 5) (hn1 : nd.all (·.oneCell') = true)
    (hpool : Cells (heapOf w11) B 0 [p0, p1, p2, p3]) (hid : (heapOf w11).at b (o + k * 7 + 1) = some (.int .i64 id))
    (CA : Hid (∀ w', Below w11.heap.size w11 w' → Calls Try.prog 29 #[.agg #[p0, p1, p2, p3], .int .i64 id] w' fun e w'' => e = .returned (.tuple #[.agg nd.toArray, .bool isv]) ∧ Below w'.heap.size w' w''))
    (hq : ∀ (vals : Nat → Value) (w' : World) (Y : Nat), vals 0 = .agg #[p0, p1, p2, p3] → Below w11.heap.size w11 w' → Blk w' Y 29 nd.toArray → vals 10 = .pointer (some ⟨Y, 0, none⟩) → vals 12 = .bool isv → Q .normal (textL (opsOf Try.f8 15) vals ⟨#[x0, .slice (some ⟨b, o, none⟩) L c, x2, x3, x4, x5, x6, x7, x8, .pointer (some ⟨B, 0, none⟩), x10, .int .i64 (k : Int), x12, x13, x14, x15, x16, x17, x18, x19, x20, x21, x22, x23, x24, x25, x26, x27, x28, x29, x30, x31, x32, x33, x34, x35, x36, x37, x38, x39, x40, x41, x42, x43, x44, x45, x46, x47, x48, x49, x50, x51, x52, x53, x54, x55, x56, x57, x58, x59, x60, x61, x62, x63, x64, x65, x66, x67, x68, x69, x70, x71, x72, x73, x74, x75, x76, x77, x78, x79, x80, x81, x82, x83, x84, x85, x86, x87, x88, x89, x90, x91, x92, x93, x94, x95, x96, x97, x98, x99, x100, x101, x102, x103, x104, x105, x106, x107, x108, x109, x110, x111, x112, x113, x114, x115, x116, x117, x118, x119, x120, x121, x122, x123, x124, x125, x126, x127, x128, x129, x130, x131, x132, x133, x134, x135, x136, x137, x138, x139, x140, x141, x142], dfs⟩ 13) w') :
    (Code.region 15 (opsOf Try.f8 15).toArray true).wp Try.prog Q ⟨#[x0, .slice (some ⟨b, o, none⟩) L c, x2, x3, x4, x5, x6, x7, x8, .pointer (some ⟨B, 0, none⟩), x10, .int .i64 (k : Int), x12, x13, x14, x15, x16, x17, x18, x19, x20, x21, x22, x23, x24, x25, x26, x27, x28, x29, x30, x31, x32, x33, x34, x35, x36, x37, x38, x39, x40, x41, x42, x43, x44, x45, x46, x47, x48, x49, x50, x51, x52, x53, x54, x55, x56, x57, x58, x59, x60, x61, x62, x63, x64, x65, x66, x67, x68, x69, x70, x71, x72, x73, x74, x75, x76, x77, x78, x79, x80, x81, x82, x83, x84, x85, x86, x87, x88, x89, x90, x91, x92, x93, x94, x95, x96, x97, x98, x99, x100, x101, x102, x103, x104, x105, x106, x107, x108, x109, x110, x111, x112, x113, x114, x115, x116, x117, x118, x119, x120, x121, x122, x123, x124, x125, x126, x127, x128, x129, x130, x131, x132, x133, x134, x135, x136, x137, x138, x139, x140, x141, x142], dfs⟩ w11 := by
  have hS : Sat w11 (heapOf w11) ([] ++ []) w11 := Sat.start w11
  have k0 : (0 : Int) ≤ (k : Int) := by omega
  have k1 : (k : Int) < (L : Int) := by omega
  have hl : opsOf Try.f8 15 = opsOf Try.f8 15 := rfl
  conv at hl => rhs; simp [opsOf, Try.f8, regionIn]
  rw [hl] at hq ⊢
  clear hl
  refine region_fnV [[], [], [], [1, 2], [1, 2, 3], [1, 2, 3, 4], [0, 1, 2, 3, 4, 5], [0, 1, 2, 3, 4, 5, 6], [0, 1, 2, 3, 4, 5, 6, 7], [0, 1, 2, 3, 4, 5, 6, 7], [], [0, 1, 2, 3, 4, 5, 6, 7, 8, 10], [0, 1, 2, 3, 4, 5, 6, 7, 8, 9, 10, 11]] w11 (heapOf w11) [] [] [⟨10, 11, 29, #[.int .i64 0, .int .i64 0, .int .i64 0, .int .i64 0, .int .i64 0], fun cs _ => cs = nd.toArray⟩] [fun v _ => v = .agg #[p0, p1, p2, p3], fun v _ => v = .slice (some ⟨b, o, none⟩) L c, fun v _ => v = .int .i64 (k : Int), fun v _ => v = .pointer (some ⟨b, o + k * 7, none⟩), fun v _ => v = .pointer (some ⟨b, o + k * 7 + 1, none⟩), fun v _ => v = .int .i64 id, fun v _ => v = .tuple #[.agg nd.toArray, .bool isv], fun v _ => v = .tuple #[.agg nd.toArray, .bool isv], fun v _ => v = .agg nd.toArray, fun v _ => v = .bool isv, fun _ _ => True, fun _ _ => True, fun v _ => v = .bool isv]
    (by kernel_rfl) (by kernel_rfl) (by simp) hS ?_ ?monoC ?okb ?dal ?fill ?plain ?fin
  · repeat (first | exact Lasting.nil | refine Lasting.cons (fun _ _ _ _ h => h) ?_)
  case monoC =>
    intro b' hb' cs J K hJK
    simp only [List.mem_cons, List.not_mem_nil, or_false] at hb'
    subst hb'
    exact fun h => h
  case okb =>
    intro b' hb'
    simp only [List.mem_cons, List.not_mem_nil, or_false] at hb'
    subst hb'
    exact ⟨by simp, ⟨rfl, rfl, rfl⟩, ⟨_, zeroB_eq ty_z29, rfl⟩, ⟨rfl, rfl, _, rfl⟩, by simp, sizeB_eq ty_sz29⟩
  case dal =>
    intro b' hb' v' J
    simp only [List.mem_cons, List.not_mem_nil, or_false] at hb'
    subst hb'
    exact ⟨trivial, trivial⟩
  case fill =>
    intro b' hb' vals J hJ hg
    simp only [List.mem_cons, List.not_mem_nil, or_false] at hb'
    subst hb'
    simp only [List.getD_cons_succ, List.getD_cons_zero, Given, Facts] at hg
    refine ⟨.agg nd.toArray, by simp only [storeArg, textL, actL, dstAt, opAt, List.getD_cons_succ, List.getD_cons_zero, List.getElem?_cons_succ, List.getElem?_cons_zero, Option.bind_some, if_true, Act.put, List.setIfInBounds_toArray, List.set_cons_succ, List.set_cons_zero, Act.eval, Array.getD_eq_getD_getElem?, List.getElem?_toArray, Option.getD_some, hg], by simp [Value.cells, hn5], by simpa [Value.cells] using hn1, rfl⟩
  case plain =>
    repeat' (first | exact trivial | apply And.intro)
    all_goals first
      | (refine .inl (by rfl))
      | ((refine .inr ?_; intro vals J bs w hg hJ hS; simp only [List.getD_cons_succ, List.getD_cons_zero, Given, Facts] at hg; simp only [textL, actL, dstAt, opAt, List.getD_cons_succ, List.getD_cons_zero, List.getElem?_cons_succ, List.getElem?_cons_zero, Option.bind_some, if_true, Act.put, List.setIfInBounds_toArray, List.set_cons_succ, List.set_cons_zero, hg]; refine ⟨?_⟩; refine wpStep_of (fun K hK => ?_); have HK := Lib.hid hK; clear hK; rw [if_pos (by rfl)]; (first | ((with_reducible refine atLoad ?_); first | ((refine' wp_ldi1 (v := _) hS hJ ?ha rfl ?hc ?_); (case ha => first | exact ty_agg3); (case hc => assumption)) | ((refine' wp_ldiN (vs := _) hS hJ ?ha rfl ?hc ?hb ?_); (case ha => first | exact ty_agg53); (case hc => assumption); (case hb => first | exact ty_sz53))) | (go_wp2_with (first | (go_at_call 29; ((with_reducible refine Calls.mono (CA.out _ (hS.end_ hJ)) ?_); rintro e w2 ⟨rfl, hb2⟩; have hS2 := hS.below_ hb2; clear hS hb2; have hS := hS2; clear hS2))))); (first | refine HK.out _ _ ⟨rfl, J, PH.le.refl _, hS, ?_⟩ | refine HK.out _ _ ⟨rfl, _, hJ2, hS, ?_⟩); clear HK; simp only [Facts, outOf, List.getD_cons_succ, List.getD_cons_zero, Act.put, List.setIfInBounds_toArray, List.set_cons_succ, List.set_cons_zero, Array.getD_eq_getD_getElem?, List.getElem?_toArray, List.getElem?_cons_succ, List.getElem?_cons_zero, Option.getD_some]); done)
  case fin =>
    intro vals J bs w hJ hg hS hB
    simp only [List.length_cons, List.length_nil, Nat.reduceAdd, Below_, Facts, List.getD_cons_succ, List.getD_cons_zero, true_and, and_true] at hg
    cases hB with
    | cons h1 hB =>
    cases hB
    simp only [Bx.st, if_true] at h1
    obtain ⟨Y, cY, eY, rfl, zY, rfl⟩ := h1
    refine ⟨?_⟩
    exact hq vals w Y (by simp only [hg]) (hS.end_ hJ) (hS.own _ (by simp) Y _ (PH.one_self _ _)) eY (by simp only [hg])
end Go.Proofs.Ytcnejokbldohlaa
