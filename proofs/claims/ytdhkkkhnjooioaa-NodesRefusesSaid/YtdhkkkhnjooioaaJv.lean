/- NodesRefuses. -/
import Derived.Test.YtdhkkkhnjooioaaJw
import Derived.Test.YtdhkkkhnjooioaaGu
import Derived.Deep.CutRange
namespace Go.Proofs.Ytdhkkkhnjooioaa.G
set_option linter.unusedSimpArgs false
set_option linter.unusedVariables false
variable {B : Nat} {s s' : St}
theorem StOk.all_nodes (h : StOk B s) : s.pl.all = s.nodes := by
  unfold G.St.nodes G.Pl.all
  rw [show s.pl.slots = none :: s.pl.slots.drop 1 from h.pl.cons]
  rfl
theorem refuses_pre (x : Nat) (v f g : Int) : ∃ s1 r1 s2 r2 e2 s3 e3 s4 s5 e5, St.build 6 (St.new 5 200) o5 (bitsT x) = some (s1, r1, true) ∧ StOk 0 s1 ∧ s1.pl.all.length ≤ 999 ∧ s1.vars.length = 5 ∧ Mks 0 s1 v f g s2 r2 e2 ∧ Hds s2 f s3 e3 s4 s5 e5 := by
  obtain ⟨s1, r1, _, _, t⟩ := two_ok 200 x x (by decide) (by decide) (Nat.le_trans (below2_len x x) (by decide))
  obtain ⟨s2, r2, e2, m⟩ := t.b1.ok.mks v f g
  obtain ⟨s3, e3, s4, s5, e5, h⟩ := m.ok.hds (m.refs fun i => by rw [t.b1.gro.refs]; exact refs_new 5 200 i) f
  refine ⟨s1, r1, s2, r2, e2, s3, e3, s4, s5, e5, t.r1, t.b1.ok, ?_, by rw [t.v1]; rfl, m, h⟩
  rw [t.b1.ok.all_nodes, length_nodes t.b1.ok.pl]
  have h1 := many_le s1.pl.slots
  have h2 := t.b1.ok.pl.len
  have h3 : s1.pl.room = 200 := t.b1.gro.room
  omega
theorem isIn_append (f : Int) (a b : List (Nat × Nd)) : isIn f (a ++ b) = (isIn f a || isIn f b) := by unfold isIn; exact List.any_append
theorem isIn_one (f : Int) (p : Nat × Nd) : isIn f [p] = (decide (2 ≤ f) && decide (Int.tdiv f 2 = (p.1 : Int))) := by simp [isIn]
theorem isIn_next (f : Int) {l : List (Nat × Nd)} {k : Nat} {p : Nat × Nd} (h : l[k]? = some p) : isIn f (l.take (k + 1)) = (isIn f (l.take k) || (decide (2 ≤ f) && decide (Int.tdiv f 2 = (p.1 : Int)))) := by
  rw [List.take_add_one, h, isIn_append, show (some p).toList = [p] from rfl, isIn_one]
end Go.Proofs.Ytdhkkkhnjooioaa.G
namespace Go.Proofs.Ytdhkkkhnjooioaa
set_option linter.unusedSimpArgs false
set_option linter.unusedVariables false
open Go.RowKit
set_option linter.unusedVariables false
theorem OwnP.nodeIds {m : PH} {v : Value} {L : List (Nat × G.Nd)} {e : TypeId} (h : OwnP m e 5 v L.length (L.flatMap ndR)) : (∃ A c, v = .slice A L.length c) ∧ ∀ (k : Nat) p, L[k]? = some p → ∃ X c, v = .slice (some ⟨X, 0, none⟩) L.length c ∧ m.at X (k * 5) = some (nv p.1) := by
  refine ⟨?_, fun k p hk => ?_⟩
  · obtain ⟨A, c, h1, _⟩ := h.shape
    exact ⟨A, c, h1⟩
  · obtain ⟨A, c, rfl, _⟩ := h.ptr (by have := (List.getElem?_eq_some_iff.1 hk).1; omega)
    refine ⟨A, c, rfl, ?_⟩
    have := (flat_cells ndR_len h hk) 0 (nv p.1) rfl
    rwa [Nat.add_zero] at this
theorem sat_gen {w : World} {S : Nat} {s : G.St} (h : StR (heapOf w) S s) (f : Int) (hf : f < 9223372036854775808) : Calls Try.prog 33 #[vPt S, .int .i64 f] w fun e w' => ∃ a b c, e = .returned (.tuple #[.int .i64 a, .int .i64 b, .int .i64 c, .bool (s.at' f).isSome]) ∧ ((s.at' f).isSome = false → a = -1 ∧ b = 0 ∧ c = 0) ∧ Below w.heap.size w w' := by
  unfold G.St.at'
  by_cases h0 : f < 0
  · rw [if_pos h0]
    exact (sat_neg f h0).mono fun e w' ⟨h1, h2⟩ => ⟨_, _, _, h1, fun _ => ⟨rfl, rfl, rfl⟩, by subst h2; exact Below.refl _ _⟩
  · rw [if_neg h0]
    obtain ⟨n, rfl⟩ := Int.eq_ofNat_of_zero_le (Int.not_lt.1 h0)
    rw [show ((n : Int).toNat) = n from rfl]
    unfold G.St.at_
    cases hn : s.nd (n / 2) with
    | none => exact (sat_none h n (by omega) hn).mono fun e w' ⟨h1, h2⟩ => ⟨_, _, _, h1, fun _ => ⟨rfl, rfl, rfl⟩, h2⟩
    | some m => exact (sat_some h n (by omega) hn).mono fun e w' ⟨h1, h2⟩ => ⟨_, _, _, h1, (fun h => by simp at h), h2⟩
set_option maxRecDepth 1000000 in
set_option maxHeartbeats 16000000 in
theorem refuses_any (W : World) (x : Nat) (v f g : Int) (hx : x < 4294967296) (hf : f < 9223372036854775808) (hg : g < 9223372036854775808) : Calls Try.prog 6 #[.int .u32 (x : Int), .int .i64 v, .int .i64 f, .int .i64 g] W fun e w' => e = .returned (.bool true) ∧ Below W.heap.size W w' := by
  have hS := Sat.start W
  obtain ⟨s1, r1, s2, r2, e2, s3, e3, s4, s5, e5, r, k1, hlen, hvl, m, h⟩ := G.refuses_pre x v f g
  have R := Lib.hid r
  have K1 := Lib.hid k1
  have K0 : G.StOk 0 (G.St.new 5 200) := G.StOk.new (by decide) (by decide) (by decide)
  have HK0 := Lib.hid K0
  have M := Lib.hid m
  have H := Lib.hid h
  have HBx := Lib.hid hx
  have Hf := Lib.hid hf
  have Hg := Lib.hid hg
  have Hlen := Lib.hid hlen
  have Hvl := Lib.hid hvl
  have hl5 : ∀ v ∈ G.o5, v < 5 := by decide
  have eisf : s2.is f = s1.is f := m.isf
  have eisg : s2.is g = s1.is g := m.isg
  have hvl' : (s1.vars.length : Int) = 5 := by omega
  have e9 : e2 = 9 ↔ v < 0 ∨ 5 ≤ v := by have := m.e9; rw [hvl'] at this; exact this
  have e8 : 0 ≤ v → v < 5 → (e2 = 8 ↔ ¬ (s1.is f = true ∧ s1.is g = true)) := fun a b => m.e8 a (by omega)
  have hbad : e2 ≠ 0 → G.many s2.pl.slots = G.many s1.pl.slots := m.bad
  have eat : (s2.at' f).isSome = (s1.is f && decide (2 ≤ f)) := by rw [G.at_is m.ok, eisf]
  have ee3 : e3 = if s1.is f then 0 else 8 := by rw [← eisf]; exact h.e1
  have eheld : s3.held f = if s1.is f && decide (2 ≤ f) then 1 else 0 := by rw [← eisf]; exact h.held
  have ee5 : e5 = if s1.is f then (if 2 ≤ f then 5 else 0) else 8 := by rw [← eisf]; exact h.e3
  have hru := h.r1
  have hrd := h.r2
  have hrd2 := h.r3
  have Eisf := Lib.hid eisf
  have Eisg := Lib.hid eisg
  have E9 := Lib.hid e9
  have E8 := Lib.hid e8
  have Ebad := Lib.hid hbad
  have Eat := Lib.hid eat
  have E3 := Lib.hid ee3
  have Eheld := Lib.hid eheld
  have E5 := Lib.hid ee5
  have R1 := Lib.hid hru
  have R2 := Lib.hid hrd
  have R3 := Lib.hid hrd2
  clear eisf eisg hvl' e9 e8 hbad eat ee3 eheld ee5 hru hrd hrd2
  have Wf := Lib.hid (fun (h2 : 2 ≤ f) => (IntWalk.wrap64_in _ (by rw [G.tdiv_two h2]; omega) : wrap64 (f.tdiv 2) = f.tdiv 2))
  have Wg := Lib.hid (fun (h2 : 2 ≤ g) => (IntWalk.wrap64_in _ (by rw [G.tdiv_two h2]; omega) : wrap64 (g.tdiv 2) = g.tdiv 2))
  clear r k1 K0 m h hx hf hg hlen hvl
  go_enter Try.func6, Try.ntmps6
  go_wp2_with (first
    | (go_at_call 8; (with_reducible refine Calls.mono (new200 hS) ?_); clear hS; rintro e w ⟨S, m, rfl, hA, hS⟩; have HA0 := Lib.hid hA; clear hA)
    | ((with_reducible refine isBuildSlice ?_); (refine' bsl hS ?hr ?_); (case hr => (intro w0; go_simp; rfl)); clear hS; intro XS w hS; (try simp only [zF, zG, zE, Act.eval, zD, zC, zA, zB, zJ, Value.cells] at hS); (try simp only [Act.put, zE, zF, zG]))
    | ((with_reducible refine atList ?_); first | ((with_reducible refine isGuard ?_); first | go_skip | ((with_reducible refine guarded_no ?hw ?_); (case hw => (simp only [Region.wanted, yielded, zC, zA, zB, zK]; first | exact (rfl : (some true == some false) = false) | exact (rfl : (some false == some true) = false))); (try simp only [Act.put, zE, zF, zG])) | ((with_reducible refine guarded_yes ?hw ?_); case hw => (simp only [Region.wanted, yielded, zC, zA, zB, zK, beq_self_eq_true]; done)) | ((refine' guarded_cases (b := _) ?hy ?_ ?_); (case hy => (simp only [yielded, zC, zA, zB, zK]; exact rfl)); all_goals (intro hb; (try simp only [Bool.not_true, Bool.not_false] at hb); (try simp only [hb]); (try simp only [Act.put, zE, zF, zG]); first | ((have hf : False := by (simp at hb; done)); cases hf) | ((have hf : False := by (simp at hb; omega)); cases hf) | skip))) | ((with_reducible refine isLoad ?_); (first | (refine ld1 0 hS rfl rfl ?ha rfl rfl rfl ?_; (case ha => first | exact ty_agg3)) | (refine ldN 0 hS rfl rfl ?ha rfl rfl ?hb ?_; (case ha => first | exact ty_agg59); (case hb => first | exact ty_sz59)) | ((refine' ldI1 (v := _) hS rfl rfl ?ha rfl ?hb ?_); (case ha => first | exact ty_agg3); (case hb => assumption)) | ((refine' ldIN (vs := _) hS rfl rfl ?ha rfl ?hc ?hb ?_); (case ha => first | exact ty_agg59); (case hc => assumption); (case hb => first | exact ty_sz59))); (try simp only [Act.put, zE, zF, zG])) | ((with_reducible refine isStore ?_); (first | (refine st1 0 hS rfl rfl rfl rfl rfl ?ha rfl rfl ?hb ?_; (case ha => first | exact ty_sz3); (case hb => (simp; done))) | (refine stN 0 hS rfl rfl rfl rfl rfl ?ha rfl rfl ?_; (case ha => first | exact ty_sz59))); clear hS; intro w hS; (try simp only [zF, zG, zE, Act.eval, zD, zC, zA, zB, zJ, Value.cells] at hS); (try simp only [Act.put, zE, zF, zG])) | ((with_reducible refine isBox ?_); refine bx hS rfl rfl rfl ?_; clear hS; intro X w hS; (try simp only [Act.eval, zD, zC, zA, zB, zJ, Value.cells] at hS); (try simp only [Act.put, zE, zF, zG])) | ((with_reducible refine isAlloc ?_); (refine' al (z := _) hS rfl rfl ?ha ?_); (case ha => first | exact ty_z3 | exact ty_z59); clear hS; intro X w hS; (try simp only [Act.eval, zD, zC, zA, zB, zJ, Value.cells] at hS); (try simp only [Act.put, zE, zF, zG]))))
  refine Veil.out ?_
  obtain ⟨J1, a1, e1, hS1, _⟩ := hS.ice
  have hN1 := Lib.hid ((lit5 XS).le e1)
  refine ⟨?_⟩
  have Ha1 := Lib.hid a1
  clear hS e1 a1
  have hS := hS1
  clear hS1
  refine (bits_any x HBx.out hS).mono ?_
  clear hS
  rintro e w ⟨u1, L1, rfl, j1, bx1, hS⟩
  have Hj1 := Lib.hid j1
  have Hx1 := Lib.hid bx1
  clear j1 bx1
  go_wp2_with fail
  refine (build_any hl5 (by decide) (by decide) 6 _ _ _ _ _ _ _ _ _ _ R.out HK0.out (hN1.out.le Hj1.out) Hx1.out (G.bitsT_len x) HA0.out hS).mono ?_
  clear hS
  rintro e w ⟨rfl, m1, hA1, hS⟩
  replace hS := (hS.less Hj1.out).less Ha1.out
  have HA1 := Lib.hid hA1
  clear hA1
  go_wp2_with fail
  obtain ⟨J8, a8, e8, hS8, b8⟩ := hS.ice
  refine (sall_any 999 (HA1.out.read.le e8) (by decide) hS8).mono ?_
  clear hS hS8
  rintro e w ⟨vl, mo, rfl, hO, hS9⟩
  have hS := (b8 _ _ hS9).perm (List.Perm.swap _ _ _)
  clear hS9 b8 a8 e8
  have hO := hO.nodeIds
  rw [List.take_of_length_le Hlen.out, K1.out.all_nodes] at hO
  have hnl : s1.nodes.length ≤ 999 := by rw [← K1.out.all_nodes]; exact Hlen.out
  obtain ⟨J2, a2, e2', hS2, _⟩ := hS.ice
  obtain ⟨⟨AL, cL, rfl⟩, hrow⟩ := hO
  have hrow' : ∀ (k : Nat) p, s1.nodes[k]? = some p → ∃ X, AL = some ⟨X, 0, none⟩ ∧ J2.at X (k * 5) = some (nv p.1) := fun k p hk => by
    obtain ⟨X, c, h1, h2⟩ := hrow k p hk
    injection h1 with h1 h3 h4
    exact ⟨X, h1, PH.at_le e2' h2⟩
  have Hrow := Lib.hid hrow'
  have Ha2 := Lib.hid a2
  have Hnl := Lib.hid hnl
  clear hS e2' a2 hrow hrow' hnl
  have hS := hS2
  clear hS2
  have his1 : G.isAs f s1 = s1.is f := G.isAs_is f
  have his2 : G.isAs g s1 = s1.is g := G.isAs_is g
  unfold G.isAs at his1 his2
  have Ef := Lib.hid his1
  have Eg := Lib.hid his2
  clear hO his1 his2
  generalize hL : s1.nodes = L at *
  have HL := Lib.hid hL
  clear hL
  go_upto_region 8 with (first | ((with_reducible refine atList ?_); ((with_reducible refine isGuard ?_); first | go_skip | ((with_reducible refine guarded_no ?hw ?_); (case hw => (simp only [Region.wanted, yielded, zC, zA, zB, zK]; first | exact (rfl : (some true == some false) = false) | exact (rfl : (some false == some true) = false))); (try simp only [Act.put, zE, zF, zG])) | ((with_reducible refine guarded_yes ?hw ?_); case hw => (simp only [Region.wanted, yielded, zC, zA, zB, zK, beq_self_eq_true]; done)) | ((refine' guarded_cases (b := _) ?hy ?_ ?_); (case hy => (simp only [yielded, zC, zA, zB, zK]; exact rfl)); all_goals (intro hb; (try simp only [Bool.not_true, Bool.not_false] at hb); (try simp only [hb]); (try simp only [Act.put, zE, zF, zG]); first | ((have hf : False := by (simp at hb; done)); cases hf) | ((have hf : False := by (simp at hb; omega)); cases hf) | skip)))))
  go_cut [14, 15] from 50 to 61 (fun a14 a15 wc => a14 = .bool (decide (f = 0) || decide (f = 1)) ∧ a15 = .bool (decide (g = 0) || decide (g = 1)) ∧ Sat W J2 [m1] wc)
  case first =>
    by_cases f0 : f = 0
    all_goals by_cases g0 : g = 0
    all_goals
      first | (have f0b : (f == 0) = true := by simp [f0]) | (have f0b : (f == 0) = false := by simp [f0])
      first | (have g0b : (g == 0) = true := by simp [g0]) | (have g0b : (g == 0) = false := by simp [g0])
    all_goals
      go_wp2_with (first | ((with_reducible refine atList ?_); ((with_reducible refine isGuard ?_); first | go_skip | ((with_reducible refine guarded_no ?hw ?_); (case hw => (simp only [Region.wanted, yielded, zC, zA, zB, zK]; first | exact (rfl : (some true == some false) = false) | exact (rfl : (some false == some true) = false))); (try simp only [Act.put, zE, zF, zG])) | ((with_reducible refine guarded_yes ?hw ?_); case hw => (simp only [Region.wanted, yielded, zC, zA, zB, zK, beq_self_eq_true]; done)) | ((refine' guarded_cases (b := _) ?hy ?_ ?_); (case hy => (simp only [yielded, zC, zA, zB, zK]; exact rfl)); all_goals (intro hb; (try simp only [Bool.not_true, Bool.not_false] at hb); (try simp only [hb]); (try simp only [Act.put, zE, zF, zG]); first | ((have hf : False := by (simp at hb; done)); cases hf) | ((have hf : False := by (simp at hb; omega)); cases hf) | skip)))))
      go_meet
      case rel =>
        refine ⟨?_, ?_, hS⟩
        all_goals (first | rfl | (simp [f0, g0]; done) | (simp [f0, g0]; rfl))
  case rest =>
  obtain ⟨rfl, rfl, hSc⟩ := hcut
  clear hS
  have hS := hSc
  clear hSc
  go_wp2_with fail
  go_loopw [14, 15, 16] (fun a14 a15 a16 wr => ∃ k : Nat, k ≤ L.length ∧ a14 = .bool ((decide (f = 0) || decide (f = 1)) || G.isIn f (L.take k)) ∧ a15 = .bool ((decide (g = 0) || decide (g = 1)) || G.isIn g (L.take k)) ∧ a16 = nv k ∧ Sat W J2 [m1] wr) (fun _ _ a16 _ => (L.length - intOf a16).toNat)
  case atStart => exact ⟨0, Nat.zero_le _, by rw [List.take_zero]; simp [G.isIn], by rw [List.take_zero]; simp [G.isIn], rfl, hS⟩
  case round =>
    clear hS
    obtain ⟨k, hk, rfl, rfl, rfl, hS⟩ := hrel
    have hLb : L.length ≤ 999 := Hnl.out
    by_cases hlt : k < L.length
    · have hp : L[k]? = some L[k] := List.getElem?_eq_getElem hlt
      generalize L[k] = p at hp
      obtain ⟨X, rfl, iX⟩ := Hrow.out k p hp
      have e1 := G.isIn_next f hp
      have e2 := G.isIn_next g hp
      have hki : (k : Int) < (L.length : Int) := by omega
      have hm : ((L.length : Int) - ((k : Int) + 1)).toNat < ((L.length : Int) - (k : Int)).toNat := by omega
      have hk1 : k + 1 ≤ L.length := hlt
      have hkb : k < 999 := by omega
      have n1 : ((decide (f = 0) || decide (f = 1)) || G.isIn f (L.take (k + 1))) = (((decide (f = 0) || decide (f = 1)) || G.isIn f (L.take k)) || (decide (2 ≤ f) && decide (Int.tdiv f 2 = (p.1 : Int)))) := by rw [e1, ← Bool.or_assoc]
      have n2 : ((decide (g = 0) || decide (g = 1)) || G.isIn g (L.take (k + 1))) = (((decide (g = 0) || decide (g = 1)) || G.isIn g (L.take k)) || (decide (2 ≤ g) && decide (Int.tdiv g 2 = (p.1 : Int)))) := by rw [e2, ← Bool.or_assoc]
      clear e1 e2 hp hk
      generalize ((decide (f = 0) || decide (f = 1)) || G.isIn f (L.take k)) = Pf at *
      generalize ((decide (g = 0) || decide (g = 1)) || G.isIn g (L.take k)) = Pg at *
      generalize p.1 = q at *
      have N1 := Lib.hid n1
      have N2 := Lib.hid n2
      have Hm := Lib.hid hm
      have Hk1 := Lib.hid hk1
      clear n1 n2 hm hk1
      go_upto_region 12 with fail
      go_cut [14] from 62 to 97 (fun a14 wc => a14 = .bool (Pf || (decide (2 ≤ f) && decide (Int.tdiv f 2 = (q : Int)))) ∧ Sat W J2 [m1] wc)
      case first =>
        cases Pf
        all_goals by_cases f2 : 2 ≤ f
        all_goals
          go_wp2_with (first | ((with_reducible refine atList ?_); first | ((with_reducible refine isGuard ?_); first | go_skip | ((with_reducible refine guarded_no ?hw ?_); (case hw => (simp only [Region.wanted, yielded, zC, zA, zB, zK]; first | exact (rfl : (some true == some false) = false) | exact (rfl : (some false == some true) = false))); (try simp only [Act.put, zE, zF, zG])) | ((with_reducible refine guarded_yes ?hw ?_); case hw => (simp only [Region.wanted, yielded, zC, zA, zB, zK, beq_self_eq_true]; done)) | ((refine' guarded_cases (b := _) ?hy ?_ ?_); (case hy => (simp only [yielded, zC, zA, zB, zK]; exact rfl)); all_goals (intro hb; (try simp only [Bool.not_true, Bool.not_false] at hb); (try simp only [hb]); (try simp only [Act.put, zE, zF, zG]); first | ((have hf : False := by (simp at hb; done)); cases hf) | ((have hf : False := by (simp at hb; omega)); cases hf) | skip))) | ((with_reducible refine isLoad ?_); (first | (refine ld1 0 hS rfl rfl ?ha rfl rfl rfl ?_; (case ha => first | exact ty_agg3)) | ((refine' ldI1 (v := _) hS rfl rfl ?ha rfl ?hb ?_); (case ha => first | exact ty_agg3); (case hb => assumption))); (try simp only [Act.put, zE, zF, zG])) | ((with_reducible refine isStore ?_); (first | (refine st1 0 hS rfl rfl rfl rfl rfl ?ha rfl rfl ?hb ?_; (case ha => first | exact ty_sz3); (case hb => (simp; done)))); clear hS; intro w hS; (try simp only [zF, zG, zE, Act.eval, zD, zC, zA, zB, zJ, Value.cells] at hS); (try simp only [Act.put, zE, zF, zG])) | ((with_reducible refine isBox ?_); refine bx hS rfl rfl rfl ?_; clear hS; intro X w hS; (try simp only [Act.eval, zD, zC, zA, zB, zJ, Value.cells] at hS); (try simp only [Act.put, zE, zF, zG])) | ((with_reducible refine isAlloc ?_); (refine' al (z := _) hS rfl rfl ?ha ?_); (case ha => first | exact ty_z3); clear hS; intro X w hS; (try simp only [Act.eval, zD, zC, zA, zB, zJ, Value.cells] at hS); (try simp only [Act.put, zE, zF, zG]))))
          go_meet
          case rel =>
            refine ⟨?_, hS⟩
            first | rfl | (have h2 : ¬ 2 ≤ f := (by omega); simp [h2]; done) | (have h2 : 2 ≤ f := (by omega); rw [Wf.out h2]; simp [h2]; done) | (have h2 : 2 ≤ f := (by omega); rw [Wf.out h2]; simp [h2]; rfl)
      case rest =>
      obtain ⟨rfl, hSc⟩ := hcut
      clear hS
      have hS := hSc
      clear hSc
      cases Pg
      all_goals by_cases f2 : 2 ≤ g
      all_goals
        go_wp2_with (first | ((with_reducible refine atList ?_); first | ((with_reducible refine isGuard ?_); first | go_skip | ((with_reducible refine guarded_no ?hw ?_); (case hw => (simp only [Region.wanted, yielded, zC, zA, zB, zK]; first | exact (rfl : (some true == some false) = false) | exact (rfl : (some false == some true) = false))); (try simp only [Act.put, zE, zF, zG])) | ((with_reducible refine guarded_yes ?hw ?_); case hw => (simp only [Region.wanted, yielded, zC, zA, zB, zK, beq_self_eq_true]; done)) | ((refine' guarded_cases (b := _) ?hy ?_ ?_); (case hy => (simp only [yielded, zC, zA, zB, zK]; exact rfl)); all_goals (intro hb; (try simp only [Bool.not_true, Bool.not_false] at hb); (try simp only [hb]); (try simp only [Act.put, zE, zF, zG]); first | ((have hf : False := by (simp at hb; done)); cases hf) | ((have hf : False := by (simp at hb; omega)); cases hf) | skip))) | ((with_reducible refine isLoad ?_); (first | (refine ld1 0 hS rfl rfl ?ha rfl rfl rfl ?_; (case ha => first | exact ty_agg3)) | ((refine' ldI1 (v := _) hS rfl rfl ?ha rfl ?hb ?_); (case ha => first | exact ty_agg3); (case hb => assumption))); (try simp only [Act.put, zE, zF, zG])) | ((with_reducible refine isStore ?_); (first | (refine st1 0 hS rfl rfl rfl rfl rfl ?ha rfl rfl ?hb ?_; (case ha => first | exact ty_sz3); (case hb => (simp; done)))); clear hS; intro w hS; (try simp only [zF, zG, zE, Act.eval, zD, zC, zA, zB, zJ, Value.cells] at hS); (try simp only [Act.put, zE, zF, zG])) | ((with_reducible refine isBox ?_); refine bx hS rfl rfl rfl ?_; clear hS; intro X w hS; (try simp only [Act.eval, zD, zC, zA, zB, zJ, Value.cells] at hS); (try simp only [Act.put, zE, zF, zG])) | ((with_reducible refine isAlloc ?_); (refine' al (z := _) hS rfl rfl ?ha ?_); (case ha => first | exact ty_z3); clear hS; intro X w hS; (try simp only [Act.eval, zD, zC, zA, zB, zJ, Value.cells] at hS); (try simp only [Act.put, zE, zF, zG]))))
        refine ⟨⟨k + 1, Hk1.out, ?_, ?_, by go_num, hS⟩, by simp only [intOf]; omega⟩
        · rw [N1.out]
        · rw [N2.out]
          first | rfl | (have h2 : ¬ 2 ≤ g := (by omega); simp [h2]; done) | (have h2 : 2 ≤ g := (by omega); rw [Wg.out h2]; simp [h2]; done) | (have h2 : 2 ≤ g := (by omega); rw [Wg.out h2]; simp [h2]; rfl)
    · obtain rfl : k = L.length := by omega
      rw [List.take_of_length_le (Nat.le_refl _), Ef.out, Eg.out]
      clear hlt hk Ef Eg
      generalize s1.is f = A at *
      generalize s1.is g = C at *
      generalize hmany : G.many s1.pl.slots = many1 at *
      have Hmany := Lib.hid hmany
      clear hmany
      clear hLb
      have HT1 := Lib.hid (show TabLt s1 from K1.out.tab_lt)
      have HL1 := Lib.hid (fun (w' : World) (h9 : Sat W J2 [m1] w') => show Calls Try.prog 12 #[vPt S] w' (fun e w'' => e = .returned (nv many1) ∧ w' = w'') by rw [← Hmany.out]; exact slen_any (HA1.out.read.le (h9.mle (k := 0) rfl)))
      go_upto_region 16 with (first
        | (go_at_call 12; (with_reducible refine Calls.mono (HL1.out _ hS) ?_); rintro e w9 ⟨rfl, rfl⟩)
        | (go_at_call 31; (with_reducible refine Calls.mono (smk_any M.out.run Hf.out Hg.out HT1.out HA1.out hS) ?_); clear hS; rintro e w ⟨rfl, m2, hA2, hS⟩; have HA2 := Lib.hid hA2; clear hA2))
      have HIf := Lib.hid (fun (w' : World) (h9 : Sat W J2 [m2] w') => show Calls Try.prog 32 #[vPt S, .int .i64 f] w' (fun e w'' => e = .returned (.bool A) ∧ Sat W J2 [m2] w'') from (sis_any (HA2.out.read.le (h9.mle (k := 0) rfl)) f Hf.out).mono fun e w'' h => ⟨by rw [h.1, Eisf.out], h9.below_ h.2⟩)
      have HIg := Lib.hid (fun (w' : World) (h9 : Sat W J2 [m2] w') => show Calls Try.prog 32 #[vPt S, .int .i64 g] w' (fun e w'' => e = .returned (.bool C) ∧ Sat W J2 [m2] w'') from (sis_any (HA2.out.read.le (h9.mle (k := 0) rfl)) g Hg.out).mono fun e w'' h => ⟨by rw [h.1, Eisg.out], h9.below_ h.2⟩)
      go_cut [130] from 108 to 130 (fun a130 wc => a130 = .bool false ∧ Sat W J2 [m2] wc)
      case first =>
        have hc : (v < 0 ∧ e2 = 9) ∨ (¬ v < 0 ∧ 5 ≤ v ∧ e2 = 9) ∨ (¬ v < 0 ∧ ¬ 5 ≤ v ∧ ¬ (e2 : Int) = 9 ∧ ((e2 : Int) == 9) = false) := by
          have h := E9.out
          by_cases v0 : v < 0
          · exact .inl ⟨v0, h.2 (.inl v0)⟩
          · by_cases v5 : 5 ≤ v
            · exact .inr (.inl ⟨v0, v5, h.2 (.inr v5)⟩)
            · have n9 : ¬ e2 = 9 := fun e => by rcases h.1 e with h | h <;> omega
              have n9i : ¬ (e2 : Int) = 9 := by omega
              exact .inr (.inr ⟨v0, v5, n9i, by simpa using n9i⟩)
        rcases hc with ⟨v0, rfl⟩ | ⟨v0, v5, rfl⟩ | ⟨v0, v5, n9i, n9b⟩
        all_goals cases A <;> cases C
        all_goals
          go_wp2_with (first | (go_at_call 32; (with_reducible refine Calls.mono (HIf.out _ hS) ?_); clear hS; rintro e w ⟨rfl, hS⟩) | (go_at_call 32; (with_reducible refine Calls.mono (HIg.out _ hS) ?_); clear hS; rintro e w ⟨rfl, hS⟩) | ((with_reducible refine atList ?_); ((with_reducible refine isGuard ?_); first | go_skip | ((with_reducible refine guarded_no ?hw ?_); (case hw => (simp only [Region.wanted, yielded, zC, zA, zB, zK]; first | exact (rfl : (some true == some false) = false) | exact (rfl : (some false == some true) = false))); (try simp only [Act.put, zE, zF, zG])) | ((with_reducible refine guarded_yes ?hw ?_); case hw => (simp only [Region.wanted, yielded, zC, zA, zB, zK, beq_self_eq_true]; done)) | ((refine' guarded_cases (b := _) ?hy ?_ ?_); (case hy => (simp only [yielded, zC, zA, zB, zK]; exact rfl)); all_goals (intro hb; (try simp only [Bool.not_true, Bool.not_false] at hb); (try simp only [hb]); (try simp only [Act.put, zE, zF, zG]); first | ((have hf : False := by (simp at hb; done)); cases hf) | ((have hf : False := by (simp at hb; omega)); cases hf) | skip)))))
          go_meet
          case rel => exact ⟨by first | rfl | simp [v5], hS⟩
      case rest =>
      obtain ⟨rfl, hSc⟩ := hcut
      clear hS
      have hS := hSc
      clear hSc
      clear HIf HIg
      go_upto_region 18 with fail
      go_cut [147] from 131 to 147 (fun a147 wc => a147 = .bool false ∧ Sat W J2 [m2] wc)
      case first =>
        have hc : (¬ 0 ≤ v ∧ v < 0) ∨ (0 ≤ v ∧ ¬ v < 5 ∧ 5 ≤ v) ∨ (0 ≤ v ∧ v < 5 ∧ e2 = 8 ∧ A = false) ∨ (0 ≤ v ∧ v < 5 ∧ e2 = 8 ∧ A = true ∧ C = false) ∨ (0 ≤ v ∧ v < 5 ∧ ¬ (e2 : Int) = 8 ∧ ((e2 : Int) == 8) = false ∧ A = true ∧ C = true) := by
          by_cases v0 : 0 ≤ v
          · by_cases v5 : v < 5
            · have h := E8.out v0 v5
              by_cases n8 : e2 = 8
              · have h8 := h.1 n8
                cases hA : A with
                | false => exact .inr (.inr (.inl ⟨v0, v5, n8, rfl⟩))
                | true =>
                  cases hC : C with
                  | false => exact .inr (.inr (.inr (.inl ⟨v0, v5, n8, rfl, rfl⟩)))
                  | true => exact absurd ⟨hA, hC⟩ h8
              · have h8 := Classical.not_not.1 (fun x => n8 (h.2 x))
                have n8i : ¬ (e2 : Int) = 8 := by omega
                exact .inr (.inr (.inr (.inr ⟨v0, v5, n8i, by simpa using n8i, h8⟩)))
            · exact .inr (.inl ⟨v0, v5, by omega⟩)
          · exact .inl ⟨v0, by omega⟩
        rcases hc with ⟨v0, v0'⟩ | ⟨v0, v5, v5'⟩ | ⟨v0, v5, rfl, rfl⟩ | ⟨v0, v5, rfl, rfl, rfl⟩ | ⟨v0, v5, n8i, n8b, rfl, rfl⟩
        all_goals
          go_wp2_with (first | ((with_reducible refine atList ?_); ((with_reducible refine isGuard ?_); first | go_skip | ((with_reducible refine guarded_no ?hw ?_); (case hw => (simp only [Region.wanted, yielded, zC, zA, zB, zK]; first | exact (rfl : (some true == some false) = false) | exact (rfl : (some false == some true) = false))); (try simp only [Act.put, zE, zF, zG])) | ((with_reducible refine guarded_yes ?hw ?_); case hw => (simp only [Region.wanted, yielded, zC, zA, zB, zK, beq_self_eq_true]; done)) | ((refine' guarded_cases (b := _) ?hy ?_ ?_); (case hy => (simp only [yielded, zC, zA, zB, zK]; exact rfl)); all_goals (intro hb; (try simp only [Bool.not_true, Bool.not_false] at hb); (try simp only [hb]); (try simp only [Act.put, zE, zF, zG]); first | ((have hf : False := by (simp at hb; done)); cases hf) | ((have hf : False := by (simp at hb; omega)); cases hf) | skip)))))
          go_meet
          case rel => exact ⟨rfl, hS⟩
      case rest =>
      obtain ⟨rfl, hSc⟩ := hcut
      clear hS
      have hS := hSc
      clear hSc
      go_upto_region 20 with fail
      go_cut [155] from 148 to 155 (fun a155 wc => a155 = .bool false ∧ Sat W J2 [m2] wc)
      case first =>
        by_cases z : e2 = 0
        case pos =>
          subst z
          go_wp2_with (first | ((with_reducible refine atList ?_); ((with_reducible refine isGuard ?_); first | go_skip | ((with_reducible refine guarded_no ?hw ?_); (case hw => (simp only [Region.wanted, yielded, zC, zA, zB, zK]; first | exact (rfl : (some true == some false) = false) | exact (rfl : (some false == some true) = false))); (try simp only [Act.put, zE, zF, zG])) | ((with_reducible refine guarded_yes ?hw ?_); case hw => (simp only [Region.wanted, yielded, zC, zA, zB, zK, beq_self_eq_true]; done)) | ((refine' guarded_cases (b := _) ?hy ?_ ?_); (case hy => (simp only [yielded, zC, zA, zB, zK]; exact rfl)); all_goals (intro hb; (try simp only [Bool.not_true, Bool.not_false] at hb); (try simp only [hb]); (try simp only [Act.put, zE, zF, zG]); first | ((have hf : False := by (simp at hb; done)); cases hf) | ((have hf : False := by (simp at hb; omega)); cases hf) | skip)))))
          go_meet
          case rel => exact ⟨rfl, hS⟩
        case neg =>
          have hm2 : G.many s2.pl.slots = many1 := Ebad.out z
          have zi : ¬ (e2 : Int) = 0 := by omega
          have zb : ((e2 : Int) != 0) = true := by simpa using zi
          have zb2 : ((e2 : Int) == 0) = false := by simpa using zi
          have HL := Lib.hid (show Calls Try.prog 12 #[vPt S] wc (fun e w' => e = .returned (nv many1) ∧ wc = w') by rw [← hm2]; exact slen_any (HA2.out.read.le (hS.mle (k := 0) rfl)))
          clear hm2 z
          go_wp2_with (first | (go_at_call 12; (with_reducible refine Calls.mono HL.out ?_); rintro e w9 ⟨rfl, rfl⟩) | ((with_reducible refine atList ?_); ((with_reducible refine isGuard ?_); first | go_skip | ((with_reducible refine guarded_no ?hw ?_); (case hw => (simp only [Region.wanted, yielded, zC, zA, zB, zK]; first | exact (rfl : (some true == some false) = false) | exact (rfl : (some false == some true) = false))); (try simp only [Act.put, zE, zF, zG])) | ((with_reducible refine guarded_yes ?hw ?_); case hw => (simp only [Region.wanted, yielded, zC, zA, zB, zK, beq_self_eq_true]; done)) | ((refine' guarded_cases (b := _) ?hy ?_ ?_); (case hy => (simp only [yielded, zC, zA, zB, zK]; exact rfl)); all_goals (intro hb; (try simp only [Bool.not_true, Bool.not_false] at hb); (try simp only [hb]); (try simp only [Act.put, zE, zF, zG]); first | ((have hf : False := by (simp at hb; done)); cases hf) | ((have hf : False := by (simp at hb; omega)); cases hf) | skip)))))
          go_meet
          case rel => exact ⟨rfl, hS⟩
      case rest =>
      obtain ⟨rfl, hSc⟩ := hcut
      clear hS
      have hS := hSc
      clear hSc
      go_upto_region 23 with (go_at_call 33; (with_reducible refine Calls.mono (sat_gen (HA2.out.read.le (hS.mle (k := 0) rfl)) f Hf.out) ?_); rintro e w2 ⟨qa, qb, qc, rfl, hz, hb⟩; replace hS := hS.below_ hb; clear hb; rw [Eat.out] at hz ⊢; have HZ := Lib.hid hz; clear hz)
      have HOK := Lib.hid (show (A && decide (2 ≤ f)) = (A && decide (2 ≤ f)) from rfl)
      generalize hok : (A && decide (2 ≤ f)) = ok at *
      have Hok := Lib.hid hok
      clear hok HOK
      go_cut [186] from 164 to 186 (fun a186 wc => a186 = .bool false ∧ Sat W J2 [m2] wc)
      case first =>
        have hc : (A = false ∧ ok = false) ∨ (A = true ∧ ok = false ∧ ¬ 2 ≤ f ∧ f < 2 ∧ decide (2 ≤ f) = false) ∨ (A = true ∧ ok = true ∧ 2 ≤ f ∧ decide (2 ≤ f) = true) := by
          have h := Hok.out
          cases hA : A with
          | false => rw [hA] at h; exact .inl ⟨rfl, h.symm⟩
          | true =>
            rw [hA] at h
            by_cases f2 : 2 ≤ f
            · exact .inr (.inr ⟨rfl, by rw [← h]; simp [f2], f2, decide_eq_true f2⟩)
            · exact .inr (.inl ⟨rfl, by rw [← h]; simp [f2], f2, by omega, decide_eq_false f2⟩)
        rcases hc with ⟨rfl, rfl⟩ | ⟨rfl, rfl, f2, f2', f2b⟩ | ⟨rfl, rfl, f2, f2b⟩
        all_goals try (obtain ⟨rfl, rfl, rfl⟩ := HZ.out rfl)
        all_goals
          go_wp2_with (first | ((with_reducible refine atList ?_); ((with_reducible refine isGuard ?_); first | go_skip | ((with_reducible refine guarded_no ?hw ?_); (case hw => (simp only [Region.wanted, yielded, zC, zA, zB, zK]; first | exact (rfl : (some true == some false) = false) | exact (rfl : (some false == some true) = false))); (try simp only [Act.put, zE, zF, zG])) | ((with_reducible refine guarded_yes ?hw ?_); case hw => (simp only [Region.wanted, yielded, zC, zA, zB, zK, beq_self_eq_true]; done)) | ((refine' guarded_cases (b := _) ?hy ?_ ?_); (case hy => (simp only [yielded, zC, zA, zB, zK]; exact rfl)); all_goals (intro hb; (try simp only [Bool.not_true, Bool.not_false] at hb); (try simp only [hb]); (try simp only [Act.put, zE, zF, zG]); first | ((have hf : False := by (simp at hb; done)); cases hf) | ((have hf : False := by (simp at hb; omega)); cases hf) | skip)))))
          go_meet
          case rel => exact ⟨by first | rfl | simp [f2], hS⟩
      case rest =>
      obtain ⟨rfl, hSc⟩ := hcut
      clear hS
      have hS := hSc
      clear hSc
      go_upto_region 27 with (first
        | (go_at_call 27; (with_reducible refine Calls.mono (shold_any R1.out Hf.out HA2.out hS) ?_); clear hS; rintro e w ⟨rfl, m3, hA3, hS⟩; have HA3 := Lib.hid hA3; clear hA3)
        | (go_at_call 34; (with_reducible refine Calls.mono (sheld_any (HA3.out.read.le (hS.mle (k := 0) rfl)) f Hf.out) ?_); rintro e w2 ⟨rfl, hb⟩; replace hS := hS.below_ hb; clear hb; rw [Eheld.out]))
      go_cut [221] from 193 to 221 (fun a221 wc => a221 = .bool false ∧ Sat W J2 [m3] wc)
      case first =>
        have hc : (A = false ∧ ok = false) ∨ (A = true ∧ ok = false ∧ ¬ 2 ≤ f ∧ f < 2 ∧ decide (2 ≤ f) = false) ∨ (A = true ∧ ok = true ∧ 2 ≤ f ∧ decide (2 ≤ f) = true) := by
          have h := Hok.out
          cases hA : A with
          | false => rw [hA] at h; exact .inl ⟨rfl, h.symm⟩
          | true =>
            rw [hA] at h
            by_cases f2 : 2 ≤ f
            · exact .inr (.inr ⟨rfl, by rw [← h]; simp [f2], f2, decide_eq_true f2⟩)
            · exact .inr (.inl ⟨rfl, by rw [← h]; simp [f2], f2, by omega, decide_eq_false f2⟩)
        have h3 := E3.out
        rcases hc with ⟨rfl, rfl⟩ | ⟨rfl, rfl, f2, f2', f2b⟩ | ⟨rfl, rfl, f2, f2b⟩
        all_goals first | (obtain rfl : e3 = 8 := h3) | (obtain rfl : e3 = 0 := h3)
        all_goals
          go_wp2_with (first | ((with_reducible refine atList ?_); ((with_reducible refine isGuard ?_); first | go_skip | ((with_reducible refine guarded_no ?hw ?_); (case hw => (simp only [Region.wanted, yielded, zC, zA, zB, zK]; first | exact (rfl : (some true == some false) = false) | exact (rfl : (some false == some true) = false))); (try simp only [Act.put, zE, zF, zG])) | ((with_reducible refine guarded_yes ?hw ?_); case hw => (simp only [Region.wanted, yielded, zC, zA, zB, zK, beq_self_eq_true]; done)) | ((refine' guarded_cases (b := _) ?hy ?_ ?_); (case hy => (simp only [yielded, zC, zA, zB, zK]; exact rfl)); all_goals (intro hb; (try simp only [Bool.not_true, Bool.not_false] at hb); (try simp only [hb]); (try simp only [Act.put, zE, zF, zG]); first | ((have hf : False := by (simp at hb; done)); cases hf) | ((have hf : False := by (simp at hb; omega)); cases hf) | skip)))))
          go_meet
          case rel => exact ⟨by first | rfl | simp [f2], hS⟩
      case rest =>
      obtain ⟨rfl, hSc⟩ := hcut
      clear hS
      have hS := hSc
      clear hSc
      go_upto_region 31 with (first
        | (go_at_call 30; (with_reducible refine Calls.mono (sdrop_any R2.out Hf.out HA3.out hS) ?_); clear hS; rintro e w ⟨rfl, m4, hA4, hS⟩; have HA4 := Lib.hid hA4; clear hA4)
        | (go_at_call 30; (with_reducible refine Calls.mono (sdrop_any R3.out Hf.out HA4.out hS) ?_); clear hS; rintro e w ⟨rfl, m5, hA5, hS⟩; have HA5 := Lib.hid hA5; clear hA5))
      have hc : (A = false ∧ e3 = 8 ∧ e5 = 8) ∨ (A = true ∧ e3 = 0 ∧ e5 = 5 ∧ 2 ≤ f) ∨ (A = true ∧ e3 = 0 ∧ e5 = 0 ∧ ¬ 2 ≤ f ∧ f < 2) := by
        have h3 := E3.out
        have h5 := E5.out
        cases hA : A with
        | false => rw [hA] at h3 h5; exact .inl ⟨rfl, h3, h5⟩
        | true =>
          rw [hA] at h3 h5
          by_cases f2 : 2 ≤ f
          · rw [if_pos rfl, if_pos f2] at h5; exact .inr (.inl ⟨rfl, h3, h5, f2⟩)
          · rw [if_pos rfl, if_neg f2] at h5; exact .inr (.inr ⟨rfl, h3, h5, f2, by omega⟩)
      have hWJ := Lib.hid Ha2.out
      rcases hc with ⟨rfl, rfl, rfl⟩ | ⟨rfl, rfl, rfl, f2⟩ | ⟨rfl, rfl, rfl, f2, f2'⟩
      all_goals
        go_wp2_with (first | (go_at_call 17; (with_reducible refine Calls.mono (lives_any hS) ?_); clear hS; rintro e w ⟨rfl, hS⟩) | ((with_reducible refine atList ?_); ((with_reducible refine isGuard ?_); first | go_skip | ((with_reducible refine guarded_no ?hw ?_); (case hw => (simp only [Region.wanted, yielded, zC, zA, zB, zK]; first | exact (rfl : (some true == some false) = false) | exact (rfl : (some false == some true) = false))); (try simp only [Act.put, zE, zF, zG])) | ((with_reducible refine guarded_yes ?hw ?_); case hw => (simp only [Region.wanted, yielded, zC, zA, zB, zK, beq_self_eq_true]; done)) | ((refine' guarded_cases (b := _) ?hy ?_ ?_); (case hy => (simp only [yielded, zC, zA, zB, zK]; exact rfl)); all_goals (intro hb; (try simp only [Bool.not_true, Bool.not_false] at hb); (try simp only [hb]); (try simp only [Act.put, zE, zF, zG]); first | ((have hf : False := by (simp at hb; done)); cases hf) | ((have hf : False := by (simp at hb; omega)); cases hf) | skip)))))
      all_goals
        go_ret
        exact ⟨rfl, hS.end_ hWJ.out⟩
end Go.Proofs.Ytdhkkkhnjooioaa
