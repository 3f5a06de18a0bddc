import Derived.Test.YtdhkkkhnjooioaaKz
import Derived.Test.YtdhkkkhnjooioaaKw
import Derived.Test.YtdhkkkhnjooioaaFd
import Derived.Deep.CutRange
namespace Go.Proofs.Ytdhkkkhnjooioaa
set_option linter.unusedSimpArgs false
set_option linter.unusedVariables false
open Go.RowKit
set_option linter.unusedVariables false
theorem ty_agg5 : aggB Try.prog 5 = some false := by kernel_rfl
theorem ty_sz5 : sizeB Try.prog 5 = some 1 := by kernel_rfl
theorem ty_z5 : zeroB Try.prog 5 = some (.int .u8 0) := by kernel_rfl
theorem bytes_at {W : World} {A : Option Addr} {l : List Int} (h : RL W W.heap.size 1 A l.length (l.map (Value.int .u8))) (hw : ∀ x ∈ l, 0 ≤ x ∧ x ≤ 255) : ∀ i, i < l.length → ∃ X off q : Nat, A = some ⟨X, off, none⟩ ∧ q < 256 ∧ (heapOf W).at X (off + i) = some (.int .u8 (q : Int)) := fun i hi => by
  obtain ⟨X, off, e, _, hc⟩ := h.at_ (by omega)
  have hx := List.getElem?_eq_getElem hi
  have hb := hw _ (List.getElem_mem hi)
  obtain ⟨q, hq⟩ := Int.eq_ofNat_of_zero_le hb.1
  refine ⟨X, off, q, e, by omega, PH.at_of_cell (fun _ h => h) ?_⟩
  rw [hc i (by omega), List.getElem?_map, hx, hq]
  rfl
theorem below_start {E w : World} {J : PH} {ms : List PH} {o u : Value} {os : List Nat} {x : Nat} (ho : G.Ordr 5 os) (h5 : os.length = 5) (hN : NumR J o os) (hu : BoolR J u (G.bitsT x)) (hS : Sat E J ms w) :
    Calls Try.prog 26 #[o, u, .slice none 0 0] w fun e w' => ∃ r K, e = .returned r ∧ J.le K ∧ RowsR K r (G.belowT 6 os (G.bitsT x) []) ∧ Sat E K ms w' :=
  rbelow_any ho ho.lt (by omega) (by decide) 6 hN hu (RowsR.nil J none 0) (G.isT5 x) (fun y h => by cases h) (by omega) (by decide) hS
theorem below_next {E w : World} {J : PH} {ms : List PH} {o u r : Value} {os : List Nat} {x y : Nat} (ho : G.Ordr 5 os) (h5 : os.length = 5) (hN : NumR J o os) (hu : BoolR J u (G.bitsT y)) (hr : RowsR J r (G.belowT 6 os (G.bitsT x) [])) (hS : Sat E J ms w) :
    Calls Try.prog 26 #[o, u, r] w fun e w' => ∃ r K, e = .returned r ∧ J.le K ∧ RowsR K r (G.blw os (G.bitsT x) (G.bitsT y)) ∧ Sat E K ms w' :=
  rbelow_any ho ho.lt (by omega) (by decide) 6 hN hu hr (G.isT5 y) (belowT_is 6 _ _ (G.isT5 x) fun y h => by cases h) (by omega) (by
    have := G.belowT_len 6 os (G.bitsT x) []
    rw [List.length_nil] at this
    omega) hS
theorem below_next2 {E w : World} {J : PH} {ms : List PH} {o u r : Value} {os : List Nat} {x y T : Nat} (ho : G.Ordr 5 os) (h5 : os.length = 5) (hT : (G.blw os (G.bitsT x) (G.bitsT y)).length = T) (hN : NumR J o os) (hu : BoolR J u (G.bitsT y)) (hr : RowsR J r (G.belowT 6 os (G.bitsT x) [])) (hS : Sat E J ms w) :
    Calls Try.prog 26 #[o, u, r] w fun e w' => ∃ A c K, e = .returned (.slice A T c) ∧ J.le K ∧ Sat E K ms w' := by
  refine (below_next ho h5 hN hu hr hS).mono ?_
  rintro e w' ⟨r2, K, rfl, k, hr2, h⟩
  obtain ⟨⟨A, c, rfl⟩, _⟩ := hr2.get
  rw [hT]
  exact ⟨A, c, K, rfl, k, h⟩
theorem num_eq {J : PH} {v : Value} {l l' : List Nat} (h : NumR J v l) (e : l' = l) : NumR J v l' := e ▸ h
theorem order_r {E w : World} {I m : PH} {ms : List PH} {S : Nat} {s : G.St} (hA : StAt S s m) (hS : Sat E I (m :: ms) w) :
    Calls Try.prog 9 #[vPt S] w fun e w' => ∃ v K, e = .returned v ∧ I.le K ∧ NumR K v s.vars ∧ Sat E K (m :: ms) w' := by
  refine (sorder_any (hA.read.le (hS.own _ (.head _))) hS).mono ?_
  rintro e w' ⟨v, m', rfl, hO, h⟩
  obtain ⟨K, k1, k2, h2, _⟩ := h.ice
  exact ⟨v, K, rfl, k1, hO.num.le k2, h2⟩
theorem table_r {E w : World} {I m : PH} {ms : List PH} {S f B : Nat} {s : G.St} {t : List Bool} (hok : G.StOk B s) (h5 : s.vars.length = 5) (hv : G.val s.nd f) (ht : s.tb f = t) (hb : f < 4611686018427387904) (hl : t.length = 2 ^ 5) (hA : StAt S s m) (hS : Sat E I (m :: ms) w) :
    Calls Try.prog 16 #[vPt S, nv f, .int .i64 5] w fun e w' => ∃ v K, e = .returned v ∧ I.le K ∧ BoolR K v t ∧ Sat E K (m :: ms) w' := by
  have h1 := hok.tb_at hv ht
  rw [h5] at h1
  refine (show Calls Try.prog 16 #[vPt S, nv f, .int .i64 5] w _ from table_any (n := 5) (hA.read.le (hS.own _ (.head _))) hb (by decide) hl h1 hS).mono ?_
  rintro e w' ⟨v, m', rfl, hO, h⟩
  obtain ⟨K, k1, k2, h2, _⟩ := h.ice
  exact ⟨v, K, rfl, k1, hO.boolR.le k2, h2⟩
theorem nsame_self {E w : World} {I : PH} {ms : List PH} {v u : Value} {l : List Nat} (hl : NumR I v l) (hm : NumR I u l) (hb : l.length ≤ 4611686018427387904) (hS : Sat E I ms w) :
    Calls Try.prog 22 #[v, u] w fun e w' => e = .returned (.bool true) ∧ Sat E I ms w' := by
  refine (nsame_any hl hm hb hS).mono ?_
  rintro e w' ⟨rfl, h⟩
  exact ⟨by simp, h⟩
theorem bsame_self {E w : World} {I : PH} {ms : List PH} {v u : Value} {l : List Bool} (hl : BoolR I v l) (hm : BoolR I u l) (hb : l.length ≤ 4611686018427387904) (hS : Sat E I ms w) :
    Calls Try.prog 15 #[v, u] w fun e w' => e = .returned (.bool true) ∧ Sat E I ms w' := by
  refine (bsame_any hl hm hb hS).mono ?_
  rintro e w' ⟨rfl, h⟩
  exact ⟨by simp, h⟩
theorem blw_len (os : List Nat) (x y : Nat) : (G.blw os (G.bitsT x) (G.bitsT y)).length ≤ 126 := by
  show (G.belowT 6 os (G.bitsT y) (G.belowT 6 os (G.bitsT x) [])).length ≤ 126
  have h1 := G.belowT_len 6 os (G.bitsT y) (G.belowT 6 os (G.bitsT x) [])
  have h2 := G.belowT_len 6 os (G.bitsT x) []
  rw [List.length_nil] at h2
  omega
set_option maxRecDepth 1000000 in
set_option maxHeartbeats 16000000 in
theorem swaps_long (W : World) (x y more : Int) (A : Option Addr) (n c : Nat) (hn : 24 < n) : Calls Try.prog 5 #[.int .u32 x, .int .u32 y, .int .u8 more, .slice A n c] W fun e w' => e = .returned (.bool true) ∧ Below W.heap.size W w' := by
  have hS := Sat.start W
  have hni : (24 : Int) < (n : Int) := by omega
  clear hn
  go_enter Try.func5, Try.ntmps5
  go_wp2_with (first | (go_at_call 17; (with_reducible refine Calls.mono (lives_any hS) ?_); clear hS; rintro e w ⟨rfl, hS⟩))
  go_ret
  exact ⟨rfl, hS.end_ (PH.le.refl _)⟩
set_option maxRecDepth 1000000 in
set_option maxHeartbeats 16000000 in
theorem swaps_any (W : World) (x y more : Nat) (A : Option Addr) (l : List Int) (c : Nat) (hx : x < 4294967296) (hy : y < 4294967296) (hmore : more < 256) (hR : RL W W.heap.size 1 A l.length (l.map (Value.int .u8))) (hw : ∀ x ∈ l, 0 ≤ x ∧ x ≤ 255) : Calls Try.prog 5 #[.int .u32 (x : Int), .int .u32 (y : Int), .int .u8 (more : Int), .slice A l.length c] W fun e w' => e = .returned (.bool true) ∧ Below W.heap.size W w' := by
  by_cases hlong : 24 < l.length
  · exact swaps_long W x y more A l.length c hlong
  have hS := Sat.start W
  have HBx := Lib.hid hx
  have HBy := Lib.hid hy
  have HBy' := Lib.hid (bytes_at hR hw)
  clear hx hy hR hw
  generalize l.length = n at *
  have hn : n ≤ 24 := by omega
  have hni : (n : Int) ≤ 24 := by omega
  go_enter Try.func5, Try.ntmps5
  go_wp2_with (first | ((with_reducible refine isBuildSlice ?_); (refine' bsl hS ?hr ?_); (case hr => (intro w0; go_simp; rfl)); clear hS; intro XS w hS; (try simp only [zF, zG, zE, Act.eval, zD, zC, zA, zB, zJ, Value.cells] at hS); (try simp only [Act.put, zE, zF, zG])))
  refine Veil.out ?_
  obtain ⟨J1, a1, e1, hS1, _⟩ := hS.ice
  have hN1 := Lib.hid ((lit5 XS).le e1)
  refine ⟨?_⟩
  have Ha1 := Lib.hid a1
  clear hS e1 a1
  have hS := hS1
  clear hS1
  refine (bits_any y HBy.out hS).mono ?_
  clear hS
  rintro e w ⟨u1, L1, rfl, j1, bx1, hS⟩
  have Hj1 := Lib.hid j1
  have Hx1 := Lib.hid bx1
  clear j1 bx1
  go_wp2_with fail
  refine (bits_any x HBx.out hS).mono ?_
  clear hS
  rintro e w ⟨u2, L2, rfl, j2, bx2, hS⟩
  have Hj2 := Lib.hid j2
  have Hx2 := Lib.hid bx2
  clear j2 bx2
  go_wp2_with fail
  refine (below_start G.ordr5 rfl ((hN1.out.le Hj1.out).le Hj2.out) Hx2.out hS).mono ?_
  clear hS
  rintro e w ⟨r1, K1, rfl, jk1, hr1, hS⟩
  have Hk1 := Lib.hid jk1
  have Hr1 := Lib.hid hr1
  clear jk1 hr1
  go_wp2_with fail
  refine (below_next G.ordr5 rfl (((hN1.out.le Hj1.out).le Hj2.out).le Hk1.out) ((Hx1.out.le Hj2.out).le Hk1.out) Hr1.out hS).mono ?_
  clear hS
  rintro e w ⟨r2, K2, rfl, jk2, hr2, hS⟩
  have Hk2 := Lib.hid jk2
  have Hr2 := Lib.hid hr2
  obtain ⟨⟨A2, c2, rfl⟩, _⟩ := hr2.get
  clear jk2 hr2
  have hL := blw_len G.o5 x y
  generalize hLn : (G.blw G.o5 (G.bitsT x) (G.bitsT y)).length = L at *
  have HLn := Lib.hid hLn
  clear hLn
  go_wp2_with fail
  have hrm : 3 * (L : Int) + (more : Int) % 40 + 1 = ((3 * L + more % 40 + 1 : Nat) : Int) := by omega
  have hrb : 1 ≤ 3 * L + more % 40 + 1 ∧ 3 * L + more % 40 + 1 ≤ 1048576 ∧ L ≤ 3 * L + more % 40 + 1 ∧ 3 * L + more % 40 + 1 ≤ 999 := by omega
  rw [hrm]
  clear hrm
  generalize 3 * L + more % 40 + 1 = room at *
  obtain ⟨s1, f, s2, g, two⟩ := G.two_ok room x y hrb.1 hrb.2.1 (by rw [show (G.belowT 6 G.o5 (G.bitsT y) (G.belowT 6 G.o5 (G.bitsT x) [])).length = L from HLn.out]; exact hrb.2.2.1)
  obtain ⟨s3, s4, q1, k3, q2, hel, v4, room4⟩ := G.hel_start two.b2.ok (by rw [two.v2]; rfl) two.vf two.b2.val two.tf two.b2.tb (fun i => by rw [two.b2.gro.refs, two.b1.gro.refs]; exact G.refs_new 5 room i)
  have hfl := two.b2.ok.val_lt two.vf
  have hgl := two.b2.ok.val_lt two.b2.val
  have v5 : s4.vars = G.o5 := v4.trans two.v2
  have room5 : s4.pl.room = room := room4.trans (two.b2.gro.room.trans (two.b1.gro.room.trans rfl))
  have K0 : G.StOk 0 (G.St.new 5 room) := G.StOk.new (by decide) hrb.1 hrb.2.1
  have HK0 := Lib.hid K0
  have HRl := Lib.hid hrb.2.2.2
  have TW := Lib.hid two
  have Q1 := Lib.hid q1
  have Q2 := Lib.hid q2
  have K3 := Lib.hid k3
  have HEL := Lib.hid hel
  have V5 := Lib.hid v5
  have RM := Lib.hid room5
  clear two q1 k3 q2 hel v4 room4 v5 room5 K0
  have hl5 : ∀ v ∈ G.o5, v < 5 := by decide
  refine (show Calls Try.prog 8 #[.int .i64 5, nv room] _ (fun e w' => ∃ S m, e = .returned (.tuple #[vPt S, .int .i64 0]) ∧ StAt S (G.St.new 5 room) m ∧ Sat W K2 (m :: []) w') from snew_ok 5 room (by decide) hrb.1 hrb.2.1 hS).mono ?_
  clear hS hrb
  rintro e w ⟨S, m0, rfl, hA0, hS⟩
  have HA0 := Lib.hid hA0
  clear hA0
  have hfb : (f : Int) < 9223372036854775808 := by omega
  have hgb : (g : Int) < 9223372036854775808 := by omega
  have Hfb := Lib.hid hfb
  have Hgb := Lib.hid hgb
  have Hfl := Lib.hid hfl
  have Hgl := Lib.hid hgl
  clear hfb hgb hfl hgl hL
  have HN2 := Lib.hid ((((hN1.out.le Hj1.out).le Hj2.out).le Hk1.out).le Hk2.out)
  go_wp2_with (first | ((with_reducible refine atList ?_); ((with_reducible refine isGuard ?_); first | go_skip | ((with_reducible refine guarded_no ?hw ?_); (case hw => (simp only [Region.wanted, yielded, zC, zA, zB, zK]; first | exact (rfl : (some true == some false) = false) | exact (rfl : (some false == some true) = false))); (try simp only [Act.put, zE, zF, zG])) | ((with_reducible refine guarded_yes ?hw ?_); case hw => (simp only [Region.wanted, yielded, zC, zA, zB, zK, beq_self_eq_true]; done)) | ((refine' guarded_cases (b := _) ?hy ?_ ?_); (case hy => (simp only [yielded, zC, zA, zB, zK]; exact rfl)); all_goals (intro hb; (try simp only [Bool.not_true, Bool.not_false] at hb); (try simp only [hb]); (try simp only [Act.put, zE, zF, zG]); first | ((have hf : False := by (simp at hb; done)); cases hf) | ((have hf : False := by (simp at hb; omega)); cases hf) | skip)))))
  refine (bits_any x HBx.out hS).mono ?_
  clear hS
  rintro e w ⟨u3, L3, rfl, j3, bx3, hS⟩
  have Hj3 := Lib.hid j3
  have Hx3 := Lib.hid bx3
  clear j3 bx3
  go_wp2_with fail
  refine (build_any hl5 (by decide) (by decide) 6 _ _ _ _ _ _ _ _ _ _ TW.out.r1 HK0.out (HN2.out.le Hj3.out) Hx3.out (G.bitsT_len x) HA0.out hS).mono ?_
  clear hS
  rintro e w ⟨rfl, m1, hA1, hS⟩
  have HA1 := Lib.hid hA1
  clear hA1
  go_wp2_with fail
  refine (bits_any y HBy.out hS).mono ?_
  clear hS
  rintro e w ⟨u4, L4, rfl, j4, bx4, hS⟩
  have Hj4 := Lib.hid j4
  have Hx4 := Lib.hid bx4
  clear j4 bx4
  go_wp2_with fail
  refine (build_any hl5 (by decide) (by decide) 6 _ _ _ _ _ _ _ _ _ _ TW.out.r2 TW.out.b1.ok ((HN2.out.le Hj3.out).le Hj4.out) Hx4.out (G.bitsT_len y) HA1.out hS).mono ?_
  clear hS
  rintro e w ⟨rfl, m2, hA2, hS⟩
  have HA2 := Lib.hid hA2
  clear hA2
  go_wp2_with (first
    | (go_at_call 27; (with_reducible refine Calls.mono (shold_any Q1.out Hfb.out HA2.out hS) ?_); clear hS; rintro e w ⟨rfl, m3, hA3, hS⟩; have HA3 := Lib.hid hA3; clear hA3)
    | (go_at_call 27; (with_reducible refine Calls.mono (shold_any Q2.out Hgb.out HA3.out hS) ?_); clear hS; rintro e w ⟨rfl, m4, hA4, hS⟩; have HA4 := Lib.hid hA4; clear hA4)
    | ((with_reducible refine atList ?_); ((with_reducible refine isGuard ?_); first | go_skip | ((with_reducible refine guarded_no ?hw ?_); (case hw => (simp only [Region.wanted, yielded, zC, zA, zB, zK]; first | exact (rfl : (some true == some false) = false) | exact (rfl : (some false == some true) = false))); (try simp only [Act.put, zE, zF, zG])) | ((with_reducible refine guarded_yes ?hw ?_); case hw => (simp only [Region.wanted, yielded, zC, zA, zB, zK, beq_self_eq_true]; done)) | ((refine' guarded_cases (b := _) ?hy ?_ ?_); (case hy => (simp only [yielded, zC, zA, zB, zK]; exact rfl)); all_goals (intro hb; (try simp only [Bool.not_true, Bool.not_false] at hb); (try simp only [hb]); (try simp only [Act.put, zE, zF, zG]); first | ((have hf : False := by (simp at hb; done)); cases hf) | ((have hf : False := by (simp at hb; omega)); cases hf) | skip)))))
  have HWJ := Lib.hid (PH.le.trans (PH.le.trans (PH.le.trans (PH.le.trans (PH.le.trans (PH.le.trans Ha1.out Hj1.out) Hj2.out) Hk1.out) Hk2.out) Hj3.out) Hj4.out)
  have HN4 := Lib.hid ((HN2.out.le Hj3.out).le Hj4.out)
  clear HA0 HA1 HA2 HA3 HK0 K3 hN1
  go_loopw [9, 10, 18, 19, 20, 21] (fun a9 a10 a18 _ _ _ wr => ∃ (i : Nat) (s : G.St) (J m : PH) (T : Nat) (A3 : Option Addr) (c3 : Nat), i ≤ n ∧ a18 = .int .i64 (i : Int) ∧ (heapOf W).le J ∧ G.Hel s (G.bitsT x) (G.bitsT y) f g ∧ s.pl.room = room ∧ StAt S s m ∧ NumR J a9 s.vars ∧ a10 = .slice A3 T c3 ∧ (G.blw s.vars (G.bitsT x) (G.bitsT y)).length = T ∧ Sat W J [m] wr) (fun _ _ a18 _ _ _ _ => (n - intOf a18).toNat)
  case atStart => exact ⟨0, s4, L4, m4, L, A2, c2, Nat.zero_le _, rfl, HWJ.out, HEL.out, RM.out, HA4.out, by rw [V5.out]; exact HN4.out, rfl, by rw [V5.out]; exact HLn.out, hS⟩
  case round =>
    clear hS
    obtain ⟨i, s, J, m, T, A3, c3, hin, rfl, hWJ, hel, hroom, hA, hN, rfl, hT, hS⟩ := hrel
    have HWJ2 := Lib.hid hWJ
    have HHel := Lib.hid hel
    have HRoom := Lib.hid hroom
    have HSt := Lib.hid hA
    have HNum := Lib.hid hN
    have HT := Lib.hid hT
    by_cases hlt : i < n
    · obtain ⟨X, off, q, rfl, hq, hat⟩ := HBy'.out i hlt
      have iB := PH.at_le hWJ hat
      have h5 := hel.five
      obtain ⟨s', hel', room', hsw⟩ := hel.swap (k := q % 4) (Nat.mod_lt _ (by decide))
      have hq4 : (q : Int) % 4 = ((q % 4 : Nat) : Int) := by omega
      have hk4 : q % 4 < 4 := Nat.mod_lt _ (by decide)
      generalize q % 4 = k at *
      have ha : s.vars[k]? = some (s.vars.getD k 0) := by rw [List.getD_eq_getElem?_getD, List.getElem?_eq_getElem (by omega)]; rfl
      have hb : s.vars[k + 1]? = some (s.vars.getD (k + 1) 0) := by rw [List.getD_eq_getElem?_getD, List.getElem?_eq_getElem (by omega)]; rfl
      have HSW := Lib.hid (fun (w' : World) (h9 : Sat W J [m] w') => rswapped_any hN (by omega) ha hb (by omega) h9)
      have hmany : G.many s.pl.slots ≤ 1000000 := by
        have h1 := G.many_le s.pl.slots
        have h2 := hel.ok.pl.len
        have h3 := HRl.out
        omega
      have HSwap := Lib.hid (fun (er : Nat) (hm : s.swap (k : Int) = some (s', er)) (J' : PH) (w' : World) (h9 : Sat W J' [m] w') => sswap_any hm hel.ok.sane hel.ok.pm (G.StOk.swap_len hel.ok hmany) hA h9)
      have HHel' := Lib.hid hel'
      have HRoom' := Lib.hid room'
      clear hWJ hel hroom hA hN hT hat ha hb h5 hel' room' hmany hk4
      have hii : (i : Int) < (n : Int) := by omega
      have HLn' := Lib.hid (fun (I9 m9 : PH) (w' : World) (hA9 : StAt S s' m9) (h9 : Sat W I9 [m9] w') => slen_any (hA9.read.le (h9.mle (k := 0) rfl)))
      have HDe' := Lib.hid (fun (I9 m9 : PH) (w' : World) (hA9 : StAt S s' m9) (h9 : Sat W I9 [m9] w') => sdead_any (hA9.read.le (h9.mle (k := 0) rfl)))
      have hL5 : s'.vars.length ≤ 4611686018427387904 := by have := HHel'.out.five; omega
      have HL5 := Lib.hid hL5
      have hlive := HHel'.out.live
      have hm9 := Nat.le_trans (G.many_le s'.pl.slots) HHel'.out.ok.pl.len
      generalize G.many s'.pl.slots = many at *
      generalize s'.dead = dead at *
      obtain ⟨T', hT'⟩ : ∃ T', (G.blw s'.vars (G.bitsT x) (G.bitsT y)).length = T' := ⟨_, rfl⟩
      have hT126 : T' ≤ 126 := hT' ▸ blw_len s'.vars x y
      rw [hT'] at hlive
      subst hlive
      have HT' := Lib.hid hT'
      have hm9' : T' + dead ≤ 1000 := by have := HRl.out; have := HRoom'.out; have := HRoom.out; omega
      have ho5 : G.Ordr 5 s'.vars := by
        have := HHel'.out.ok.pm.ordr
        rwa [HHel'.out.five] at this
      have Ho5 := Lib.hid ho5
      have h55 := HHel'.out.five
      have H55 := Lib.hid h55
      clear hL5 hm9 hT' ho5 h55
      have Hfb2 := Lib.hid (show f < 4611686018427387904 by have := Hfl.out; omega)
      have Hgb2 := Lib.hid (show g < 4611686018427387904 by have := Hgl.out; omega)
      rcases hsw with ⟨hr, hv, hlt7⟩ | ⟨hr, hv⟩
      case inl =>
        have Hr := Lib.hid hr
        have Hv := Lib.hid hv
        have hr7 : (room : Int) < 3 * (T : Int) := by
          have h1 := HRoom.out
          have h2 := HT.out
          omega
        obtain rfl : T = T' := by rw [← HT.out, ← HT'.out, hv]
        clear hr hv hlt7
        go_upto_region 18 with (first
          | (go_at_call 28; (with_reducible refine Calls.mono (HSW.out _ hS) ?_); clear hS; rintro e w ⟨un, J3, rfl, hJ3, hun, hS⟩; have HJ3 := Lib.hid hJ3; have HUn := Lib.hid hun; have iB3 := PH.at_le hJ3 iB; clear hJ3 hun)
          | (go_at_call 29; (with_reducible refine Calls.mono (HSwap.out _ Hr.out _ _ hS) ?_); clear hS; rintro e w ⟨rfl, m5, hA5, hS⟩; have HA5 := Lib.hid hA5; clear hA5)
          | ((with_reducible refine isLoad ?_); (refine' ldI1 (v := _) hS rfl rfl ty_agg5 rfl ?hb ?_); (case hb => assumption); (try simp only [Act.put, zE, zF, zG]))
          | ((with_reducible refine atList ?_); ((with_reducible refine isGuard ?_); first | go_skip | ((with_reducible refine guarded_no ?hw ?_); (case hw => (simp only [Region.wanted, yielded, zC, zA, zB, zK]; first | exact (rfl : (some true == some false) = false) | exact (rfl : (some false == some true) = false))); (try simp only [Act.put, zE, zF, zG])) | ((with_reducible refine guarded_yes ?hw ?_); case hw => (simp only [Region.wanted, yielded, zC, zA, zB, zK, beq_self_eq_true]; done)) | ((refine' guarded_cases (b := _) ?hy ?_ ?_); (case hy => (simp only [yielded, zC, zA, zB, zK]; exact rfl)); all_goals (intro hb; (try simp only [Bool.not_true, Bool.not_false] at hb); (try simp only [hb]); (try simp only [Act.put, zE, zF, zG]); first | ((have hf : False := by (simp at hb; done)); cases hf) | ((have hf : False := by (simp at hb; omega)); cases hf) | skip)))))
        go_cut [129] from 113 to 129 (fun a129 wc => a129 = .bool false ∧ Sat W J3 [m5] wc)
        case first =>
          go_wp2_with (first | ((with_reducible refine atList ?_); ((with_reducible refine isGuard ?_); first | go_skip | ((with_reducible refine guarded_no ?hw ?_); (case hw => (simp only [Region.wanted, yielded, zC, zA, zB, zK]; first | exact (rfl : (some true == some false) = false) | exact (rfl : (some false == some true) = false))); (try simp only [Act.put, zE, zF, zG])) | ((with_reducible refine guarded_yes ?hw ?_); case hw => (simp only [Region.wanted, yielded, zC, zA, zB, zK, beq_self_eq_true]; done)) | ((refine' guarded_cases (b := _) ?hy ?_ ?_); (case hy => (simp only [yielded, zC, zA, zB, zK]; exact rfl)); all_goals (intro hb; (try simp only [Bool.not_true, Bool.not_false] at hb); (try simp only [hb]); (try simp only [Act.put, zE, zF, zG]); first | ((have hf : False := by (simp at hb; done)); cases hf) | ((have hf : False := by (simp at hb; omega)); cases hf) | skip)))))
          go_meet
          case rel => exact ⟨congrArg Value.bool (decide_eq_false (by omega)), hS⟩
        case rest =>
        obtain ⟨rfl, hSc⟩ := hcut
        clear hS
        have hS := hSc
        clear hSc
        have HNO := Lib.hid (num_eq (HNum.out.le HJ3.out) Hv.out)
        go_upto_region 23 with fail
        go_cut [173] from 141 to 173 (fun a173 wc => a173 = .bool false ∧ ∃ K, J3.le K ∧ Sat W K [m5] wc)
        case first =>
          go_wp2_with (first
            | (go_at_call 9; (with_reducible refine Calls.mono (order_r HA5.out hS) ?_); clear hS; rintro e w ⟨vo, K5, rfl, k5, n5, hS⟩; have HK5 := Lib.hid k5; have HN5 := Lib.hid n5; clear k5 n5)
            | (go_at_call 22; (with_reducible refine Calls.mono (nsame_self HN5.out (HNO.out.le HK5.out) HL5.out hS) ?_); clear hS; rintro e w ⟨rfl, hS⟩)
            | (go_at_call 12; (with_reducible refine Calls.mono (HLn'.out _ _ _ HA5.out hS) ?_); rintro e w9 ⟨rfl, rfl⟩)
            | (go_at_call 21; (with_reducible refine Calls.mono (HDe'.out _ _ _ HA5.out hS) ?_); rintro e w9 ⟨rfl, rfl⟩)
            | (go_at_call 16; first
              | ((with_reducible refine Calls.mono (table_r HHel'.out.ok HHel'.out.five HHel'.out.vf HHel'.out.tf Hfb2.out (G.bitsT_len x) HA5.out hS) ?_); clear hS; rintro e w ⟨v6, K6, rfl, k6, b6, hS⟩; have HK6 := Lib.hid k6; have HB6 := Lib.hid b6; clear k6 b6)
              | ((with_reducible refine Calls.mono (table_r HHel'.out.ok HHel'.out.five HHel'.out.vg HHel'.out.tg Hgb2.out (G.bitsT_len y) HA5.out hS) ?_); clear hS; rintro e w ⟨v8, K8, rfl, k8, b8, hS⟩; have HK8 := Lib.hid k8; have HB8 := Lib.hid b8; clear k8 b8))
            | (go_at_call 11; first
              | ((with_reducible refine Calls.mono (bits_any x HBx.out hS) ?_); clear hS; rintro e w ⟨u7, K7, rfl, k7, b7, hS⟩; have HK7 := Lib.hid k7; have HB7 := Lib.hid b7; clear k7 b7)
              | ((with_reducible refine Calls.mono (bits_any y HBy.out hS) ?_); clear hS; rintro e w ⟨u9, K9, rfl, k9, b9, hS⟩; have HK9 := Lib.hid k9; have HB9 := Lib.hid b9; clear k9 b9))
            | (go_at_call 15; first
              | ((with_reducible refine Calls.mono (bsame_self (HB6.out.le HK7.out) HB7.out (by rw [G.bitsT_len]; decide) hS) ?_); clear hS; rintro e w ⟨rfl, hS⟩)
              | ((with_reducible refine Calls.mono (bsame_self (HB8.out.le HK9.out) HB9.out (by rw [G.bitsT_len]; decide) hS) ?_); clear hS; rintro e w ⟨rfl, hS⟩))
            | ((with_reducible refine atList ?_); ((with_reducible refine isGuard ?_); first | go_skip | ((with_reducible refine guarded_no ?hw ?_); (case hw => (simp only [Region.wanted, yielded, zC, zA, zB, zK]; first | exact (rfl : (some true == some false) = false) | exact (rfl : (some false == some true) = false))); (try simp only [Act.put, zE, zF, zG])) | ((with_reducible refine guarded_yes ?hw ?_); case hw => (simp only [Region.wanted, yielded, zC, zA, zB, zK, beq_self_eq_true]; done)) | ((refine' guarded_cases (b := _) ?hy ?_ ?_); (case hy => (simp only [yielded, zC, zA, zB, zK]; exact rfl)); all_goals (intro hb; (try simp only [Bool.not_true, Bool.not_false] at hb); (try simp only [hb]); (try simp only [Act.put, zE, zF, zG]); first | ((have hf : False := by (simp at hb; done)); cases hf) | ((have hf : False := by (simp at hb; omega)); cases hf) | skip)))))
          go_meet
          case rel => exact ⟨rfl, K9, PH.le.trans (PH.le.trans (PH.le.trans (PH.le.trans HK5.out HK6.out) HK7.out) HK8.out) HK9.out, hS⟩
        case rest =>
        obtain ⟨rfl, KZ, hKZ, hSc⟩ := hcut
        have HKZ := Lib.hid hKZ
        clear hS hKZ
        have hS := hSc
        clear hSc
        go_wp2_with fail
        refine ⟨⟨i + 1, s', KZ, m5, T, A3, c3, by omega, by simp, PH.le.trans (PH.le.trans HWJ2.out HJ3.out) HKZ.out, HHel'.out, HRoom'.out.trans HRoom.out, HA5.out, HNO.out.le HKZ.out, rfl, HT'.out, hS⟩, ?_⟩
        simp only [intOf]
        omega
      case inr =>
        have Hr := Lib.hid hr
        have Hv := Lib.hid hv
        clear hr hv
        go_upto_region 18 with (first
          | (go_at_call 28; (with_reducible refine Calls.mono (HSW.out _ hS) ?_); clear hS; rintro e w ⟨un, J3, rfl, hJ3, hun, hS⟩; have HJ3 := Lib.hid hJ3; have HUn := Lib.hid hun; have iB3 := PH.at_le hJ3 iB; clear hJ3 hun)
          | (go_at_call 29; (with_reducible refine Calls.mono (HSwap.out _ Hr.out _ _ hS) ?_); clear hS; rintro e w ⟨rfl, m5, hA5, hS⟩; have HA5 := Lib.hid hA5; clear hA5)
          | ((with_reducible refine isLoad ?_); (refine' ldI1 (v := _) hS rfl rfl ty_agg5 rfl ?hb ?_); (case hb => assumption); (try simp only [Act.put, zE, zF, zG]))
          | ((with_reducible refine atList ?_); ((with_reducible refine isGuard ?_); first | go_skip | ((with_reducible refine guarded_no ?hw ?_); (case hw => (simp only [Region.wanted, yielded, zC, zA, zB, zK]; first | exact (rfl : (some true == some false) = false) | exact (rfl : (some false == some true) = false))); (try simp only [Act.put, zE, zF, zG])) | ((with_reducible refine guarded_yes ?hw ?_); case hw => (simp only [Region.wanted, yielded, zC, zA, zB, zK, beq_self_eq_true]; done)) | ((refine' guarded_cases (b := _) ?hy ?_ ?_); (case hy => (simp only [yielded, zC, zA, zB, zK]; exact rfl)); all_goals (intro hb; (try simp only [Bool.not_true, Bool.not_false] at hb); (try simp only [hb]); (try simp only [Act.put, zE, zF, zG]); first | ((have hf : False := by (simp at hb; done)); cases hf) | ((have hf : False := by (simp at hb; omega)); cases hf) | skip)))))
        go_cut [129] from 113 to 129 (fun a129 wc => a129 = .bool false ∧ Sat W J3 [m5] wc)
        case first =>
          go_wp2_with (first | ((with_reducible refine atList ?_); ((with_reducible refine isGuard ?_); first | go_skip | ((with_reducible refine guarded_no ?hw ?_); (case hw => (simp only [Region.wanted, yielded, zC, zA, zB, zK]; first | exact (rfl : (some true == some false) = false) | exact (rfl : (some false == some true) = false))); (try simp only [Act.put, zE, zF, zG])) | ((with_reducible refine guarded_yes ?hw ?_); case hw => (simp only [Region.wanted, yielded, zC, zA, zB, zK, beq_self_eq_true]; done)) | ((refine' guarded_cases (b := _) ?hy ?_ ?_); (case hy => (simp only [yielded, zC, zA, zB, zK]; exact rfl)); all_goals (intro hb; (try simp only [Bool.not_true, Bool.not_false] at hb); (try simp only [hb]); (try simp only [Act.put, zE, zF, zG]); first | ((have hf : False := by (simp at hb; done)); cases hf) | ((have hf : False := by (simp at hb; omega)); cases hf) | skip)))))
          go_meet
          case rel => exact ⟨rfl, hS⟩
        case rest =>
        obtain ⟨rfl, hSc⟩ := hcut
        clear hS
        have hS := hSc
        clear hSc
        have HN3 := Lib.hid (num_eq HUn.out Hv.out)
        go_upto_region 23 with (first
          | (go_at_call 11; first
            | ((with_reducible refine Calls.mono (bits_any y HBy.out hS) ?_); clear hS; rintro e w ⟨uA, KA, rfl, kA, bA, hS⟩; have HKA := Lib.hid kA; have HBA := Lib.hid bA; clear kA bA)
            | ((with_reducible refine Calls.mono (bits_any x HBx.out hS) ?_); clear hS; rintro e w ⟨uB, KB, rfl, kB, bB, hS⟩; have HKB := Lib.hid kB; have HBB := Lib.hid bB; clear kB bB))
          | (go_at_call 26; first
            | ((with_reducible refine Calls.mono (below_start Ho5.out H55.out ((HN3.out.le HKA.out).le HKB.out) HBB.out hS) ?_); clear hS; rintro e w ⟨rC, KC, rfl, kC, bC, hS⟩; have HKC := Lib.hid kC; have HBC := Lib.hid bC; clear kC bC)
            | ((with_reducible refine Calls.mono (below_next2 Ho5.out H55.out HT'.out (((HN3.out.le HKA.out).le HKB.out).le HKC.out) ((HBA.out.le HKB.out).le HKC.out) HBC.out hS) ?_); clear hS; rintro e w ⟨AD, cD, KD, rfl, kD, hS⟩; have HKD := Lib.hid kD; clear kD)))
        have HNO := Lib.hid ((((HN3.out.le HKA.out).le HKB.out).le HKC.out).le HKD.out)
        have HWD := Lib.hid (PH.le.trans (PH.le.trans (PH.le.trans (PH.le.trans (PH.le.trans HWJ2.out HJ3.out) HKA.out) HKB.out) HKC.out) HKD.out)
        go_upto_region 23 with fail
        go_cut [173] from 141 to 173 (fun a173 wc => a173 = .bool false ∧ ∃ K, KD.le K ∧ Sat W K [m5] wc)
        case first =>
          go_wp2_with (first
            | (go_at_call 9; (with_reducible refine Calls.mono (order_r HA5.out hS) ?_); clear hS; rintro e w ⟨vo, K5, rfl, k5, n5, hS⟩; have HK5 := Lib.hid k5; have HN5 := Lib.hid n5; clear k5 n5)
            | (go_at_call 22; (with_reducible refine Calls.mono (nsame_self HN5.out (HNO.out.le HK5.out) HL5.out hS) ?_); clear hS; rintro e w ⟨rfl, hS⟩)
            | (go_at_call 12; (with_reducible refine Calls.mono (HLn'.out _ _ _ HA5.out hS) ?_); rintro e w9 ⟨rfl, rfl⟩)
            | (go_at_call 21; (with_reducible refine Calls.mono (HDe'.out _ _ _ HA5.out hS) ?_); rintro e w9 ⟨rfl, rfl⟩)
            | (go_at_call 16; first
              | ((with_reducible refine Calls.mono (table_r HHel'.out.ok HHel'.out.five HHel'.out.vf HHel'.out.tf Hfb2.out (G.bitsT_len x) HA5.out hS) ?_); clear hS; rintro e w ⟨v6, K6, rfl, k6, b6, hS⟩; have HK6 := Lib.hid k6; have HB6 := Lib.hid b6; clear k6 b6)
              | ((with_reducible refine Calls.mono (table_r HHel'.out.ok HHel'.out.five HHel'.out.vg HHel'.out.tg Hgb2.out (G.bitsT_len y) HA5.out hS) ?_); clear hS; rintro e w ⟨v8, K8, rfl, k8, b8, hS⟩; have HK8 := Lib.hid k8; have HB8 := Lib.hid b8; clear k8 b8))
            | (go_at_call 11; first
              | ((with_reducible refine Calls.mono (bits_any x HBx.out hS) ?_); clear hS; rintro e w ⟨u7, K7, rfl, k7, b7, hS⟩; have HK7 := Lib.hid k7; have HB7 := Lib.hid b7; clear k7 b7)
              | ((with_reducible refine Calls.mono (bits_any y HBy.out hS) ?_); clear hS; rintro e w ⟨u9, K9, rfl, k9, b9, hS⟩; have HK9 := Lib.hid k9; have HB9 := Lib.hid b9; clear k9 b9))
            | (go_at_call 15; first
              | ((with_reducible refine Calls.mono (bsame_self (HB6.out.le HK7.out) HB7.out (by rw [G.bitsT_len]; decide) hS) ?_); clear hS; rintro e w ⟨rfl, hS⟩)
              | ((with_reducible refine Calls.mono (bsame_self (HB8.out.le HK9.out) HB9.out (by rw [G.bitsT_len]; decide) hS) ?_); clear hS; rintro e w ⟨rfl, hS⟩))
            | ((with_reducible refine atList ?_); ((with_reducible refine isGuard ?_); first | go_skip | ((with_reducible refine guarded_no ?hw ?_); (case hw => (simp only [Region.wanted, yielded, zC, zA, zB, zK]; first | exact (rfl : (some true == some false) = false) | exact (rfl : (some false == some true) = false))); (try simp only [Act.put, zE, zF, zG])) | ((with_reducible refine guarded_yes ?hw ?_); case hw => (simp only [Region.wanted, yielded, zC, zA, zB, zK, beq_self_eq_true]; done)) | ((refine' guarded_cases (b := _) ?hy ?_ ?_); (case hy => (simp only [yielded, zC, zA, zB, zK]; exact rfl)); all_goals (intro hb; (try simp only [Bool.not_true, Bool.not_false] at hb); (try simp only [hb]); (try simp only [Act.put, zE, zF, zG]); first | ((have hf : False := by (simp at hb; done)); cases hf) | ((have hf : False := by (simp at hb; omega)); cases hf) | skip)))))
          go_meet
          case rel => exact ⟨rfl, K9, PH.le.trans (PH.le.trans (PH.le.trans (PH.le.trans HK5.out HK6.out) HK7.out) HK8.out) HK9.out, hS⟩
        case rest =>
        obtain ⟨rfl, KZ, hKZ, hSc⟩ := hcut
        have HKZ := Lib.hid hKZ
        clear hS hKZ
        have hS := hSc
        clear hSc
        go_wp2_with fail
        refine ⟨⟨i + 1, s', KZ, m5, T', AD, cD, by omega, by simp, PH.le.trans HWD.out HKZ.out, HHel'.out, HRoom'.out.trans HRoom.out, HA5.out, HNO.out.le HKZ.out, rfl, HT'.out, hS⟩, ?_⟩
        simp only [intOf]
        omega
    · obtain rfl : i = n := by omega
      obtain ⟨s5, s6, d1, k5, d2, k6, hdead⟩ := hel.drops
      have D1 := Lib.hid d1
      have D2 := Lib.hid d2
      have HD := Lib.hid hdead
      clear hWJ hel hroom hA hN hT d1 d2 hdead k5 k6 hlt
      go_wp2_with (first
        | (go_at_call 30; (with_reducible refine Calls.mono (sdrop_any D1.out Hfb.out HSt.out hS) ?_); clear hS; rintro e w ⟨rfl, m5, hA5, hS⟩; have HA5 := Lib.hid hA5; clear hA5)
        | (go_at_call 30; (with_reducible refine Calls.mono (sdrop_any D2.out Hgb.out HA5.out hS) ?_); clear hS; rintro e w ⟨rfl, m6, hA6, hS⟩; have HA6 := Lib.hid hA6; clear hA6; have HDd := Lib.hid (fun (w' : World) (h9 : Sat W J [m6] w') => show Calls Try.prog 21 #[vPt S] w' (fun e w'' => e = .returned (nv (G.many s6.pl.slots)) ∧ w' = w'') by rw [← HD.out]; exact sdead_any (HA6.out.read.le (h9.mle (k := 0) rfl))))
        | (go_at_call 21; (with_reducible refine Calls.mono (HDd.out _ hS) ?_); rintro e w9 ⟨rfl, rfl⟩)
        | (go_at_call 12; (with_reducible refine Calls.mono (slen_any (HA6.out.read.le (hS.mle (k := 0) rfl))) ?_); rintro e w9 ⟨rfl, rfl⟩)
        | (go_at_call 17; (with_reducible refine Calls.mono (lives_any hS) ?_); clear hS; rintro e w ⟨rfl, hS⟩)
        | ((with_reducible refine atList ?_); ((with_reducible refine isGuard ?_); first | go_skip | ((with_reducible refine guarded_no ?hw ?_); (case hw => (simp only [Region.wanted, yielded, zC, zA, zB, zK]; first | exact (rfl : (some true == some false) = false) | exact (rfl : (some false == some true) = false))); (try simp only [Act.put, zE, zF, zG])) | ((with_reducible refine guarded_yes ?hw ?_); case hw => (simp only [Region.wanted, yielded, zC, zA, zB, zK, beq_self_eq_true]; done)) | ((refine' guarded_cases (b := _) ?hy ?_ ?_); (case hy => (simp only [yielded, zC, zA, zB, zK]; exact rfl)); all_goals (intro hb; (try simp only [Bool.not_true, Bool.not_false] at hb); (try simp only [hb]); (try simp only [Act.put, zE, zF, zG]); first | ((have hf : False := by (simp at hb; done)); cases hf) | ((have hf : False := by (simp at hb; omega)); cases hf) | skip)))))
      all_goals
        go_ret
        exact ⟨rfl, hS.end_ HWJ2.out⟩
end Go.Proofs.Ytdhkkkhnjooioaa
