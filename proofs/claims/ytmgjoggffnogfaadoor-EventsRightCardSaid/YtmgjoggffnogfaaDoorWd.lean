/- events.Parse. -/
import Derived.Test.YtmgjoggffnogfaaDoorWc
namespace Go.Proofs.YtmgjoggffnogfaaDoor
set_option linter.unusedSimpArgs false
set_option linter.unusedVariables false
open Go.RowKit
set_option linter.unusedVariables false
abbrev Ev := Int × Int × Int
def evC (v : Ev) : List Value := [.int .i64 v.1, .int .i64 v.2.1, .int .i64 v.2.2]
def evR (l : List Ev) : List Value := l.flatMap evC
def prsW : Nat → List (List Nat) → Option (List Ev)
  | _, [] => none
  | n, x :: t => match t with
    | [] => if x = [] then some [] else none
    | _ :: _ => match n with
      | 0 => none
      | n + 1 => match evL x with
        | none => none
        | some v => (prsW n t).map (v :: ·)
def prs (l : List Nat) : Option (List Ev) := prsW 256 (spl 10 l)
def prsE (l : List Nat) : Int := if 65536 < l.length then 4 else if (prs l).isSome then 0 else 3
def prsL (l : List Nat) : List Ev := if 65536 < l.length then [] else (prs l).getD []
theorem prsW_nil (n : Nat) : prsW n (spl 10 []) = some [] := by simp [spl, prsW]
theorem prsW_miss (n : Nat) {l : List Nat} (h : 10 ∉ l) (h0 : l ≠ []) : prsW n (spl 10 l) = none := by
  rw [spl_miss _ _ h]; simp [prsW, h0]
theorem prsW_hit (n : Nat) {x : List Nat} (y : List Nat) (h : 10 ∉ x) : prsW n (spl 10 (x ++ 10 :: y)) = match n with
    | 0 => none
    | n + 1 => match evL x with
      | none => none
      | some v => (prsW n (spl 10 y)).map (v :: ·) := by
  rw [spl_hit _ _ _ h]
  cases hy : spl 10 y with
  | nil => exact absurd hy (spl_ne _ _)
  | cons p t => cases n <;> simp [prsW]
theorem evR_add (xs : List Ev) (v : Ev) : evR xs ++ evC v = evR (xs ++ [v]) := by simp [evR]
theorem mem_split_first {c : Nat} : ∀ {l : List Nat}, c ∈ l → ∃ x y, l = x ++ c :: y ∧ c ∉ x
  | a :: l, h => by
    by_cases e : a = c
    · subst e; exact ⟨[], l, rfl, by simp⟩
    · obtain ⟨x, y, rfl, hx⟩ := mem_split_first (l := l) (by simpa [Ne.symm e] using h)
      exact ⟨a :: x, y, rfl, by simp [hx, Ne.symm e]⟩
theorem prs_bad {l : List Nat} (hl : l.length ≤ 65536) (h : prs l = none) : prsE l = 3 ∧ prsL l = [] := by
  have hl' : ¬ 65536 < l.length := by omega
  unfold prsE prsL; rw [if_neg hl', if_neg hl', h]; exact ⟨rfl, rfl⟩
def slen : Value → Nat
  | .string d => d.size
  | _ => 0
theorem prs_good {l : List Nat} {xs : List Ev} (hl : l.length ≤ 65536) (h : prs l = some xs) : prsE l = 0 ∧ prsL l = xs := by
  have hl' : ¬ 65536 < l.length := by omega
  unfold prsE prsL; rw [if_neg hl', if_neg hl', h]; exact ⟨rfl, rfl⟩
theorem ba_nil (d : ByteArray) : d.toList.isEmpty = decide (lst d = []) := by
  rw [lst_toList]
  cases d.toList <;> rfl
theorem ev_info : (Tryd.prog.info? 47).map (fun i => (i.zero, i.size, i.bytes)) = some (some (.agg #[.int .i64 0, .int .i64 0, .int .i64 0]), 3, 24) := by kernel_rfl
set_option maxHeartbeats 4000000 in
set_option maxRecDepth 100000 in
theorem eparse_any (E : World) (I : PH) (ms : List PH) (s : ByteArray) (w : World) (hI : MaxIn I) (hS : Sat E I ms w) :
    Calls Tryd.prog 14 #[.string s] w fun e w' => ∃ v m, e = .returned (.tuple #[v, .int .i64 (prsE (lst s))]) ∧ OwnP m 47 3 v (prsL (lst s)).length (evR (prsL (lst s))) ∧ Sat E I (m :: ms) w' := by
  by_cases hlen : 65536 < s.size
  · have h1 : prsE (lst s) = 4 := by unfold prsE; rw [if_pos (by rw [lst_length]; exact hlen)]
    have h2 : prsL (lst s) = [] := by unfold prsL; rw [if_pos (by rw [lst_length]; exact hlen)]
    rw [h1, h2]
    go_enter Tryd.func14, Tryd.ntmps14
    go_wp2
    go_ret2
    exact ⟨_, _, rfl, OwnP.nil _ _, hS.empty⟩
  · have hlen2 : (s.size : Int) ≤ 65536 := by omega
    have HB := Lib.hid (fun h => prs_bad (l := lst s) (by rw [lst_length]; omega) h)
    have HG := Lib.hid (fun xs h => prs_good (l := lst s) (xs := xs) (by rw [lst_length]; omega) h)
    clear hlen
    go_enter Tryd.func14, Tryd.ntmps14
    go_wp2
    have hS0 := hS.empty
    clear hS
    have hS := hS0
    clear hS0
    go_loopw [0, 2] (fun v0 v2 wr => ∃ (d : ByteArray) (xs : List Ev) (m : PH), xs.length ≤ 256 ∧ v0 = .string d ∧ OwnP m 47 3 v2 xs.length (evR xs) ∧ (d.size : Int) ≤ 65536 ∧ prs (lst s) = (prsW (256 - xs.length) (spl 10 (lst d))).map (xs ++ ·) ∧ Sat E I (m :: ms) wr) (fun v0 _ _ => slen v0)
    case atStart => exact ⟨s, [], _, by simp, rfl, OwnP.nil _ _, hlen2, by simp [prs], hS⟩
    case round =>
      obtain ⟨d, xs, m, hxs, rfl, hO, hd, HP, hS⟩ := hrel
      have hdn : d.size ≤ 70000 := by omega
      have k0 : (xs.length : Int) ≤ 256 := by omega
      obtain ⟨A, c, rfl, hc⟩ := hO.shape
      by_cases h0 : lst d = []
      · have hne := ba_nil d
        rw [decide_eq_true h0] at hne
        have hfin := HG.out xs (by rw [HP, h0, prsW_nil]; simp)
        have HF := Lib.hid hfin
        clear HP HG HB h0 hfin
        go_wp2
        go_ret2
        rw [HF.out.1, HF.out.2]
        exact ⟨_, _, rfl, hO, hS⟩
      · have hne := ba_nil d
        rw [decide_eq_false h0] at hne
        by_cases h10 : 10 ∈ lst d
        · obtain ⟨x, y, hl, hx⟩ := mem_split_first h10
          rw [hl, prsW_hit _ _ hx] at HP
          have CH := Lib.hid (fun w hS => cut_hit E I (m :: ms) d 10 x y w hI hdn hx hl hS)
          have hxy : x.length + 1 + y.length = d.size := by rw [← lst_length, hl]; simp; omega
          have CHP : ∀ w, Sat E I (m :: ms) w → Calls Tryd.prog 29 #[.string d, .string ⟨#[10]⟩] w fun e w' => ∃ a b : ByteArray, e = .returned (.tuple #[.string a, .string b, .bool true]) ∧ lst a = x ∧ lst b = y ∧ Sat E I (m :: ms) w' := fun w hS => (CH.out w hS).mono fun e w' ⟨⟨a, b, h1, h2, h3⟩, h4⟩ => ⟨a, b, h1, h2, h3, h4⟩
          have CH := Lib.hid CHP
          clear CHP
          by_cases hk : xs.length = 256
          · rw [hk] at HP
            have hfin := HB.out (by rw [HP]; rfl)
            have HF := Lib.hid hfin
            have k1 : ((xs.length : Int) == 256) = true := by rw [beq_iff_eq]; omega
            clear HP HG HB h0 hfin h10 hdn hl hx hxy
            go_wp2_with (first | (go_at_call 29; (with_reducible refine Calls.mono (CH.out _ hS) ?_); clear hS; rintro e w ⟨a, b, rfl, -, -, hS⟩))
            go_ret2
            rw [HF.out.1, HF.out.2]
            exact ⟨_, _, rfl, OwnP.nil _ _, hS.drop.empty⟩
          · have k1 : ((xs.length : Int) == 256) = false := by rw [beq_eq_false_iff_ne]; omega
            rw [show 256 - xs.length = (256 - (xs.length + 1)) + 1 by omega] at HP
            have EV := Lib.hid (fun a w (hs : a.size ≤ 70000) hS => event_any E I (m :: ms) a w hI hs hS)
            have HXY := Lib.hid hxy
            have HHP := Lib.hid HP
            clear h0 h10 hl hx hxy HP
            go_wp2_with (first | (go_at_call 29; (with_reducible refine Calls.mono (CH.out _ hS) ?_); clear hS; rintro e w ⟨a, b, rfl, ha, hb, hS⟩; have HA := Lib.hid ha; have HB2 := Lib.hid hb; clear ha hb) | (go_at_call 30; (with_reducible refine Calls.mono (EV.out _ _ (by have := HXY.out; have := HA.out; have := lst_length a; simp_all; omega) hS) ?_); clear hS; rintro e w ⟨w0, w1, w2, fb, rfl, hev, hS⟩; have HEV := Lib.hid hev; clear hev) | ((with_reducible refine atList ?_); first | ((with_reducible refine isBoxD 7 ?_); refine bx hS rfl rfl rfl ?_; clear hS; intro XV w hS; (try simp only [Act.eval, Array.getD_eq_getD_getElem?, List.getElem?_toArray, List.getElem?_cons_succ, List.getElem?_cons_zero, Option.getD_some, Value.cells] at hS); (try simp only [Act.put, List.setIfInBounds_toArray, List.set_cons_succ, List.set_cons_zero])) | ((with_reducible refine isAllocD 7 ?_); (refine' al (z := _) hS rfl rfl ?ha ?_); (case ha => first | exact ty_z47); clear hS; intro XV w hS; (try simp only [Act.eval, Array.getD_eq_getD_getElem?, List.getElem?_toArray, List.getElem?_cons_succ, List.getElem?_cons_zero, Option.getD_some, Value.cells] at hS); (try simp only [Act.put, List.setIfInBounds_toArray, List.set_cons_succ, List.set_cons_zero])) | ((with_reducible refine isGuard ?_); first | go_skip | ((with_reducible refine guarded_no ?hw ?_); (case hw => (simp only [Region.wanted, yielded, List.getElem?_toArray, List.getElem?_cons_succ, List.getElem?_cons_zero, Option.bind_some]; first | exact (rfl : (some true == some false) = false) | exact (rfl : (some false == some true) = false))); (try simp only [Act.put, List.setIfInBounds_toArray, List.set_cons_succ, List.set_cons_zero])) | ((with_reducible refine guarded_yes ?hw ?_); case hw => (simp only [Region.wanted, yielded, List.getElem?_toArray, List.getElem?_cons_succ, List.getElem?_cons_zero, Option.bind_some, beq_self_eq_true]; done)) | ((refine' guarded_cases (b := _) ?hy ?_ ?_); (case hy => (simp only [yielded, List.getElem?_toArray, List.getElem?_cons_succ, List.getElem?_cons_zero, Option.bind_some]; exact rfl)); all_goals (intro hb; (try simp only [Bool.not_true, Bool.not_false] at hb); (try simp only [hb]); (try simp only [Act.put, List.setIfInBounds_toArray, List.set_cons_succ, List.set_cons_zero]); first | ((have hf : False := by (simp at hb; done)); cases hf) | ((have hf : False := by (simp at hb; omega)); cases hf) | skip))) | ((with_reducible refine isLoad ?_); first | (refine ldN 0 hS rfl rfl ?ha rfl rfl ?hb ?_; (case ha => first | exact ty_agg47); (case hb => first | exact ty_sz47); (try simp only [Act.put, List.setIfInBounds_toArray, List.set_cons_succ, List.set_cons_zero])) | (refine ldN 1 hS rfl rfl ?ha rfl rfl ?hb ?_; (case ha => first | exact ty_agg47); (case hb => first | exact ty_sz47); (try simp only [Act.put, List.setIfInBounds_toArray, List.set_cons_succ, List.set_cons_zero])) | (refine ldN 2 hS rfl rfl ?ha rfl rfl ?hb ?_; (case ha => first | exact ty_agg47); (case hb => first | exact ty_sz47); (try simp only [Act.put, List.setIfInBounds_toArray, List.set_cons_succ, List.set_cons_zero])) | ((refine' ldIN (vs := _) hS rfl rfl ?ha rfl ?hc ?hb ?_); (case ha => first | exact ty_agg47); (case hc => assumption); (case hb => first | exact ty_sz47); (try simp only [Act.put, List.setIfInBounds_toArray, List.set_cons_succ, List.set_cons_zero]))) | ((with_reducible refine isStore ?_); first | (refine stN 0 hS rfl rfl rfl rfl rfl ?ha rfl rfl ?_; (case ha => first | exact ty_sz47); clear hS; intro w hS; (try simp only [List.set_cons_succ, List.set_cons_zero, List.setIfInBounds_toArray, Act.eval, Array.getD_eq_getD_getElem?, List.getElem?_toArray, List.getElem?_cons_succ, List.getElem?_cons_zero, Option.getD_some, Value.cells] at hS); (try simp only [Act.put, List.setIfInBounds_toArray, List.set_cons_succ, List.set_cons_zero])) | (refine stN 1 hS rfl rfl rfl rfl rfl ?ha rfl rfl ?_; (case ha => first | exact ty_sz47); clear hS; intro w hS; (try simp only [List.set_cons_succ, List.set_cons_zero, List.setIfInBounds_toArray, Act.eval, Array.getD_eq_getD_getElem?, List.getElem?_toArray, List.getElem?_cons_succ, List.getElem?_cons_zero, Option.getD_some, Value.cells] at hS); (try simp only [Act.put, List.setIfInBounds_toArray, List.set_cons_succ, List.set_cons_zero])) | (refine stN 2 hS rfl rfl rfl rfl rfl ?ha rfl rfl ?_; (case ha => first | exact ty_sz47); clear hS; intro w hS; (try simp only [List.set_cons_succ, List.set_cons_zero, List.setIfInBounds_toArray, Act.eval, Array.getD_eq_getD_getElem?, List.getElem?_toArray, List.getElem?_cons_succ, List.getElem?_cons_zero, Option.getD_some, Value.cells] at hS); (try simp only [Act.put, List.setIfInBounds_toArray, List.set_cons_succ, List.set_cons_zero]))) | ((with_reducible refine isBox ?_); refine bx hS rfl rfl rfl ?_; clear hS; intro X w hS; (try simp only [Act.eval, Array.getD_eq_getD_getElem?, List.getElem?_toArray, List.getElem?_cons_succ, List.getElem?_cons_zero, Option.getD_some, Value.cells] at hS); (try simp only [Act.put, List.setIfInBounds_toArray, List.set_cons_succ, List.set_cons_zero])) | ((with_reducible refine isAlloc ?_); (refine' al (z := _) hS rfl rfl ?ha ?_); (case ha => first | exact ty_z47); clear hS; intro X w hS; (try simp only [Act.eval, Array.getD_eq_getD_getElem?, List.getElem?_toArray, List.getElem?_cons_succ, List.getElem?_cons_zero, Option.getD_some, Value.cells] at hS); (try simp only [Act.put, List.setIfInBounds_toArray, List.set_cons_succ, List.set_cons_zero])) | ((with_reducible refine isBuildSlice ?_); (refine' bsl hS ?hr ?_); (case hr => (intro w0; go_simp; rfl)); clear hS; intro XS w hS; (try simp only [Act.eval, Array.getD_eq_getD_getElem?, List.getElem?_toArray, List.getElem?_cons_succ, List.getElem?_cons_zero, Option.getD_some, Value.cells] at hS); (try simp only [Act.put, List.setIfInBounds_toArray, List.set_cons_succ, List.set_cons_zero]))) | (at_builtin; (refine' apP (p := _) (m := _) (v := _) (n := _) (xs := _) (news := _) 2 (.inr (List.Mem.head _)) hS rfl rfl rfl Tryd.underlying22 ev_info rfl (by decide) rfl ?hown rfl ?hl ?hcl ?h1 ?h63 ?hby ?_); (case hown => assumption); (case hcl => exact Cells.one _ _ _ _); (case hl => rfl); (case h1 => rfl); (case h63 => go_light; unfold maxLen; omega); (case hby => go_light; omega); clear hS hO; intro v1 m1 w hO hS; (try simp only [List.set_cons_succ, List.set_cons_zero] at hS); (try simp only [Act.put, List.setIfInBounds_toArray, List.set_cons_succ, List.set_cons_zero])))
            · have hfb : fb = false := by simpa using ‹(!fb) = true›
              subst hfb
              have hev : evL x = none := by have h := HEV.out; unfold EvR at h; rw [HA.out, if_neg (by simp)] at h; exact h
              have h2 := HHP.out
              rw [hev] at h2
              have HF := HB.out h2
              go_ret2
              rw [HF.1, HF.2]
              exact ⟨_, _, rfl, OwnP.nil _ _, hS.drop.drop.empty⟩
            · have hfb : fb = true := by simpa using ‹(!fb) = false›
              subst hfb
              have hev : evL x = some (w0, w1, w2) := by have h := HEV.out; unfold EvR at h; rw [HA.out, if_pos rfl] at h; exact h
              have h2 := HHP.out
              rw [hev] at h2
              have hl1 := HXY.out
              have hb1 : y.length = b.size := by rw [← HB2.out, lst_length]
              refine ⟨⟨b, xs ++ [(w0, w1, w2)], _, by simp; omega, rfl, ?_, by omega, ?_, hS.drop.drop⟩, by simp only [slen]; omega⟩
              · have := hO
                rw [List.length_append, ← evR_add]
                exact this
              · rw [h2, HB2.out, List.length_append]
                simp only [List.length_cons, List.length_nil]
                cases prsW (256 - (xs.length + 1)) (spl 10 y) <;> simp
        · rw [prsW_miss _ h10 h0] at HP
          have hfin := HB.out (by rw [HP]; rfl)
          have HF := Lib.hid hfin
          have CM := Lib.hid (fun w hS => cut_miss E I (m :: ms) d 10 w hI hdn h10 hS)
          clear HP HG HB h0 hfin h10 hdn
          go_wp2_with (first | (go_at_call 29; (with_reducible refine Calls.mono (CM.out _ hS) ?_); clear hS; rintro e w ⟨⟨a, b, rfl⟩, hS⟩))
          go_ret2
          rw [HF.out.1, HF.out.2]
          exact ⟨_, _, rfl, OwnP.nil _ _, hS.drop.empty⟩
end Go.Proofs.YtmgjoggffnogfaaDoor
