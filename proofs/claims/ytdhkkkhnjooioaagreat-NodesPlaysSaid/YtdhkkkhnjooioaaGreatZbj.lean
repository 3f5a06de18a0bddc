import Derived.Test.YtdhkkkhnjooioaaGreatZbg
import Derived.Test.YtdhkkkhnjooioaaGreatZbh
import Derived.Test.YtdhkkkhnjooioaaGreatZbi
set_option linter.unusedSimpArgs false
set_option linter.unusedVariables false
namespace Go.Proofs.YtdhkkkhnjooioaaGreat
open Go.RowKit
set_option maxRecDepth 100000 in
set_option maxHeartbeats 4000000 in
theorem rconst_any {E w:World} {I:PH} {ms:List PH} (n:Nat) (b:Bool) (hn:n≤12) (hS:Sat E I ms w) :
 Calls Tryz.prog 7 #[.bool b,nv n] w fun e w'=>∃ u J,e=.returned u∧I.le J∧BoolR J u (List.replicate (2 ^ n) b)∧Sat E J ms w':=by
 have hp:2 ^ n≤4096:=Nat.le_trans (Nat.pow_le_pow_right (show (2:Nat) > 0 by decide) hn) (by decide)
 have HPl:=Lib.hid (fun w'=>places_any w' n (by omega))
 have hr:∀ i,(List.replicate (i+1) b).flatMap bvC=(List.replicate i b).flatMap bvC ++ [.bool b]:=fun i=>by
  rw [List.replicate_succ',List.flatMap_append];rfl
 have Hr:=Lib.hid hr
 clear hr
 have Hfin:=Lib.hid (fun (m:PH) (v:Value) (w':World) (hO:OwnP m 4 1 v (2 ^ n) ((List.replicate (2 ^ n) b).flatMap bvC)) (h:Sat E I (m::ms) w')=>boolOut (l:=List.replicate (2 ^ n) b) (by rw [List.length_replicate];exact hO) h)
 generalize 2 ^ n=N at *
 go_enter Tryz.func7,Tryz.ntmps7
 go_wp2_with (first|((with_reducible refine isBuildSlice ?_);(refine' bsl hS ?hr ?_);(case hr=>(intro w0;go_simp;rfl));clear hS;intro XS w hS;(try simp only [zF,zG,zE,Act.eval,zD,zC,zA,zB,zJ,Value.cells] at hS);(try simp only [Act.put,zE,zF,zG])))
 go_loopw [5,6] (fun v5 v6 wr=>∃ (i:Nat) (m:PH),i≤N∧v6=.int .i64 (i:Int)∧OwnP m 4 1 v5 i ((List.replicate i b).flatMap bvC)∧Sat E I (m::ms) wr) (fun _ v6 _=>(N - intOf v6).toNat)
 case atStart=>exact ⟨0,_,Nat.zero_le _,rfl,OwnP.lit XS 4 1 0 #[] (by decide) rfl,hS⟩
 case round =>
  clear hS
  obtain ⟨i,m,hi,rfl,hO,hS⟩:=hrel
  have HO:=Lib.hid hO
  obtain ⟨A3,c3,rfl,_⟩:=hO.shape
  clear hO
  by_cases hlt:i<N
  · have ii:(i:Int)<(N:Int):=by omega
    go_wp2_with (first|(go_at_call 22;(with_reducible refine Calls.mono (HPl.out _) ?_);rintro e w9 ⟨rfl,rfl⟩)|((with_reducible refine isAppend ?_);(refine' apP (p:=_) (m:=_) (v:=_) (n:=_) (xs:=_) (news:=_) 1 (.inr (List.Mem.head _)) hS rfl rfl rfl Tryz.underlying35 boolV_info rfl (by decide) rfl HO.out rfl ?hl ?hcl ?h1 ?h63 ?hby ?_);(case hcl=>exact Cells.one _ _ _ _);(case hl=>rfl);(case h1=>rfl);(case h63=>(unfold maxLen;omega));(case hby=>omega);clear hS;intro v1 m1 w hO1 hS;have HO1:=Lib.hid hO1;clear hO1;(try simp only [zF,zG] at hS);(try simp only [Act.put,zE,zF,zG]))|((with_reducible refine isBuildSlice ?_);(refine' bsl hS ?hr ?_);(case hr=>(intro w0;go_simp;rfl));clear hS;intro XS w hS;(try simp only [zF,zG,zE,Act.eval,zD,zC,zA,zB,zJ,Value.cells] at hS);(try simp only [Act.put,zE,zF,zG])))
    refine ⟨⟨i+1,m1,by omega,by go_num,?_,hS.drop⟩,by simp [intOf];omega⟩
    rw [Hr.out]
    exact HO1.out
  · have hie:i=N:=by omega
    subst hie
    go_wp2_with (first|(go_at_call 22;(with_reducible refine Calls.mono (HPl.out _) ?_);rintro e w9 ⟨rfl,rfl⟩))
    go_ret
    obtain ⟨J,j1,j2,j3⟩:=Hfin.out m _ _ HO.out hS
    exact ⟨_,J,rfl,j1,j2,j3⟩
set_option maxRecDepth 100000 in
set_option maxHeartbeats 8000000 in
theorem rjoin_any {E w:World} {I:PH} {ms:List PH} {x y:Value} {lo hi:List Bool} {n v:Nat} (hx:BoolR I x lo) (hy:BoolR I y hi) (hl:lo.length=2 ^ n) (hh:hi.length=2 ^ n) (hv:v<n) (hn:n≤12) (hS:Sat E I ms w) :
 Calls Tryz.prog 69 #[nv v,x,y] w fun e w'=>∃ u J,e=.returned u∧I.le J∧BoolR J u (G.joinT v lo hi)∧Sat E J ms w':=by
 have HX:=Lib.hid hx
 have HY:=Lib.hid hy
 obtain ⟨A,c,rfl⟩:=hx.1
 obtain ⟨B,d,rfl⟩:=hy.1
 clear hx hy
 have hp:2 ^ n≤4096:=Nat.le_trans (Nat.pow_le_pow_right (show (2:Nat) > 0 by decide) hn) (by decide)
 have hln:(G.joinT v lo hi).length=2 ^ n:=by unfold G.joinT;rw [List.length_map,List.length_range,hl]
 have hget:∀ i,i<2 ^ n→∃ u,(if i.testBit v then hi[i]? else lo[i]?)=some u∧(G.joinT v lo hi).take (i+1)=(G.joinT v lo hi).take i ++ [u]:=fun i h=>by
  refine ⟨if i.testBit v then hi.getD i false else lo.getD i false,?_,?_⟩
  · split
    · rw [List.getD_eq_getElem?_getD,List.getElem?_eq_getElem (by omega)];rfl
    · rw [List.getD_eq_getElem?_getD,List.getElem?_eq_getElem (by omega)];rfl
  · rw [List.take_add_one]
    unfold G.joinT
    rw [List.getElem?_map,List.getElem?_range (by omega)];rfl
 have HG:=Lib.hid hget
 have Hln:=Lib.hid hln
 have Hll:=Lib.hid hl
 have Hhl:=Lib.hid hh
 have HA:=Lib.hid (fun (w':World) (i:Nat) (hi:i≤4096)=>at12_any w' i v (by omega) (by omega))
 have Hfin:=Lib.hid (fun (m:PH) (vv:Value) (w':World) (hO:OwnP m 4 1 vv (2 ^ n) ((G.joinT v lo hi).flatMap bvC)) (h:Sat E I (m::ms) w')=>boolOut (l:=G.joinT v lo hi) (by rw [Hln.out];exact hO) h)
 rw [hl] at HX ⊢
 rw [hh] at HY ⊢
 clear hget hln hl hh
 generalize 2 ^ n=N at *
 go_enter Tryz.func69,Tryz.ntmps69
 go_wp2_with (first|((with_reducible refine isBuildSlice ?_);(refine' bsl hS ?hr ?_);(case hr=>(intro w0;go_simp;rfl));clear hS;intro XS w hS;(try simp only [zF,zG,zE,Act.eval,zD,zC,zA,zB,zJ,Value.cells] at hS);(try simp only [Act.put,zE,zF,zG])))
 go_loopw [7,8] (fun v7 v8 wr=>∃ (i:Nat) (m:PH),i≤N∧v8=.int .i64 (i:Int)∧OwnP m 4 1 v7 i (((G.joinT v lo hi).take i).flatMap bvC)∧Sat E I (m::ms) wr) (fun _ v8 _=>(N - intOf v8).toNat)
 case atStart=>exact ⟨0,_,Nat.zero_le _,rfl,OwnP.lit XS 4 1 0 #[] (by decide) rfl,hS⟩
 case round =>
  clear hS
  obtain ⟨i,m,hi,rfl,hO,hS⟩:=hrel
  have HO:=Lib.hid hO
  obtain ⟨A3,c3,rfl,_⟩:=hO.shape
  clear hO
  by_cases hlt:i<N
  · obtain ⟨u,hu,htk⟩:=HG.out i hlt
    have Htk:=Lib.hid htk
    have ii:(i:Int)<(N:Int):=by omega
    have HB:=Lib.hid (fun w'=>HA.out w' i (by omega))
    clear htk
    cases htb:i.testBit v with
    | true =>
      rw [htb] at HB hu
      rw [if_pos rfl] at hu
      obtain ⟨X,c',u',e1,hlb,fx⟩:=HY.out.ld (i:=i) (by rw [Hhl.out];exact hlt)
      rw [hu] at hlb
      injection hlb with hlb
      subst hlb
      injection e1 with e1 e2 e3
      subst e1 e3
      clear e2 hu htb
      go_wp2_with (first|(go_at_call 79;(with_reducible refine Calls.mono (HB.out _) ?_);rintro e w9 ⟨rfl,rfl⟩)|((with_reducible refine isLoad ?_);(refine' ldI1 (v:=_) hS rfl rfl ty_agg4 rfl ?hb ?_);(case hb=>assumption);(try simp only [Act.put,zE,zF,zG]))|((with_reducible refine isAppend ?_);(refine' apP (p:=_) (m:=_) (v:=_) (n:=_) (xs:=_) (news:=_) 1 (.inr (List.Mem.head _)) hS rfl rfl rfl Tryz.underlying35 boolV_info rfl (by decide) rfl HO.out rfl ?hl ?hcl ?h1 ?h63 ?hby ?_);(case hcl=>exact Cells.one _ _ _ _);(case hl=>rfl);(case h1=>rfl);(case h63=>(unfold maxLen;omega));(case hby=>omega);clear hS;intro v1 m1 w hO1 hS;have HO1:=Lib.hid hO1;clear hO1;(try simp only [zF,zG] at hS);(try simp only [Act.put,zE,zF,zG]))|((with_reducible refine isBuildSlice ?_);(refine' bsl hS ?hr ?_);(case hr=>(intro w0;go_simp;rfl));clear hS;intro XS w hS;(try simp only [zF,zG,zE,Act.eval,zD,zC,zA,zB,zJ,Value.cells] at hS);(try simp only [Act.put,zE,zF,zG])))
      refine ⟨⟨i+1,m1,by omega,by go_num,?_,hS.drop⟩,by simp [intOf];omega⟩
      rw [Htk.out,List.flatMap_append]
      exact HO1.out
    | false =>
      rw [htb] at HB hu
      rw [if_neg (by decide)] at hu
      obtain ⟨X,c',u',e1,hlb,fx⟩:=HX.out.ld (i:=i) (by rw [Hll.out];exact hlt)
      rw [hu] at hlb
      injection hlb with hlb
      subst hlb
      injection e1 with e1 e2 e3
      subst e1 e3
      clear e2 hu htb
      go_wp2_with (first|(go_at_call 79;(with_reducible refine Calls.mono (HB.out _) ?_);rintro e w9 ⟨rfl,rfl⟩)|((with_reducible refine isLoad ?_);(refine' ldI1 (v:=_) hS rfl rfl ty_agg4 rfl ?hb ?_);(case hb=>assumption);(try simp only [Act.put,zE,zF,zG]))|((with_reducible refine isAppend ?_);(refine' apP (p:=_) (m:=_) (v:=_) (n:=_) (xs:=_) (news:=_) 1 (.inr (List.Mem.head _)) hS rfl rfl rfl Tryz.underlying35 boolV_info rfl (by decide) rfl HO.out rfl ?hl ?hcl ?h1 ?h63 ?hby ?_);(case hcl=>exact Cells.one _ _ _ _);(case hl=>rfl);(case h1=>rfl);(case h63=>(unfold maxLen;omega));(case hby=>omega);clear hS;intro v1 m1 w hO1 hS;have HO1:=Lib.hid hO1;clear hO1;(try simp only [zF,zG] at hS);(try simp only [Act.put,zE,zF,zG]))|((with_reducible refine isBuildSlice ?_);(refine' bsl hS ?hr ?_);(case hr=>(intro w0;go_simp;rfl));clear hS;intro XS w hS;(try simp only [zF,zG,zE,Act.eval,zD,zC,zA,zB,zJ,Value.cells] at hS);(try simp only [Act.put,zE,zF,zG])))
      refine ⟨⟨i+1,m1,by omega,by go_num,?_,hS.drop⟩,by simp [intOf];omega⟩
      rw [Htk.out,List.flatMap_append]
      exact HO1.out
  · have hie:i=N:=by omega
    subst hie
    go_wp2_with fail
    go_ret
    have h1:=HO.out
    rw [List.take_of_length_le (by rw [Hln.out];omega)] at h1
    obtain ⟨J,j1,j2,j3⟩:=Hfin.out m _ _ h1 hS
    exact ⟨_,J,rfl,j1,j2,j3⟩
theorem ty_agg29:aggB Tryz.prog 29=some false:=by kernel_rfl
theorem ty_sz29:sizeB Tryz.prog 29=some 1:=by kernel_rfl
theorem ty_agg38:aggB Tryz.prog 38=some true:=by kernel_rfl
theorem ty_sz38:sizeB Tryz.prog 38=some 2:=by kernel_rfl
theorem ty_z38:zeroB Tryz.prog 38=some (.agg #[.int .i64 0,.slice none 0 0]):=by kernel_rfl
theorem ty_agg43:aggB Tryz.prog 43=some true:=by kernel_rfl
theorem ty_sz43:sizeB Tryz.prog 43=some 4:=by kernel_rfl
theorem ty_agg5:aggB Tryz.prog 5=some false:=by kernel_rfl
theorem idx_held {l:List G.Tb} {h:List Nat} {t:G.Tb}:G.heldT l h t=h.getD (l.idxOf t) 0:=rfl
set_option maxRecDepth 100000 in
set_option maxHeartbeats 4000000 in
theorem rheld_any {E w:World} {I:PH} {ms:List PH} {a b o lv hv x:Value} {l:List G.Tb} {h:List Nat} {t:G.Tb} {n:Nat} (hl:RowsR I lv l) (hh:NumR I hv h) (hlen:h.length=l.length) (hT:∀ y ∈ l,y.length≤4096) (hx:BoolR I x t) (h0:t.length=2 ^ n) (hn:n≤12) (hb:l.length≤100000) (hS:Sat E I ms w) :
 Calls Tryz.prog 40 #[.agg #[a,b,o,lv,hv],x] w fun e w'=>e=.returned (nv (G.heldT l h (G.normT t)))∧Sat E I ms w':=by
 have hp:2 ^ n≤4096:=Nat.le_trans (Nat.pow_le_pow_right (show (2:Nat) > 0 by decide) hn) (by decide)
 have hp0:=Nat.two_pow_pos n
 have HN:=Lib.hid (fun (w':World) (ms':List PH) (h9:Sat E I ms' w')=>rnorm_any hx (by omega) (by omega) h9)
 have HI:=Lib.hid (fun (w':World) (ms':List PH) (J:PH) (u:Value) (hJ:I.le J) (hu:BoolR J u (G.normT t)) (h9:Sat E J ms' w')=>rin_idx (hl.le hJ) hu (by omega) (fun y hy=>Nat.le_trans (hT y hy) (by omega)) h9)
 obtain ⟨⟨A,c,rfl⟩,_⟩:=hl.get
 clear hx h0 hT hl
 by_cases hm:G.normT t ∈ l
 · have hi:idxI l (G.normT t)=(l.idxOf (G.normT t):Int):=by unfold idxI;rw [if_pos hm]
   have hlt:=List.idxOf_lt_length_iff.2 hm
   rw [idx_held]
   rw [hi] at HI
   generalize l.idxOf (G.normT t)=k at *
   have hk:h[k]?=some (h.getD k 0):=by rw [List.getD_eq_getElem?_getD,List.getElem?_eq_getElem (by omega)];rfl
   obtain ⟨Y,d,rfl,hat⟩:=hh.2 (by omega)
   have hkk:=hat k _ hk
   generalize h.getD k 0=q at *
   have HK:=Lib.hid hkk
   have hki:(k:Int)<(h.length:Int):=by omega
   clear hm hi hk hat hkk hh
   generalize h.length=H at *
   generalize l.length=L at *
   subst hlen
   clear hlt hb
   go_enter Tryz.func40,Tryz.ntmps40
   go_wp2_with (first
    | (go_at_call 62;(with_reducible refine Calls.mono (HN.out _ _ hS) ?_);clear hS;rintro e w ⟨u,J,rfl,hJ,hu,hS⟩;have HJ:=Lib.hid hJ;have HU:=Lib.hid hu;have jk:=PH.at_le hJ HK.out;clear hJ hu)
    | (go_at_call 63;(with_reducible refine Calls.mono (HI.out _ _ _ _ HJ.out HU.out hS) ?_);clear hS;rintro e w ⟨rfl,hS⟩)
    | ((with_reducible refine atList ?_);first|((with_reducible refine isLoad ?_);(first|(refine ld1 0 hS rfl rfl ?ha rfl rfl rfl ?_;(case ha=>first|exact ty_agg28|exact ty_agg29))|((refine' ldI1 (v:=_) hS rfl rfl ?ha rfl ?hb ?_);(case ha =>  exact ty_agg3 );(case hb=>assumption)));(try simp only [Act.put,zE,zF,zG]))|((with_reducible refine isBox ?_);refine bx hS rfl rfl rfl ?_;clear hS;intro X w hS;(try simp only [Act.eval,zD,zC,zB,zJ,Value.cells] at hS);(try simp only [Act.put,zE,zF,zG]))))
   go_ret
   exact ⟨rfl,hS.drop.less HJ.out⟩
 · have hi:idxI l (G.normT t) = -1:=idxI_no hm
   rw [G.heldT_not hlen hm]
   rw [hi] at HI
   clear hm hi hh
   generalize l.length=L at *
   clear hlen hb
   go_enter Tryz.func40,Tryz.ntmps40
   go_wp2_with (first
    | (go_at_call 62;(with_reducible refine Calls.mono (HN.out _ _ hS) ?_);clear hS;rintro e w ⟨u,J,rfl,hJ,hu,hS⟩;have HJ:=Lib.hid hJ;have HU:=Lib.hid hu;clear hJ hu)
    | (go_at_call 63;(with_reducible refine Calls.mono (HI.out _ _ _ _ HJ.out HU.out hS) ?_);clear hS;rintro e w ⟨rfl,hS⟩)
    | ((with_reducible refine atList ?_);first|((with_reducible refine isLoad ?_);( (refine ld1 0 hS rfl rfl ?ha rfl rfl rfl ?_;(case ha =>  exact ty_agg29)) );(try simp only [Act.put,zE,zF,zG]))|((with_reducible refine isBox ?_);refine bx hS rfl rfl rfl ?_;clear hS;intro X w hS;(try simp only [Act.eval,zD,zC,zB,zJ,Value.cells] at hS);(try simp only [Act.put,zE,zF,zG]))))
   go_ret
   exact ⟨rfl,hS.drop.less HJ.out⟩
end Go.Proofs.YtdhkkkhnjooioaaGreat
