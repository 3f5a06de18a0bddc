import Derived.Test.YtdhkkkhnjooioaaGreatZbj
set_option linter.unusedSimpArgs false
set_option linter.unusedVariables false
namespace Go.Proofs.YtdhkkkhnjooioaaGreat
open Go.RowKit
set_option maxRecDepth 100000 in
set_option maxHeartbeats 4000000 in
theorem rcount_no {E w:World} {I:PH} {ms:List PH} {a b oN oC:Nat} {oA:Option Addr} {lv hv x:Value} {l:List G.Tb} {h:List Nat} {t:G.Tb} {n:Nat} {more:Int} (hl:RowsR I lv l) (hh:NumR I hv h) (hlen:h.length=l.length) (hT:∀ y ∈ l,y.length≤4096) (hx:BoolR I x t) (h0:t.length=2 ^ n) (hn:n≤12) (hb:l.length≤100000) (hm:G.normT t ∉ l) (hS:Sat E I ms w) :
 Calls Tryz.prog 23 #[.agg #[nv a,nv b,.slice oA oN oC,lv,hv],x,.int .i64 more] w fun e w'=>e=.returned (.tuple #[.agg #[nv a,nv b,.slice oA oN oC,lv,hv],.int .i64 0])∧Sat E I ms w':=by
 have hp:2 ^ n≤4096:=Nat.le_trans (Nat.pow_le_pow_right (show (2:Nat) > 0 by decide) hn) (by decide)
 have hp0:=Nat.two_pow_pos n
 have HN:=Lib.hid (fun (w':World) (ms':List PH) (h9:Sat E I ms' w')=>rnorm_any hx (by omega) (by omega) h9)
 have HI:=Lib.hid (fun (w':World) (ms':List PH) (J:PH) (u:Value) (hJ:I.le J) (hu:BoolR J u (G.normT t)) (h9:Sat E J ms' w')=>rin_idx (hl.le hJ) hu (by omega) (fun y hy=>Nat.le_trans (hT y hy) (by omega)) h9)
 obtain ⟨⟨A,c,rfl⟩,_⟩:=hl.get
 have hi:idxI l (G.normT t) = -1:=idxI_no hm
 rw [hi] at HI
 obtain ⟨⟨Ah,ch,rfl⟩,_⟩:=hh
 clear hx h0 hT hl hm hi
 generalize l.length=L at *
 clear hlen hb
 go_enter Tryz.func23,Tryz.ntmps23
 go_wp2_with (first
  | (go_at_call 62;(with_reducible refine Calls.mono (HN.out _ _ hS) ?_);clear hS;rintro e w ⟨u,J,rfl,hJ,hu,hS⟩;have HJ:=Lib.hid hJ;have HU:=Lib.hid hu;clear hJ hu)
  | (go_at_call 63;(with_reducible refine Calls.mono (HI.out _ _ _ _ HJ.out HU.out hS) ?_);clear hS;rintro e w ⟨rfl,hS⟩)
  | ((with_reducible refine atList ?_);first|((with_reducible refine isBoxD 3 ?_);refine bx hS rfl rfl rfl ?_;clear hS;intro X3 w hS;(try simp only [Act.eval,zD,zC,zB,zJ,Value.cells] at hS);(try simp only [Act.put,zE,zF,zG]))|((with_reducible refine isAllocD 6 ?_);(refine' al (z:=_) hS rfl rfl ?ha ?_);(case ha=>exact ty_z31);clear hS;intro R6 w hS;(try simp only [Value.cells] at hS);(try simp only [Act.put,zE,zF,zG]))|((with_reducible refine isLoad ?_);(first|(refine ld1 1 hS rfl rfl ?ha rfl rfl rfl ?_;(case ha=>exact ty_agg29))|(refine ldN 1 hS rfl rfl ?ha rfl rfl ?hb ?_;(case ha=>exact ty_agg31);(case hb=>exact ty_sz31)) );(try simp only [Act.put,zE,zF,zG]))|((with_reducible refine isStore ?_);( (refine stN 0 hS rfl rfl rfl rfl rfl ?ha rfl rfl ?_;(case ha=>exact ty_sz31)) );clear hS;intro w hS;(try simp only [zG,Act.eval,zD,zC,zA,zB,zJ,Value.cells] at hS);(try simp only [Act.put])) ))
 refine bodyPost_ret (res2 rfl (rvN 0 hS rfl rfl ty_agg31 ty_sz31) (rvt rfl)) rfl ?_
 exact ⟨rfl,(hS.drop.drop).less HJ.out⟩
set_option maxRecDepth 100000 in
set_option maxHeartbeats 4000000 in
theorem rcount_neg {E w:World} {I:PH} {ms:List PH} {a b oN oC:Nat} {oA:Option Addr} {lv hv x:Value} {l:List G.Tb} {h:List Nat} {t:G.Tb} {n:Nat} {more:Int} (hl:RowsR I lv l) (hh:NumR I hv h) (hlen:h.length=l.length) (hT:∀ y ∈ l,y.length≤4096) (hx:BoolR I x t) (h0:t.length=2 ^ n) (hn:n≤12) (hb:l.length≤100000) (hm:G.normT t ∈ l) (hq:G.heldT l h (G.normT t)=0) (hmore:more = -1) (hS:Sat E I ms w) :
 Calls Tryz.prog 23 #[.agg #[nv a,nv b,.slice oA oN oC,lv,hv],x,.int .i64 more] w fun e w'=>e=.returned (.tuple #[.agg #[nv a,nv b,.slice oA oN oC,lv,hv],.int .i64 5])∧Sat E I ms w':=by
 have hp:2 ^ n≤4096:=Nat.le_trans (Nat.pow_le_pow_right (show (2:Nat) > 0 by decide) hn) (by decide)
 have hp0:=Nat.two_pow_pos n
 have HN:=Lib.hid (fun (w':World) (ms':List PH) (h9:Sat E I ms' w')=>rnorm_any hx (by omega) (by omega) h9)
 have HI:=Lib.hid (fun (w':World) (ms':List PH) (J:PH) (u:Value) (hJ:I.le J) (hu:BoolR J u (G.normT t)) (h9:Sat E J ms' w')=>rin_idx (hl.le hJ) hu (by omega) (fun y hy=>Nat.le_trans (hT y hy) (by omega)) h9)
 obtain ⟨⟨A,c,rfl⟩,_⟩:=hl.get
 have hi:idxI l (G.normT t)=(l.idxOf (G.normT t):Int):=by unfold idxI;rw [if_pos hm]
 have hlt:=List.idxOf_lt_length_iff.2 hm
 rw [hi] at HI
 have hkd:G.heldT l h (G.normT t)=h.getD (l.idxOf (G.normT t)) 0:=rfl
 rw [hkd] at hq
 generalize l.idxOf (G.normT t)=k at *
 have hk:h[k]?=some (h.getD k 0):=by rw [List.getD_eq_getElem?_getD,List.getElem?_eq_getElem (by omega)];rfl
 obtain ⟨Y,d,rfl,hat⟩:=hh.2 (by omega)
 have hkk:=hat k _ hk
 have hcs:0<h.length→∃ X off,some (⟨Y,0,none⟩:Addr)=some ⟨X,off,none⟩∧Cells I X off (h.flatMap ivC):=fun _=>by
  refine ⟨Y,0,rfl,fun j v hj=>?_⟩
  rw [Nat.zero_add]
  rw [flat_nv,List.getElem?_map] at hj
  cases hx:h[j]? with
  | none=>rw [hx] at hj;cases hj
  | some x=>rw [hx] at hj;cases hj;exact hat j x hx
 subst hmore
 rw [hq] at hkk
 have HK:=Lib.hid hkk
 have hki:(k:Int)<(h.length:Int):=by omega
 clear hx hT hl hm hi hk hat hkk hh hcs hkd hq
 generalize h.length=H at *
 generalize l.length=L at *
 subst hlen
 clear hlt hb h0
 go_enter Tryz.func23,Tryz.ntmps23
 go_wp2_with (first
  | (go_at_call 62;(with_reducible refine Calls.mono (HN.out _ _ hS) ?_);clear hS;rintro e w ⟨u,J,rfl,hJ,hu,hS⟩;have HJ:=Lib.hid hJ;have HU:=Lib.hid hu;have jk:=PH.at_le hJ HK.out;clear hJ hu)
  | (go_at_call 63;(with_reducible refine Calls.mono (HI.out _ _ _ _ HJ.out HU.out hS) ?_);clear hS;rintro e w ⟨rfl,hS⟩)
  | ((with_reducible refine atList ?_);first|((with_reducible refine isBoxD 3 ?_);refine bx hS rfl rfl rfl ?_;clear hS;intro X3 w hS;(try simp only [Act.eval,zD,zC,zB,zJ,Value.cells] at hS);(try simp only [Act.put,zE,zF,zG]))|((with_reducible refine isAllocD 6 ?_);(refine' al (z:=_) hS rfl rfl ?ha ?_);(case ha=>exact ty_z31);clear hS;intro R6 w hS;(try simp only [Value.cells] at hS);(try simp only [Act.put,zE,zF,zG]))|((with_reducible refine isLoad ?_);(first|(refine ld1 1 hS rfl rfl ?ha rfl rfl rfl ?_;(case ha=>first|exact ty_agg28|exact ty_agg29))|(refine ldN 1 hS rfl rfl ?ha rfl rfl ?hb ?_;(case ha=>exact ty_agg31);(case hb=>exact ty_sz31))|((refine' ldI1 (v:=_) hS rfl rfl ?ha rfl ?hb ?_);(case ha =>  exact ty_agg3 );(case hb=>assumption)) );(try simp only [Act.put,zE,zF,zG]))|((with_reducible refine isStore ?_);( (refine stN 0 hS rfl rfl rfl rfl rfl ?ha rfl rfl ?_;(case ha=>exact ty_sz31)) );clear hS;intro w hS;(try simp only [zG,Act.eval,zD,zC,zA,zB,zJ,Value.cells] at hS);(try simp only [Act.put])) ))
 refine bodyPost_ret (res2 rfl (rvN 0 hS rfl rfl ty_agg31 ty_sz31) (rvt rfl)) rfl ?_
 exact ⟨rfl,(hS.drop.drop).less HJ.out⟩
set_option maxRecDepth 100000 in
set_option maxHeartbeats 8000000 in
theorem rcount_add {E w:World} {I:PH} {ms:List PH} {a b oN oC:Nat} {oA:Option Addr} {lv hv x:Value} {l:List G.Tb} {h:List Nat} {t:G.Tb} {n:Nat} {more:Int} (hl:RowsR I lv l) (hh:NumR I hv h) (hlen:h.length=l.length) (hT:∀ y ∈ l,y.length≤4096) (hx:BoolR I x t) (h0:t.length=2 ^ n) (hn:n≤12) (hb:l.length≤100000) {q q':Nat} (hm:G.normT t ∈ l) (hq:G.heldT l h (G.normT t)=q) (hmore:(q:Int)+more=(q':Int)) (hm1 : -1≤more∧more≤1) (hqb:q≤1000000) (hS:Sat E I ms w) :
 Calls Tryz.prog 23 #[.agg #[nv a,nv b,.slice oA oN oC,lv,hv],x,.int .i64 more] w fun e w'=>∃ hv' J,e=.returned (.tuple #[.agg #[nv a,nv b,.slice oA oN oC,lv,hv'],.int .i64 0])∧I.le J∧NumR J hv' (h.set (l.idxOf (G.normT t)) q')∧Sat E J ms w':=by
 have hp:2 ^ n≤4096:=Nat.le_trans (Nat.pow_le_pow_right (show (2:Nat) > 0 by decide) hn) (by decide)
 have hp0:=Nat.two_pow_pos n
 have HN:=Lib.hid (fun (w':World) (ms':List PH) (h9:Sat E I ms' w')=>rnorm_any hx (by omega) (by omega) h9)
 have HI:=Lib.hid (fun (w':World) (ms':List PH) (J:PH) (u:Value) (hJ:I.le J) (hu:BoolR J u (G.normT t)) (h9:Sat E J ms' w')=>rin_idx (hl.le hJ) hu (by omega) (fun y hy=>Nat.le_trans (hT y hy) (by omega)) h9)
 obtain ⟨⟨A,c,rfl⟩,_⟩:=hl.get
 have hi:idxI l (G.normT t)=(l.idxOf (G.normT t):Int):=by unfold idxI;rw [if_pos hm]
 have hlt:=List.idxOf_lt_length_iff.2 hm
 rw [hi] at HI
 have hkd:G.heldT l h (G.normT t)=h.getD (l.idxOf (G.normT t)) 0:=rfl
 rw [hkd] at hq
 generalize l.idxOf (G.normT t)=k at *
 have hk:h[k]?=some (h.getD k 0):=by rw [List.getD_eq_getElem?_getD,List.getElem?_eq_getElem (by omega)];rfl
 obtain ⟨Y,d,rfl,hat⟩:=hh.2 (by omega)
 have hkk:=hat k _ hk
 have hcs:0<h.length→∃ X off,some (⟨Y,0,none⟩:Addr)=some ⟨X,off,none⟩∧Cells I X off (h.flatMap ivC):=fun _=>by
  refine ⟨Y,0,rfl,fun j v hj=>?_⟩
  rw [Nat.zero_add]
  rw [flat_nv,List.getElem?_map] at hj
  cases hx:h[j]? with
  | none=>rw [hx] at hj;cases hj
  | some x=>rw [hx] at hj;cases hj;exact hat j x hx
 rw [hq] at hkk
 have HK:=Lib.hid hkk
 have hki:(k:Int)<(h.length:Int):=by omega
 have hkl:k<h.length:=by omega
 have hflen:(h.flatMap ivC).length=h.length * 1:=flat_length ivC_len _
 have hone:∀ u ∈ h.flatMap ivC,u.oneCell'=true:=fun u hu=>by
  obtain ⟨a,_,ha⟩:=List.mem_flatMap.1 hu
  simp only [ivC,List.mem_singleton] at ha
  subst ha;rfl
 have hld:∀ (m':PH) (V cV:Nat),OwnP m' 3 1 (.slice (some ⟨V,0,none⟩) h.length cV) h.length (h.flatMap ivC)→m'.at V k=some (nv q):=fun m' V cV hO=>by
  have c1:=flat_cells ivC_len hO hk
  rw [Nat.mul_one] at c1
  rw [← hq]
  exact c1.at 0 rfl
 have hst:∀ (m':PH) (V cV:Nat),OwnP m' 3 1 (.slice (some ⟨V,0,none⟩) h.length cV) h.length (spl (h.flatMap ivC) k (Value.cells (nv q')).toList)→OwnP m' 3 1 (.slice (some ⟨V,0,none⟩) h.length cV) h.length ((h.set k q').flatMap ivC):=fun m' V cV hO=>own_set hkl hO
 have hfin:∀ (m':PH) (u:Value),OwnP m' 3 1 u h.length ((h.set k q').flatMap ivC)→NumR m' u (h.set k q'):=fun m' u hO=>OwnP.num (e:=3) (by rw [List.length_set];exact hO)
 have HLd:=Lib.hid hld
 have HSt:=Lib.hid hst
 have HF:=Lib.hid hfin
 have HC:=Lib.hid hcs
 have HL:=Lib.hid hflen
 have H1:=Lib.hid hone
 have hlb:h.length≤100000:=by omega
 have hdec:decide ((q:Int)+more<0)=false:=decide_eq_false (by omega)
 clear hx hT hl hm hi hk hat hkk hh hcs hkd hq hld hst hfin hflen hone
 generalize hfl:h.flatMap ivC=xs at *
 clear hfl
 generalize h.length=H at *
 generalize l.length=L at *
 subst hlen
 clear hlt hb h0
 go_enter Tryz.func23,Tryz.ntmps23
 go_wp2_with (first
  | (go_at_call 62;(with_reducible refine Calls.mono (HN.out _ _ hS) ?_);clear hS;rintro e w ⟨u,J,rfl,hJ,hu,hS⟩;have HJ:=Lib.hid hJ;have HU:=Lib.hid hu;have jk:=PH.at_le hJ HK.out;have HCJ:=Lib.hid (fun (hp:0<H)=>by obtain ⟨X,off,e1,hc⟩:=HC.out hp;exact ⟨X,off,e1,hc.le hJ⟩:0<H→∃ X off,some (⟨Y,0,none⟩:Addr)=some ⟨X,off,none⟩∧Cells J X off xs);clear hJ hu)
  | (go_at_call 63;(with_reducible refine Calls.mono (HI.out _ _ _ _ HJ.out HU.out hS) ?_);clear hS;rintro e w ⟨rfl,hS⟩)
  | ((with_reducible refine isAppend ?_);(refine' apS (p:=_) (m:=_) (v:=_) (n:=_) (xs:=_) (news:=xs) 0 (.inl (PH.le.refl _)) hS rfl rfl rfl Tryz.underlying28 int_info rfl (by decide) rfl ?hown rfl HL.out ?hcs H1.out ?h63 ?hby ?_);(case hown=>exact OwnP.lit _ _ 1 0 #[] (by decide) rfl);(case hcs=>exact HCJ.out);(case h63=>(unfold maxLen;omega));(case hby=>omega);clear hS;intro v1 m1 w1 hO hS;have hV:OwnP m1 3 1 v1 H xs:=(by simpa using hO);clear hO;refine Veil.out ?_;obtain ⟨V,cV,rfl,_⟩:=hV.ptr (by omega);refine ⟨?_⟩;(try simp only [zG] at hS);(try simp only [Act.put,zE,zF,zG]))
  | ((with_reducible refine isBuildSlice ?_);(refine' bsl hS ?hr ?_);(case hr=>(intro w0;go_simp;rfl));clear hS;intro XS w hS;(try simp only [zF,zG,zE,Act.eval,zD,zC,zA,zB,zJ,Value.cells] at hS);(try simp only [Act.put,zE,zF,zG]))
  | ((with_reducible refine atList ?_);first|((with_reducible refine isBoxD 3 ?_);refine bx hS rfl rfl rfl ?_;clear hS;intro X3 w hS;(try simp only [Act.eval,zD,zC,zB,zJ,Value.cells] at hS);(try simp only [Act.put,zE,zF,zG]))|((with_reducible refine isAllocD 6 ?_);(refine' al (z:=_) hS rfl rfl ?ha ?_);(case ha=>exact ty_z31);clear hS;intro R6 w hS;(try simp only [Value.cells] at hS);(try simp only [Act.put,zE,zF,zG]))|((with_reducible refine isLoad ?_);(first|(refine ld1 1 hS rfl rfl ?ha rfl rfl rfl ?_;(case ha=>first|exact ty_agg28|exact ty_agg29))|(refine ld1 2 hS rfl rfl ?ha rfl rfl rfl ?_;(case ha =>  exact ty_agg28 ))|((refine' ldI1 (v:=_) hS rfl rfl ?ha rfl ?hb ?_);(case ha =>  exact ty_agg3 );(case hb=>assumption)) );(try simp only [Act.put,zE,zF,zG]))|((with_reducible refine isStore ?_);( (refine st1 2 hS rfl rfl rfl rfl rfl ?ha rfl rfl ?hb ?_;(case ha =>  exact ty_sz28);(case hb=>(simp;done))) );clear hS;intro w hS;(try simp only [zF,zG,zE,Act.eval,zD,zC,zA,zB,zJ] at hS);(try simp only [Act.put])) ))
 have hAB:=HLd.out _ _ _ hV
 have HV:=Lib.hid hV
 have HAB:=Lib.hid hAB
 clear hV hAB
 have hSp:=hS.perm (perm_front 2 rfl)
 simp only [List.eraseIdx_cons_succ,List.eraseIdx_cons_zero] at hSp
 obtain ⟨I1,a1,e1,hS1,bX⟩:=hSp.ice
 have ix:I1.at X3 4=some (.slice (some ⟨V,0,none⟩) H cV):=PH.at_le e1 (at_one rfl)
 have BX:=Lib.hid bX
 clear hS hSp bX e1
 have hS:=hS1
 clear hS1
 refine region_c1 [[],[0],[],[],[3],[],[3,4,5],[3,4,5,6],[],[3,4,5,6,7,8],[0,1,2,3,4,5,6,7,8,9],[0,1,2,3,4,5,6,7,8,9,10]] E I1 _
  [fun v _=>v=.pointer (some ⟨X3,4,none⟩),fun v _=>v=.slice (some ⟨V,0,none⟩) H cV,fun v _=>v=nv k,fun v _=>v=.pointer (some ⟨X3,4,none⟩),fun v _=>v=.slice (some ⟨V,0,none⟩) H cV,fun v _=>v=nv k,fun v _=>v=.pointer (some ⟨V,k,none⟩),fun v _=>v=nv q,fun v _=>v=.int .i64 more,fun v _=>v=nv q',fun v _=>v=.pointer (some ⟨V,k,none⟩),fun _ _=>True] [11]
  (set1G _ 0 (fun m'=>OwnP m' 3 1 (.slice (some ⟨V,0,none⟩) H cV) H ((h.set k q').flatMap ivC))) (by kernel_rfl) (by kernel_rfl) (by decide) hS rfl ?last (fun _ _ _ _ _ _ h=>h) (fun _ _ _ _ _ _ h=>h) ?plain ?step ?fin
 case last=>repeat (first|exact Lasting.nil|refine Lasting.cons (fun _ _ _ _ h=>h) ?_)
 case plain =>
  repeat' (first|exact trivial|apply And.intro)
  all_goals first|exact .inl rfl|skip
  all_goals
   refine .inr ?_
   intro s vals J9 bs w hstop hg hJ hS hG
   first
   | (obtain rfl:s=0:=Nat.le_zero.1 hstop
      have hG:bs=_:=hG
      subst hG
      have ix9:=PH.at_le hJ ix
      simp only [zH,zI,Given,Facts] at hg;simp only [textL,actL,dstAt,opAt,zH,zI,zA,zB,zK,if_true,Act.put,zE,zF,zG,hg];refine ⟨?_⟩;refine wpStep_of (fun K hK=>?_);have HK:=Lib.hid hK;clear hK;rw [if_pos (by rfl)]
      (with_reducible refine atLoad ?_)
      first
      | (refine wp_ld1 (hS.mle (k:=0) rfl) rfl ty_agg3 rfl HAB.out ?_)
      | (refine wp_ldi1 (v:=_) hS hJ ty_agg28 rfl ix ?_)
      refine HK.out _ _ ⟨rfl,J9,PH.le.refl _,hS,?_⟩
      clear HK
      simp only [Facts]
      simp only [outOf,zH,zI,Act.put,zE,zF,zG,zD,zC,zA,zB,zJ])
   | (clear hG
      simp only [zH,zI,Given,Facts] at hg;simp only [textL,actL,dstAt,opAt,zH,zI,zA,zB,zK,if_true,Act.put,zE,zF,zG,hg];refine ⟨?_⟩;refine wpStep_of (fun K hK=>?_);have HK:=Lib.hid hK;clear hK;rw [if_pos (by rfl)]
      go_wp2_with fail
      refine HK.out _ _ ⟨rfl,J9,PH.le.refl _,hS,?_⟩
      clear HK
      simp only [Facts]
      simp only [outOf,zH,zI,zD,zC,zA,zB,zJ])
 case step =>
  refine ⟨trivial,?_⟩
  intro vals J9 bs w hg hJ hS hG
  have hG:bs=_:=hG
  subst hG
  simp only [zH,zI,Given,Facts] at hg;simp only [textL,actL,dstAt,opAt,zH,zI,zA,zB,zK,if_true,Act.put,zE,zF,zG,hg];refine ⟨?_⟩;refine wpStep_of (fun K hK=>?_);have HK:=Lib.hid hK;clear hK;rw [if_pos (by rfl)]
  refine wp_stO (i:=k) hS 0 rfl rfl rfl rfl HV.out (Nat.mul_one k).symm hkl ty_sz3 rfl (iv_one q') fun m' w hO' hS=>?_
  exact HK.out _ _ ⟨rfl,J9,_,PH.le.refl _,hS,trivial,m',HSt.out _ _ _ hO',rfl⟩
 case fin =>
  intro vals J9 bs w hJ hg hS hG
  obtain ⟨m',hV',hns⟩:=hG
  subst hns
  have hS:=BX.out _ _ (hS.less hJ)
  simp only [zG] at hS
  have HV':=Lib.hid hV'
  clear hV' hJ
  simp only [List.length_cons,List.length_nil,Nat.reduceAdd,Below_,Facts,zH,zI,true_and,and_true] at hg;simp only [List.length_cons,List.length_nil,Nat.reduceAdd,textL,actL,dstAt,zA,zB,zK,if_true,Act.put,zE,zF,zG,hg];refine ⟨?_⟩
  clear hg
  go_wp2_with (first|((with_reducible refine atList ?_);first|((with_reducible refine isLoad ?_);( (refine ldN 0 hS rfl rfl ?ha rfl rfl ?hb ?_;(case ha=>exact ty_agg31);(case hb=>exact ty_sz31)) );(try simp only [Act.put,zE,zF,zG]))|((with_reducible refine isStore ?_);( (refine stN 2 hS rfl rfl rfl rfl rfl ?ha rfl rfl ?_;(case ha=>exact ty_sz31)));clear hS;intro w hS;(try simp only [zF,zG,Act.eval,zD,zC,zA,zB,zJ,Value.cells] at hS);(try simp only [Act.put])) ))
  refine bodyPost_ret (res2 rfl (rvN 2 hS rfl rfl ty_agg31 ty_sz31) (rvt rfl)) rfl ?_
  obtain ⟨J2,a2,e2,hS2,_⟩:=hS.drop.ice
  exact ⟨_,J2,rfl,PH.le.trans HJ.out a2,(HF.out _ _ HV'.out).le e2,hS2.drop⟩
end Go.Proofs.YtdhkkkhnjooioaaGreat
namespace Go.Proofs.YtdhkkkhnjooioaaGreat
open Go.RowKit
theorem cntU_few {k:Nat} {o:List Nat} {l:List G.Tb} {h:List Nat} (hk:k≤5) (i:Nat) (hi:i≤1500):(G.cntU k o l h i).length≤48000:=by
 have h1:=G.cntU_len (k:=k) (o:=o) (l:=l) (h:=h) i
 have h2:((List.range i).filter fun j=>decide (0<h.getD j 0)).length≤1500:=Nat.le_trans (List.length_filter_le _ _) (by rw [List.length_range];exact hi)
 have h3:2 ^ k≤32:=Nat.le_trans (Nat.pow_le_pow_right (show (2:Nat) > 0 by decide) hk) (by decide)
 exact Nat.le_trans h1 (Nat.le_trans (Nat.mul_le_mul h3 h2) (by decide))
set_option maxRecDepth 100000 in
set_option maxHeartbeats 4000000 in
theorem rcounting_any {E w:World} {I:PH} {ms:List PH} {a b oN oC:Nat} {oA:Option Addr} {lv hv oo:Value} {l:List G.Tb} {h os:List Nat} {n:Nat} (hl:RowsR I lv l) (hh:NumR I hv h) (hlen:h.length=l.length) (hoo:NumR I oo os) (ho:G.Ordr n os) (hon:os.length=n) (hn:n≤4) (hT:∀ y ∈ l,G.IsT n y) (hb:l.length≤1500) (hS:Sat E I ms w) :
 Calls Tryz.prog 34 #[.agg #[nv a,nv b,.slice oA oN oC,lv,hv],oo] w fun e w'=>∃ r J,e=.returned r∧I.le J∧RowsR J r (G.cntU (n+1) os l h l.length)∧Sat E J ms w':=by
 obtain ⟨⟨A,c,rfl⟩,hat⟩:=hl.get
 obtain ⟨⟨B,d,rfl⟩,hbt⟩:=hh
 have hld:∀ i,i<l.length→∃ X u t Y q,A=some ⟨X,0,none⟩∧B=some ⟨Y,0,none⟩∧I.at X i=some u∧I.at Y i=some (nv q) ∧
  (0<q→G.cntU (n+1) os l h (i+1)=G.belowT (n+1) os t (G.cntU (n+1) os l h i))∧(¬ 0<q→G.cntU (n+1) os l h (i+1)=G.cntU (n+1) os l h i) ∧
  (∀ (J:PH) (v:Value) (w':World) (ms':List PH),I.le J→RowsR J v (G.cntU (n+1) os l h i)→Sat E J ms' w'→Calls Tryz.prog 70 #[oo,u,v] w' fun e w''=>∃ r K,e=.returned r∧J.le K∧RowsR K r (G.belowT (n+1) os t (G.cntU (n+1) os l h i))∧Sat E K ms' w''):=fun i hi=>by
  have ht:=List.getElem?_eq_getElem hi
  obtain ⟨X,c',u,h1,h2,h3⟩:=hat i _ ht
  injection h1 with h1
  obtain ⟨Y,d',h4,h5⟩:=hbt (by omega)
  injection h4 with h4
  have hq:h[i]?=some (h.getD i 0):=by rw [List.getD_eq_getElem?_getD,List.getElem?_eq_getElem (by omega)];rfl
  have hld:l.getD i []=l[i]:=by rw [List.getD_eq_getElem?_getD,ht];rfl
  refine ⟨X,u,l[i],Y,h.getD i 0,h1,h4,h2,h5 i _ hq,fun hp=>?_,fun hp=>?_,fun J v w' ms' hJ hv h9=>?_⟩
  · rw [← hld];exact if_pos hp
  · exact if_neg hp
  · have hlT:=hT _ (List.getElem_mem hi)
    have hr:os.length<(n+1)+G.rkT os l[i]:=by omega
    have hc:=cntU_few (k:=n+1) (o:=os) (l:=l) (h:=h) (by omega) i (by omega)
    have hp:2 ^ (n+1)≤32:=Nat.le_trans (Nat.pow_le_pow_right (show (2:Nat) > 0 by decide) (show n+1≤5 by omega)) (by decide)
    exact rbelow_any ho ho.lt (by omega) (by omega) (n+1) (hoo.le hJ) (h3.le hJ) hv hlT (G.cntU_T ho hT (by omega) i (by omega)) hr (by omega) h9
 have Hld:=Lib.hid hld
 obtain ⟨⟨oA2,oC2,rfl⟩,_⟩:=hoo
 clear hl hat hbt hld hT ho
 have Hon:=Lib.hid hon
 clear hon
 generalize hL:l.length=L at *
 have HL:=Lib.hid hL
 clear hL
 rw [hlen]
 have Hlen:=Lib.hid hlen
 clear hlen
 generalize os.length=q0 at *
 go_enter Tryz.func34,Tryz.ntmps34
 go_wp2_with (first|((with_reducible refine isBuildSlice ?_);(refine' bsl hS ?hr ?_);(case hr=>(intro w0;go_simp;rfl));clear hS;intro XS w hS;(try simp only [zF,zG,zE,Act.eval,zD,zC,zA,zB,zJ,Value.cells] at hS);(try simp only [Act.put,zE,zF,zG]))|((with_reducible refine atList ?_);  ((with_reducible refine isBoxD 2 ?_);refine bx hS rfl rfl rfl ?_;clear hS;intro X2 w hS;(try simp only [Act.eval,zD,zC,zB,zJ,Value.cells] at hS);(try simp only [Act.put,zE,zF,zG])) ))
 go_loopw [5,6] (fun v5 v6 wr=>∃ (i:Nat) (J:PH),i≤L∧v6=.int .i64 (i:Int)∧I.le J∧RowsR J v5 (G.cntU (n+1) os l h i)∧Sat E J (PH.one X2 (.cells #[nv a,nv b,.slice oA oN oC,.slice A L c,.slice B L d] 31)::ms) wr) (fun _ v6 _=>(L - intOf v6).toNat)
 case atStart=>exact ⟨0,I,Nat.zero_le _,rfl,PH.le.refl _,RowsR.nil I _ _,hS.drop⟩
 case round =>
  clear hS
  obtain ⟨i,J,hi,rfl,hJ,hv,hS⟩:=hrel
  have HJ:=Lib.hid hJ
  have HV:=Lib.hid hv
  clear hv
  by_cases hlt:i<L
  · obtain ⟨X,u,t,Y,q,rfl,rfl,hX,hY,n1,n2,hB⟩:=Hld.out i hlt
    have iX:=PH.at_le hJ hX
    have iY:=PH.at_le hJ hY
    have ii:(i:Int)<(L:Int):=by omega
    have HB:=Lib.hid (fun (w':World) (ms':List PH)=>hB J u5 w' ms' hJ HV.out)
    clear hX hY hJ hB
    by_cases hq:0<q
    · have e1:decide (0<(q:Int))=true:=decide_eq_true (by omega)
      have Hn:=Lib.hid (n1 hq)
      have qi:0<(q:Int):=by omega
      clear n1 n2 hq
      go_wp2_with (first|(go_at_call 70;(with_reducible refine Calls.mono (HB.out _ _ hS) ?_);clear hS;rintro e w ⟨r,K,rfl,hK,hr,hS⟩;have HK:=Lib.hid hK;have HR:=Lib.hid hr;clear hK hr)|((with_reducible refine atList ?_);  ((with_reducible refine isLoad ?_);(first|(refine ld1 0 hS rfl rfl ?ha rfl rfl rfl ?_;(case ha=>first|exact ty_agg28|exact ty_agg29))|((refine' ldI1 (v:=_) hS rfl rfl ?ha rfl ?hb ?_);(case ha=>first|exact ty_agg3|exact ty_agg35 );(case hb=>assumption)));(try simp only [Act.put,zE,zF,zG])) ))
      exact ⟨⟨i+1,K,by omega,by go_num,PH.le.trans HJ.out HK.out,by rw [Hn.out];exact HR.out,hS⟩,by simp [intOf];omega⟩
    · have e1:decide (0<(q:Int))=false:=decide_eq_false (by omega)
      have Hn:=Lib.hid (n2 hq)
      have qi:¬ 0<(q:Int):=by omega
      clear n1 n2 hq HB
      go_wp2_with (first|((with_reducible refine atList ?_);  ((with_reducible refine isLoad ?_);(first|(refine ld1 0 hS rfl rfl ?ha rfl rfl rfl ?_;(case ha=>first|exact ty_agg28|exact ty_agg29))|((refine' ldI1 (v:=_) hS rfl rfl ?ha rfl ?hb ?_);(case ha =>  exact ty_agg3 );(case hb=>assumption)));(try simp only [Act.put,zE,zF,zG])) ))
      exact ⟨⟨i+1,J,by omega,by go_num,HJ.out,by rw [Hn.out];exact HV.out,hS⟩,by simp [intOf];omega⟩
  · have hie:i=L:=by omega
    subst hie
    go_wp2_with (first|((with_reducible refine atList ?_);  ((with_reducible refine isLoad ?_);( (refine ld1 0 hS rfl rfl ?ha rfl rfl rfl ?_;(case ha=>exact ty_agg29)) );(try simp only [Act.put,zE,zF,zG])) ))
    go_ret
    exact ⟨_,J,rfl,HJ.out,HV.out,hS.drop⟩
set_option maxRecDepth 100000 in
set_option maxHeartbeats 4000000 in
theorem rcounts_any {E w:World} {I:PH} {ms:List PH} {a b:Nat} {lv hv ov x:Value} {l:List G.Tb} {h os:List Nat} {t:G.Tb} {n:Nat} (hl:RowsR I lv l) (hh:NumR I hv h) (hlen:h.length=l.length) (hoo:NumR I ov os) (ho:G.Ordr n os) (hon:os.length=n) (hn:n≤4) (hT:∀ y ∈ l,G.IsT n y) (hb:l.length≤1500) (hx:BoolR I x t) (hxt:G.IsT n t) (hS:Sat E I ms w) :
 Calls Tryz.prog 65 #[.agg #[nv a,nv b,ov,lv,hv],x] w fun e w'=>e=.returned (.bool (decide (G.topT os t=none∨G.normT t ∈ G.cntU (n+1) os l h l.length)))∧Sat E I ms w':=by
 have hp:2 ^ n≤16:=Nat.le_trans (Nat.pow_le_pow_right (show (2:Nat) > 0 by decide) hn) (by decide)
 have hp0:=Nat.two_pow_pos n
 have htl:t.length=2 ^ n:=hxt
 have hoo2:=hoo
 obtain ⟨⟨oA,oC,rfl⟩,_⟩:=hoo2
 have HN:=Lib.hid (fun (w':World) (ms':List PH) (h9:Sat E I ms' w')=>rnorm_any hx (by omega) (by omega) h9)
 have HTp:=Lib.hid (fun (w':World) (ms':List PH) (J:PH) (hJ:I.le J) (h9:Sat E J ms' w')=>rtop_any (hoo.le hJ) (hx.le hJ) htl ho.lt (by omega) (by omega) h9)
 have HC:=Lib.hid (fun (w':World) (ms':List PH) (J:PH) (hJ:I.le J) (h9:Sat E J ms' w')=>rcounting_any (a:=a) (b:=b) (oN:=os.length) (oC:=oC) (oA:=oA) (hl.le hJ) (hh.le hJ) hlen (hoo.le hJ) ho hon hn hT hb h9)
 have hcf:=cntU_few (k:=n+1) (o:=os) (l:=l) (h:=h) (by omega) l.length hb
 have HI:=Lib.hid (fun (w':World) (ms':List PH) (J:PH) (r u:Value) (hr:RowsR J r (G.cntU (n+1) os l h l.length)) (hu:BoolR J u (G.normT t)) (h9:Sat E J ms' w')=>rin_idx hr hu (by omega) (fun y hy=>by rw [show y.length=2 ^ n from G.cntU_T ho hT (by omega) l.length (Nat.le_refl _) y hy];omega) h9)
 obtain ⟨⟨A,c,rfl⟩,_⟩:=hl.get
 obtain ⟨⟨B,d,rfl⟩,_⟩:=hh
 clear hl hlen hoo ho hon hT hb hx hxt htl hp hp0 hcf
 generalize os.length=q0 at *
 generalize h.length=q1 at *
 generalize G.cntU (n+1) os l h l.length=cl at *
 generalize l.length=q2 at *
 cases htop:G.topT os t with
 | none =>
   rw [decide_eq_true (.inl rfl)]
   rw [htop] at HTp
   clear htop
   go_enter Tryz.func65,Tryz.ntmps65
   go_wp2_with (first
    | (go_at_call 62;(with_reducible refine Calls.mono (HN.out _ _ hS) ?_);clear hS;rintro e w ⟨u,J,rfl,hJ,hu,hS⟩;have HJ:=Lib.hid hJ;have HU:=Lib.hid hu;clear hJ hu)
    | (go_at_call 24;(with_reducible refine Calls.mono (HTp.out _ _ _ HJ.out hS) ?_);clear hS;rintro e w ⟨rfl,hS⟩;simp only [G.topI])
    | ((with_reducible refine atList ?_);first|((with_reducible refine isGuard ?_);  go_skip )|((with_reducible refine isLoad ?_);( (refine ld1 0 hS rfl rfl ?ha rfl rfl rfl ?_;(case ha=>exact ty_agg28)) );(try simp only [Act.put,zE,zF,zG]))|((with_reducible refine isBox ?_);refine bx hS rfl rfl rfl ?_;clear hS;intro X w hS;(try simp only [Act.eval,zD,zC,zB,zJ,Value.cells] at hS);(try simp only [Act.put,zE,zF,zG]))))
   go_ret
   exact ⟨rfl,hS.drop.less HJ.out⟩
 | some v =>
   have hd:decide ((some v:Option Nat)=none∨G.normT t ∈ cl)=decide (0≤idxI cl (G.normT t)):=by
    rw [decide_eq_decide,idxI_iff];simp
   rw [hd]
   clear hd
   generalize idxI cl (G.normT t)=iz at *
   rw [htop] at HTp
   have hv0:¬ (v:Int)<0:=by omega
   clear htop
   go_enter Tryz.func65,Tryz.ntmps65
   go_wp2_with (first
    | (go_at_call 62;(with_reducible refine Calls.mono (HN.out _ _ hS) ?_);clear hS;rintro e w ⟨u,J,rfl,hJ,hu,hS⟩;have HJ:=Lib.hid hJ;have HU:=Lib.hid hu;clear hJ hu)
    | (go_at_call 24;(with_reducible refine Calls.mono (HTp.out _ _ _ HJ.out hS) ?_);clear hS;rintro e w ⟨rfl,hS⟩;simp only [G.topI])
    | (go_at_call 34;(with_reducible refine Calls.mono (HC.out _ _ _ HJ.out hS) ?_);clear hS;rintro e w ⟨r,K,rfl,hK,hr,hS⟩;have HK:=Lib.hid hK;have HR:=Lib.hid hr;clear hK hr)
    | (go_at_call 63;(with_reducible refine Calls.mono (HI.out _ _ _ _ _ HR.out (HU.out.le HK.out) hS) ?_);clear hS;rintro e w ⟨rfl,hS⟩)
    | ((with_reducible refine atList ?_);first|((with_reducible refine isGuard ?_);first|((with_reducible refine guarded_yes ?hw ?_);case hw=>(simp only [Region.wanted,yielded,zC,zA,zB,zK,beq_self_eq_true];done))|((refine' guarded_cases (b:=_) ?hy ?_ ?_);(case hy=>(simp only [yielded,zC,zA,zB,zK];exact rfl));all_goals (intro hb;(try simp only [Bool.not_false] at hb);(try simp only [hb]);(try simp only [Act.put,zE,zF,zG]);first|((have hf:False:=by (simp at hb;omega));cases hf)|skip)))|((with_reducible refine isLoad ?_);(first|(refine ld1 0 hS rfl rfl ?ha rfl rfl rfl ?_;(case ha=>exact ty_agg28))|(refine ldN 0 hS rfl rfl ?ha rfl rfl ?hb ?_;(case ha=>exact ty_agg31);(case hb=>exact ty_sz31)) );(try simp only [Act.put,zE,zF,zG]))|((with_reducible refine isBox ?_);refine bx hS rfl rfl rfl ?_;clear hS;intro X w hS;(try simp only [Act.eval,zD,zC,zB,zJ,Value.cells] at hS);(try simp only [Act.put,zE,zF,zG]))))
   all_goals
    go_ret
    exact ⟨rfl,(hS.drop.less HK.out).less HJ.out⟩
end Go.Proofs.YtdhkkkhnjooioaaGreat
