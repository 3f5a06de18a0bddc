import Derived.Test.YtdhkkkhnjooioaaGreatZbn
set_option linter.unusedSimpArgs false
set_option linter.unusedVariables false
namespace Go.Proofs.YtdhkkkhnjooioaaGreat
open Go.RowKit
set_option maxRecDepth 100000 in
set_option maxHeartbeats 4000000 in
theorem rswapped_bad {E w:World} {I:PH} {ms:List PH} {o:Value} {os:List Nat} {level:Int} (ho:NumR I o os) (hol:os.length≤64) (hbad:level<0∨level≥(os.length:Int) - 1) (hS:Sat E I ms w) :
 Calls Tryz.prog 30 #[o,.int .i64 level] w fun e w'=>e=.returned (.tuple #[o,.bool false])∧Sat E I ms w':=by
 obtain ⟨⟨A,c,rfl⟩,_⟩:=ho
 generalize os.length=q at *
 have hc:(level<0∧decide (level<0)=true)∨(¬ level<0∧decide (level<0)=false∧(q:Int) - 1≤level∧decide ((q:Int) - 1≤level)=true):=by
  by_cases h1:level<0
  · exact .inl ⟨h1,decide_eq_true h1⟩
  · have h2:(q:Int) - 1≤level:=by omega
    exact .inr ⟨h1,decide_eq_false h1,h2,decide_eq_true h2⟩
 clear hbad
 rcases hc with ⟨h1,h2⟩|⟨h1,h2,h3,h4⟩
 all_goals
  go_enter Tryz.func30,Tryz.ntmps30
  go_wp2_with (first|((with_reducible refine atList ?_);((with_reducible refine isGuard ?_);  ((with_reducible refine guarded_yes ?hw ?_);case hw=>(simp only [Region.wanted,yielded,zC,zA,zB,zK,beq_self_eq_true];done)) )))
  refine bodyPost_ret (results_tmp2 rfl _ _ _) rfl ?_
  exact ⟨rfl,hS⟩
theorem stop_case {s n:Nat} {Q:Prop} (h:s≤n) (h0:n=0) (k:s=0→Q):Q:=k (by omega)
set_option maxRecDepth 100000 in
set_option maxHeartbeats 8000000 in
theorem lswap_bad {E w:World} {I m:PH} {ms:List PH} {a b n S:Nat} {ov lv hv:Value} {l:List G.Tb} {h os:List Nat} {s s':G.St} {k:Nat} (hl:RowsR I lv l) (hh:NumR I hv h) (hlen:h.length=l.length) (hoo:NumR I ov os) (ho:G.Ordr n os) (hon:os.length=n) (hn:n≤4) (hT:∀ y ∈ l,G.IsT n y) (hb:l.length≤1500) (hA:StAt S s m) {level:Int} (hbad:level<0∨level≥(os.length:Int) - 1) (hvs:s.vars.length=os.length) (hS:Sat E I (m::ms) w) :
 Calls Tryz.prog 29 #[vPt S,.agg #[nv a,nv b,ov,lv,hv],.int .i64 level] w fun e w'=>e=.returned (.tuple #[.agg #[nv a,nv b,ov,lv,hv],.bool true])∧Sat E I (m::ms) w':=by
 have HSd:=Lib.hid (fun (w':World) (ms':List PH) (J:PH) (hJ:I.le J) (h9:Sat E J ms' w')=>rswapped_bad (level:=level) (hoo.le hJ) (by omega) hbad h9)
 have HSw:=Lib.hid (fun (w':World) (ms':List PH) (J:PH) (h9:Sat E J (m::ms') w')=>sswap_bad (level:=level) (by rw [hvs];exact hbad) hA h9)
 obtain ⟨⟨A,c,rfl⟩,_⟩:=hl.get
 obtain ⟨⟨B,d,rfl⟩,_⟩:=hh
 obtain ⟨⟨oA,oC,rfl⟩,_⟩:=hoo
 clear hl hlen ho hon hT hb hA hbad hvs
 generalize os.length=q0 at *
 generalize l.length=q1 at *
 generalize h.length=q2 at *
 go_enter Tryz.func29,Tryz.ntmps29
 go_upto_region 1 with (first|((with_reducible refine atList ?_);first|((with_reducible refine isBoxD 4 ?_);refine bx hS rfl rfl rfl ?_;clear hS;intro X4 w hS;(try simp only [Act.eval,zD,zC,zA,zB,zJ,Value.cells] at hS);(try simp only [Act.put,zE,zF,zG]))|((with_reducible refine isAllocD 6 ?_);(refine' al (z:=_) hS rfl rfl ?ha ?_);(case ha=>exact ty_z31);clear hS;intro R6 w hS;(try simp only [Value.cells] at hS);(try simp only [Act.put,zE,zF,zG])) ))
 have hSp:=hS.perm (perm_front 1 rfl)
 simp only [List.eraseIdx_cons_succ,List.eraseIdx_cons_zero] at hSp
 obtain ⟨I4,a4,e4,hS4,_⟩:=hSp.ice
 have ix4:Cells I4 X4 0 [nv a,nv b,.slice oA q0 oC,.slice A q1 c,.slice B q2 d]:=(Cells.one X4 #[nv a,nv b,.slice oA q0 oC,.slice A q1 c,.slice B q2 d] 31 (0,0)).le e4
 clear hS hSp e4
 have hS:=hS4
 clear hS4
 have HA4:=Lib.hid a4
 have hS5:=hS.perm (List.Perm.swap _ _ _)
 clear hS
 have hS:=hS5
 clear hS5
 have ix42:I4.at X4 2=some (.slice oA q0 oC):=ix4 2 _ rfl
 go_wp2_with (first
  | (go_at_call 30;(with_reducible refine Calls.mono (HSd.out _ _ _ HA4.out hS) ?_);clear hS;rintro e w ⟨rfl,hS⟩)
  | (go_at_call 14;(with_reducible refine Calls.mono (HSw.out _ _ _ hS) ?_);clear hS;rintro e w ⟨rfl,hS⟩)
  | ((with_reducible refine isLoad ?_);(first|((refine' ldI1 (v:=_) hS rfl rfl ?ha rfl ?hb ?_);(case ha =>  exact ty_agg28);(case hb=>assumption))|((refine' ldIN (vs:=_) hS rfl rfl ?ha rfl ?hc ?hb ?_);(case ha=>exact ty_agg31);(case hc=>assumption);(case hb=>exact ty_sz31)));(try simp only [Act.put,zE,zF,zG]))
  | ((with_reducible refine atList ?_);  ((with_reducible refine isStore ?_);( (refine stN 1 hS rfl rfl rfl rfl rfl ?ha rfl rfl ?_;(case ha=>exact ty_sz31)));clear hS;intro w hS;(try simp only [zF,zG,Act.eval,zD,zC,zA,zB,zJ,Value.cells] at hS);(try simp only [Act.put])) ))
 refine bodyPost_ret (res2 rfl (rvN 1 hS rfl rfl ty_agg31 ty_sz31) (rvt rfl)) rfl ?_
 exact ⟨rfl,((hS.perm (List.Perm.swap _ _ _)).drop).less HA4.out⟩
theorem rcollect_s {E w:World} {I:PH} {ms:List PH} {a b n cq:Nat} {ov lv hv oo:Value} {l cl:List G.Tb} {h os os0:List Nat} (hl:RowsR I lv l) (hh:NumR I hv h) (hlen:h.length=l.length) (ho0:NumR I ov os0) (hoo:NumR I oo os) (ho:G.Ordr n os) (hon:os.length=n) (hn:n≤4) (hT:∀ y ∈ l,G.IsT n y) (hb:l.length≤1500) (hcl:G.cntU (n+1) os l h l.length=cl) (hcq:cl.length=cq) (hS:Sat E I ms w) :
 Calls Tryz.prog 26 #[.agg #[nv a,nv b,ov,lv,hv],oo] w fun e w'=>∃ Ac cc Ag cg J,e=.returned (.agg #[nv a,nv b,oo,.slice Ac cq cc,.slice Ag cq cg])∧I.le J∧RowsR J (.slice Ac cq cc) cl∧NumR J (.slice Ag cq cg) (cl.map fun y=>G.heldT l h (G.normT y))∧Sat E J ms w':=by
 obtain ⟨⟨oA,oC,rfl⟩,_⟩:=ho0
 refine (rcollect_any hl hh hlen hoo ho hon hn hT hb hS).mono ?_
 rintro e w' ⟨cv,gv,J,rfl,hJ,h1,h2,h3⟩
 rw [hcl] at h1 h2
 have g1:=h1
 have g2:=h2
 obtain ⟨⟨Ac,cc,rfl⟩,_⟩:=g1.get
 obtain ⟨⟨Ag,cg,rfl⟩,_⟩:=g2
 rw [List.length_map,hcq] at *
 exact ⟨Ac,cc,Ag,cg,J,rfl,hJ,h1,h2,h3⟩
set_option maxRecDepth 100000 in
set_option maxHeartbeats 8000000 in
theorem lswap_7 {E w:World} {I m:PH} {ms:List PH} {a b n S:Nat} {ov lv hv:Value} {l:List G.Tb} {h os:List Nat} {s s':G.St} {k:Nat} (hl:RowsR I lv l) (hh:NumR I hv h) (hlen:h.length=l.length) (hoo:NumR I ov os) (ho:G.Ordr n os) (hon:os.length=n) (hn:n≤4) (hT:∀ y ∈ l,G.IsT n y) (hb:l.length≤1500) (hA:StAt S s m) (hk:k+1<os.length) {x y:Nat} (hka:os[k]?=some x) (hkb:os[k+1]?=some y) {cl:List G.Tb} (hcl:G.cntU (n+1) os l h l.length=cl) (hroom:b<3 * cl.length) (hdead:s'.dead=0)
 (HSw:∀ (w':World) (ms':List PH) (J:PH),Sat E J (m::ms') w'→Calls Tryz.prog 14 #[vPt S,nv k] w' fun e w''=>e=.returned (nv 7)∧∃ m',StAt S s' m'∧Sat E J (m'::ms') w'') (hS:Sat E I (m::ms) w) :
 Calls Tryz.prog 29 #[vPt S,.agg #[nv a,nv b,ov,lv,hv],nv k] w fun e w'=>∃ cv gv J m',e=.returned (.tuple #[.agg #[nv a,nv b,ov,cv,gv],.bool true])∧I.le J∧RowsR J cv cl∧NumR J gv (cl.map fun y=>G.heldT l h (G.normT y))∧StAt S s' m'∧Sat E J (m'::ms) w':=by
 have hSd:=fun (w':World) (ms':List PH) (J:PH) (hJ:I.le J) (h9:Sat E J ms' w')=>rswapped_any (hoo.le hJ) hk hka hkb (by omega) h9
 have HSd:=Lib.hid hSd
 have HSw:=Lib.hid HSw
 obtain ⟨cq,hcq⟩:∃ cq,cl.length=cq:=⟨_,rfl⟩
 have HCo:=Lib.hid (fun (w':World) (ms':List PH) (J:PH) (hJ:I.le J) (h9:Sat E J ms' w')=>rcollect_s (a:=a) (b:=b) (hl.le hJ) (hh.le hJ) hlen (hoo.le hJ) (hoo.le hJ) ho hon hn hT hb hcl hcq h9)
 rw [hcq] at hroom
 have HDd:=Lib.hid (fun (m2:PH) (hA2:StAt S s' m2) (w':World) (ms':List PH) (J:PH) (h9:Sat E J (m2::ms') w')=>show Calls Tryz.prog 12 #[vPt S] w' (fun e w''=>e=.returned (nv 0)∧w'=w'') by rw [← hdead];exact sdead_any (hA2.read.le (h9.mle (k:=0) rfl)))
 obtain ⟨⟨A,c,rfl⟩,_⟩:=hl.get
 obtain ⟨⟨B,d,rfl⟩,_⟩:=hh
 have hoo2:=hoo
 obtain ⟨⟨oA,oC,rfl⟩,_⟩:=hoo2
 have hr3:(b:Int)<3 * (cq:Int):=by omega
 have hcb:cq≤48000:=by rw [← hcq,← hcl];exact cntU_few (by omega) _ hb
 have hki:(k:Int)<(os.length:Int):=by omega
 clear hl hlen ho hon hT hb hA hoo hk hka hkb hcl hcq hroom hdead hSd
 generalize os.length=q0 at *
 generalize l.length=q1 at *
 generalize h.length=q2 at *
 go_enter Tryz.func29,Tryz.ntmps29
 go_upto_region 1 with (first|((with_reducible refine atList ?_);first|((with_reducible refine isBoxD 4 ?_);refine bx hS rfl rfl rfl ?_;clear hS;intro X4 w hS;(try simp only [Act.eval,zD,zC,zA,zB,zJ,Value.cells] at hS);(try simp only [Act.put,zE,zF,zG]))|((with_reducible refine isAllocD 6 ?_);(refine' al (z:=_) hS rfl rfl ?ha ?_);(case ha=>exact ty_z31);clear hS;intro R6 w hS;(try simp only [Value.cells] at hS);(try simp only [Act.put,zE,zF,zG])) ))
 have hSp:=hS.perm (perm_front 1 rfl)
 simp only [List.eraseIdx_cons_succ,List.eraseIdx_cons_zero] at hSp
 obtain ⟨I4,a4,e4,hS4,_⟩:=hSp.ice
 have ix4:Cells I4 X4 0 [nv a,nv b,.slice oA q0 oC,.slice A q1 c,.slice B q2 d]:=(Cells.one X4 #[nv a,nv b,.slice oA q0 oC,.slice A q1 c,.slice B q2 d] 31 (0,0)).le e4
 clear hS hSp e4
 have hS:=hS4
 clear hS4
 have HA4:=Lib.hid a4
 have hS5:=hS.perm (List.Perm.swap _ _ _)
 clear hS
 have hS:=hS5
 clear hS5
 have ix42:I4.at X4 2=some (.slice oA q0 oC):=ix4 2 _ rfl
 go_upto_region 6 with (first
  | (go_at_call 30;(with_reducible refine Calls.mono (HSd.out _ _ _ HA4.out hS) ?_);clear hS;rintro e w ⟨un,J1,rfl,hJ1,hun,hS⟩;refine Veil.out ?_;have hun2:=hun;obtain ⟨⟨oA2,oC2,rfl⟩,_⟩:=hun2;refine ⟨?_⟩;have HJ1:=Lib.hid hJ1;have HUn:=Lib.hid hun;have jx4:=ix4.le hJ1;have j42:J1.at X4 2=some _:=jx4 2 _ rfl;clear hJ1 hun)
  | (go_at_call 14;(with_reducible refine Calls.mono (HSw.out _ _ _ hS) ?_);clear hS;rintro e w ⟨rfl,m2,hA2,hS⟩;have HA2:=Lib.hid hA2;clear hA2)
  | (go_at_call 26;(with_reducible refine Calls.mono (HCo.out _ _ _ (PH.le.trans HA4.out HJ1.out) hS) ?_);clear hS;rintro e w ⟨Ac,cc,Ag,cg,J2,rfl,hJ2,hcv,hgv,hS⟩;have HJ2:=Lib.hid hJ2;have HCv:=Lib.hid hcv;have HGv:=Lib.hid hgv;have kx4:=jx4.le hJ2;clear hJ2 hcv hgv)
  | ((with_reducible refine isLoad ?_);(first|((refine' ldI1 (v:=_) hS rfl rfl ?ha rfl ?hb ?_);(case ha =>  exact ty_agg28);(case hb=>assumption))|((refine' ldIN (vs:=_) hS rfl rfl ?ha rfl ?hc ?hb ?_);(case ha=>exact ty_agg31);(case hc=>assumption);(case hb=>exact ty_sz31)));(try simp only [Act.put,zE,zF,zG]))
  | ((with_reducible refine atList ?_);first|((with_reducible refine isAllocD 11 ?_);(refine' al (z:=_) hS rfl rfl ?ha ?_);(case ha=>exact ty_z31);clear hS;intro N11 w hS;(try simp only [Value.cells] at hS);(try simp only [Act.put,zE,zF,zG]))|((with_reducible refine isStore ?_);(first|(refine stN 0 hS rfl rfl rfl rfl rfl ?ha rfl rfl ?_;(case ha=>exact ty_sz31)));clear hS;intro w hS;(try simp only [zG,Act.eval,zD,zC,zA,zB,zJ,Value.cells] at hS);(try simp only [Act.put])) ))
 have hSp:=hS.perm (perm_front 0 rfl)
 simp only [List.eraseIdx_cons_zero] at hSp
 obtain ⟨I11,a11,e11,hS11,_⟩:=hSp.ice
 have ix11:Cells I11 N11 0 [nv a,nv b,.slice oA q0 oC,.slice Ac cq cc,.slice Ag cq cg]:=(Cells.one N11 #[nv a,nv b,.slice oA q0 oC,.slice Ac cq cc,.slice Ag cq cg] 31 (0,0)).le e11
 clear hS hSp e11
 have hS:=hS11
 clear hS11
 have k41:I11.at X4 1=some (nv b):=PH.at_le a11 (kx4 1 _ rfl)
 have k113:I11.at N11 3=some (.slice Ac cq cc):=ix11 3 _ rfl
 go_upto_region 7 with (fail)
 refine region_c1 [[],[],[1],[],[3],[3,4],[3,4,5],[1,2,3,4,5,6],[1,2,3,4,5,6,7],[1,2,3,4,5,6,7,8],[1,2,3,4,5,6,7,8,9],[1,2,3,4,5,6,7,8,9,10],[1,2,3,4,5,6,7,8,9,10,11],[0,1,2,3,4,5,6,7,8,9,10],[0,1,2,3,4,5,6,7,8,9,10,11,12,13]] E I11 _
  [fun v _=>v=.agg #[nv a,nv b,.slice oA q0 oC,.slice Ac cq cc,.slice Ag cq cg],fun v _=>v=.pointer (some ⟨X4,1,none⟩),fun v _=>v=nv b,fun v _=>v=.pointer (some ⟨N11,3,none⟩),fun v _=>v=.slice Ac cq cc,fun v _=>v=nv cq,fun v _=>v=.int .i64 (3 * (cq:Int)),fun v _=>v=.bool true,fun v _=>v=.bool true,fun v _=>v=vPt S,fun v _=>v=nv 0,fun v _=>v=.bool true,fun v _=>v=.bool true,fun _ _=>True,fun v _=>v=.bool true] [13]
  (set1G _ 1 (fun m'=>m'=PH.one R6 (.cells #[nv a,nv b,.slice oA q0 oC,.slice Ac cq cc,.slice Ag cq cg] 31))) (by kernel_rfl) (by kernel_rfl) (by decide) hS rfl ?last (fun _ _ _ _ _ _ h=>h) (fun _ _ _ _ _ _ h=>h) ?plain ?step ?fin
 case last=>repeat (first|exact Lasting.nil|refine Lasting.cons (fun _ _ _ _ h=>h) ?_)
 case plain =>
  repeat' (first|exact trivial|apply And.intro)
  all_goals first|exact .inl rfl|skip
  all_goals
   refine .inr ?_
   intro s vals J9 bs w hstop hg hJ9 hS hG
   first
   | (refine stop_case hstop rfl ?_
      intro hs0
      subst hs0
      have hG:bs=_:=hG
      subst hG
      simp only [zH,zI,Given,Facts] at hg;simp only [textL,actL,dstAt,opAt,zH,zI,zA,zB,zK,if_true,Act.put,zE,zF,zG,hg];refine ⟨?_⟩;refine wpStep_of (fun K hK=>?_);have HK:=Lib.hid hK;clear hK;rw [if_pos (by rfl)]
      (first|((with_reducible refine atLoad ?_);first|((refine' wp_ldi1 (v:=_) hS hJ9 ?ha rfl ?hc ?_);(case ha=>first|exact ty_agg3|exact ty_agg29);(case hc=>assumption))|((refine' wp_ldiN (vs:=_) hS hJ9 ?ha rfl ?hc ?hb ?_);(case ha=>first|exact ty_agg31);(case hc=>assumption);(case hb=>first|exact ty_sz31)))|(go_wp2_with (first|(go_at_call 12;((with_reducible refine Calls.mono (HDd.out _ HA2.out _ _ _ hS) ?_);rintro e w2 ⟨rfl,rfl⟩)))))
      refine HK.out _ _ ⟨rfl,J9,PH.le.refl _,hS,?_⟩
      clear HK
      simp only [Facts]
      simp only [outOf,zH,zI,Act.put,zE,zF,zG,zD,zC,zA,zB,zJ])
   | (simp only [zH,zI,Given,Facts] at hg;simp only [textL,actL,dstAt,opAt,zH,zI,zA,zB,zK,if_true,Act.put,zE,zF,zG,hg];refine ⟨?_⟩;refine wpStep_of (fun K hK=>?_);have HK:=Lib.hid hK;clear hK;rw [if_pos (by rfl)]
      ( (go_wp2_with (fail)))
      refine HK.out _ _ ⟨rfl,J9,PH.le.refl _,hS,?_⟩
      clear HK
      simp only [Facts]
      simp only [outOf,zH,zI,zD,zC,zA,zB,zJ])
 case step =>
  refine ⟨trivial,?_⟩
  · intro vals J9 bs w hg hJ9 hS hG
    have hG:bs=_:=hG
    subst hG
    simp only [zH,zI,Given,Facts] at hg;simp only [textL,actL,dstAt,opAt,zH,zI,zA,zB,zK,if_true,Act.put,zE,zF,zG,hg];refine ⟨?_⟩;refine wpStep_of (fun K hK=>?_);have HK:=Lib.hid hK;clear hK;rw [if_pos (by rfl)]
    refine wp_stN hS 1 rfl rfl rfl rfl ?ha rfl ?hb fun w' hS'=>?_
    case ha=>exact ty_sz31
    case hb=>(simp [Act.eval,Value.cells,Value.oneCell'];done)
    exact HK.out _ _ ⟨rfl,J9,_,PH.le.refl _,hS',trivial,_,rfl,rfl⟩
 case fin =>
  intro vals J9 bs w hJ9 hg hS hG
  obtain ⟨m',rfl,hns⟩:=hG
  subst hns
  have hS:=hS.less hJ9
  simp only [zF,zG] at hS
  clear hJ9
  simp only [List.length_cons,List.length_nil,Nat.reduceAdd,Below_,Facts,zH,zI,true_and,and_true] at hg;simp only [List.length_cons,List.length_nil,Nat.reduceAdd,textL,actL,dstAt,zA,zB,zK,if_true,Act.put,zE,zF,zG,hg];refine ⟨?_⟩
  clear hg
  go_wp2_with fail
  refine bodyPost_ret (res2 rfl (rvN 1 hS rfl rfl ty_agg31 ty_sz31) (rvt rfl)) rfl ?_
  exact ⟨_,_,J2,m2,rfl,PH.le.trans (PH.le.trans HA4.out HJ1.out) HJ2.out,HCv.out,HGv.out,HA2.out,((hS.perm (List.Perm.swap _ _ _)).drop).less a11⟩
set_option maxRecDepth 100000 in
set_option maxHeartbeats 8000000 in
theorem lswap_0 {E w:World} {I m:PH} {ms:List PH} {a b n S:Nat} {ov lv hv:Value} {l:List G.Tb} {h os:List Nat} {s s':G.St} {k:Nat} (hl:RowsR I lv l) (hh:NumR I hv h) (hlen:h.length=l.length) (hoo:NumR I ov os) (ho:G.Ordr n os) (hon:os.length=n) (hn:n≤4) (hT:∀ y ∈ l,G.IsT n y) (hb:l.length≤1500) (hA:StAt S s m) (hk:k+1<os.length) {x y:Nat} (hka:os[k]?=some x) (hkb:os[k+1]?=some y) {os':List Nat} (hos':(os.set k y).set (k+1) x=os') (ho':G.Ordr n os') {cl:List G.Tb} (hcl:G.cntU (n+1) os' l h l.length=cl) (hmany:G.many s'.pl.slots=cl.length) (hdead:s'.dead=0)
 (HSw:∀ (w':World) (ms':List PH) (J:PH),Sat E J (m::ms') w'→Calls Tryz.prog 14 #[vPt S,nv k] w' fun e w''=>e=.returned (nv 0)∧∃ m',StAt S s' m'∧Sat E J (m'::ms') w'') (hS:Sat E I (m::ms) w) :
 Calls Tryz.prog 29 #[vPt S,.agg #[nv a,nv b,ov,lv,hv],nv k] w fun e w'=>∃ uv cv gv J m',e=.returned (.tuple #[.agg #[nv a,nv b,uv,cv,gv],.bool true])∧I.le J∧NumR J uv os'∧RowsR J cv cl∧NumR J gv (cl.map fun y=>G.heldT l h (G.normT y))∧StAt S s' m'∧Sat E J (m'::ms) w':=by
 have hol':os'.length=os.length:=by rw [← hos'];simp
 have HSd:=Lib.hid (fun (w':World) (ms':List PH) (J:PH) (hJ:I.le J) (h9:Sat E J ms' w')=>show Calls Tryz.prog 30 #[ov,nv k] w' (fun e w''=>∃ uA uC K,e=.returned (.tuple #[.slice uA os.length uC,.bool true])∧J.le K∧NumR K (.slice uA os.length uC) os'∧Sat E K ms' w'') from (rswapped_any (hoo.le hJ) hk hka hkb (by omega) h9).mono (by
  rintro e w2 ⟨u,K,rfl,hK,hu,h8⟩
  rw [hos'] at hu
  have hu2:=hu
  obtain ⟨⟨uA,uC,rfl⟩,_⟩:=hu2
  rw [hol'] at hu ⊢
  exact ⟨uA,uC,K,rfl,hK,hu,h8⟩))
 have HSw:=Lib.hid HSw
 obtain ⟨cq,hcq⟩:∃ cq,cl.length=cq:=⟨_,rfl⟩
 obtain ⟨c0,hc0⟩:∃ c0,(G.cntU (n+1) os l h l.length).length=c0:=⟨_,rfl⟩
 have HCo:=Lib.hid (fun (w':World) (ms':List PH) (J:PH) (hJ:I.le J) (h9:Sat E J ms' w')=>rcollect_s (a:=a) (b:=b) (hl.le hJ) (hh.le hJ) hlen (hoo.le hJ) (hoo.le hJ) ho hon hn hT hb rfl hc0 h9)
 have HCo2:=Lib.hid (fun (w':World) (ms':List PH) (J:PH) (uv:Value) (hJ:I.le J) (hu:NumR J uv os') (h9:Sat E J ms' w')=>rcollect_s (a:=a) (b:=b) (hl.le hJ) (hh.le hJ) hlen (hoo.le hJ) hu ho' (hol'.trans hon) hn hT hb hcl hcq h9)
 have HDd:=Lib.hid (fun (m2:PH) (hA2:StAt S s' m2) (w':World) (ms':List PH) (J:PH) (h9:Sat E J (m2::ms') w')=>show Calls Tryz.prog 12 #[vPt S] w' (fun e w''=>e=.returned (nv 0)∧w'=w'') by rw [← hdead];exact sdead_any (hA2.read.le (h9.mle (k:=0) rfl)))
 rw [hcq] at hmany
 have HLn:=Lib.hid (fun (m2:PH) (hA2:StAt S s' m2) (w':World) (ms':List PH) (J:PH) (h9:Sat E J (m2::ms') w')=>show Calls Tryz.prog 11 #[vPt S] w' (fun e w''=>e=.returned (nv cq)∧w'=w'') by rw [← hmany];exact slen_any (hA2.read.le (h9.mle (k:=0) rfl)))
 have HCl:=Lib.hid (fun (m2:PH) (hA2:StAt S s' m2) (w':World) (ms':List PH) (J:PH) (h9:Sat E J (m2::ms') w')=>scollect_none hdead hA2 h9)
 obtain ⟨⟨A,c,rfl⟩,_⟩:=hl.get
 obtain ⟨⟨B,d,rfl⟩,_⟩:=hh
 have hoo2:=hoo
 obtain ⟨⟨oA,oC,rfl⟩,_⟩:=hoo2
 have hcb:cq≤48000:=by rw [← hcq,← hcl];exact cntU_few (by omega) _ hb
 have hki:(k:Int)<(os.length:Int):=by omega
 clear hl hlen ho ho' hon hT hb hA hoo hk hka hkb hcl hcq hc0 hmany hdead hos' hol'
 generalize os.length=q0 at *
 generalize l.length=q1 at *
 generalize h.length=q2 at *
 go_enter Tryz.func29,Tryz.ntmps29
 go_upto_region 1 with (first|((with_reducible refine atList ?_);first|((with_reducible refine isBoxD 4 ?_);refine bx hS rfl rfl rfl ?_;clear hS;intro X4 w hS;(try simp only [Act.eval,zD,zC,zA,zB,zJ,Value.cells] at hS);(try simp only [Act.put,zE,zF,zG]))|((with_reducible refine isAllocD 6 ?_);(refine' al (z:=_) hS rfl rfl ?ha ?_);(case ha=>exact ty_z31);clear hS;intro R6 w hS;(try simp only [Value.cells] at hS);(try simp only [Act.put,zE,zF,zG])) ))
 have hSp:=hS.perm (perm_front 1 rfl)
 simp only [List.eraseIdx_cons_succ,List.eraseIdx_cons_zero] at hSp
 obtain ⟨I4,a4,e4,hS4,_⟩:=hSp.ice
 have ix4:Cells I4 X4 0 [nv a,nv b,.slice oA q0 oC,.slice A q1 c,.slice B q2 d]:=(Cells.one X4 #[nv a,nv b,.slice oA q0 oC,.slice A q1 c,.slice B q2 d] 31 (0,0)).le e4
 clear hS hSp e4
 have hS:=hS4
 clear hS4
 have HA4:=Lib.hid a4
 have hS5:=hS.perm (List.Perm.swap _ _ _)
 clear hS
 have hS:=hS5
 clear hS5
 have ix42:I4.at X4 2=some (.slice oA q0 oC):=ix4 2 _ rfl
 go_upto_region 8 with (first
  | (go_at_call 30;(with_reducible refine Calls.mono (HSd.out _ _ _ HA4.out hS) ?_);clear hS;rintro e w ⟨uA,uC,J1,rfl,hJ1,hun,hS⟩;have HJ1:=Lib.hid hJ1;have HUn:=Lib.hid hun;have jx4:=ix4.le hJ1;have j42:J1.at X4 2=some _:=jx4 2 _ rfl;clear hJ1 hun)
  | (go_at_call 14;(with_reducible refine Calls.mono (HSw.out _ _ _ hS) ?_);clear hS;rintro e w ⟨rfl,m2,hA2,hS⟩;have HA2:=Lib.hid hA2;clear hA2)
  | (go_at_call 26;(with_reducible refine Calls.mono (HCo.out _ _ _ (PH.le.trans HA4.out HJ1.out) hS) ?_);clear hS;rintro e w ⟨Ab,cb,Ah,ch,J2,rfl,hJ2,_,_,hS⟩;have HJ2:=Lib.hid hJ2;have kx4:=jx4.le hJ2;have HUn2:=Lib.hid (HUn.out.le hJ2);have HJ12:=Lib.hid (PH.le.trans (PH.le.trans HA4.out HJ1.out) hJ2);clear hJ2)
  | ((with_reducible refine isLoad ?_);(first|((refine' ldI1 (v:=_) hS rfl rfl ?ha rfl ?hb ?_);(case ha =>  exact ty_agg28);(case hb=>assumption))|((refine' ldIN (vs:=_) hS rfl rfl ?ha rfl ?hc ?hb ?_);(case ha=>exact ty_agg31);(case hc=>assumption);(case hb=>exact ty_sz31)));(try simp only [Act.put,zE,zF,zG]))
  | ((with_reducible refine atList ?_);first|((with_reducible refine isAllocD 11 ?_);(refine' al (z:=_) hS rfl rfl ?ha ?_);(case ha=>exact ty_z31);clear hS;intro N11 w hS;(try simp only [Value.cells] at hS);(try simp only [Act.put,zE,zF,zG]))|((with_reducible refine isStore ?_);(first|(refine stN 0 hS rfl rfl rfl rfl rfl ?ha rfl rfl ?_;(case ha=>exact ty_sz31)));clear hS;intro w hS;(try simp only [zG,Act.eval,zD,zC,zA,zB,zJ,Value.cells] at hS);(try simp only [Act.put])) ))
 replace hS:=hS.drop
 go_upto_region 9 with (first
  | (go_at_call 26;(with_reducible refine Calls.mono (HCo2.out _ _ _ _ HJ12.out HUn2.out hS) ?_);clear hS;rintro e w ⟨Ac,cc,Ag,cg,J3,rfl,hJ3,hcv,hgv,hS⟩;have HJ3:=Lib.hid hJ3;have HCv:=Lib.hid hcv;have HGv:=Lib.hid hgv;clear hJ3 hcv hgv)
  | ((with_reducible refine isLoad ?_);( ((refine' ldIN (vs:=_) hS rfl rfl ?ha rfl ?hc ?hb ?_);(case ha=>exact ty_agg31);(case hc=>assumption);(case hb=>exact ty_sz31)));(try simp only [Act.put,zE,zF,zG]))
  | ((with_reducible refine atList ?_);first|((with_reducible refine isAllocD 12 ?_);(refine' al (z:=_) hS rfl rfl ?ha ?_);(case ha=>exact ty_z31);clear hS;intro N12 w hS;(try simp only [Value.cells] at hS);(try simp only [Act.put,zE,zF,zG]))|((with_reducible refine isStore ?_);(first|(refine stN 0 hS rfl rfl rfl rfl rfl ?ha rfl rfl ?_;(case ha=>exact ty_sz31)));clear hS;intro w hS;(try simp only [zG,Act.eval,zD,zC,zA,zB,zJ,Value.cells] at hS);(try simp only [Act.put])) ))
 have hSp:=hS.perm (perm_front 0 rfl)
 simp only [List.eraseIdx_cons_zero] at hSp
 obtain ⟨I12,a12,e12,hS12,_⟩:=hSp.ice
 have ix12:Cells I12 N12 0 [nv a,nv b,.slice uA q0 uC,.slice Ac cq cc,.slice Ag cq cg]:=(Cells.one N12 #[nv a,nv b,.slice uA q0 uC,.slice Ac cq cc,.slice Ag cq cg] 31 (0,0)).le e12
 clear hS hSp e12
 have hS:=hS12
 clear hS12
 have k123:I12.at N12 3=some (.slice Ac cq cc):=ix12 3 _ rfl
 refine region_f0 [[],[0],[0,1],[0,1,2],[0,1,2,3],[0,1,2],[0,1,2,3,4,5],[0,1,2,3,4,5,6],[0,1,2],[0,1,2,8],[0,1,2,8,9],[0,1,2,3,4,5,6,7,8,9,10],[0,1,2,3,4,5,6,7,8,9,10,11]] E I12 _
  [fun v _=>v=nv 0,fun v _=>v=.bool false,fun v _=>v=.bool false,fun v _=>v=vPt S,fun v _=>v=nv cq,fun v _=>v=vPt S,fun v _=>v=nv 0,fun v _=>v=nv cq,fun v _=>v=.pointer (some ⟨N12,3,none⟩),fun v _=>v=.slice Ac cq cc,fun v _=>v=nv cq,fun v _=>v=.bool false,fun v _=>v=.bool false] (by kernel_rfl) (by kernel_rfl) hS ?_ ?plain ?fin
 · repeat (first|exact Lasting.nil|refine Lasting.cons (fun _ _ _ _ h=>h) ?_)
 case plain =>
  repeat' (first|exact trivial|apply And.intro)
  all_goals  ((refine .inr ?_;intro vals J bs w hg hJ hS;simp only [zH,zI,Given,Facts] at hg;simp only [textL,actL,dstAt,opAt,zH,zI,zA,zB,zK,if_true,Act.put,zE,zF,zG,hg];refine ⟨?_⟩;refine wpStep_of (fun K hK=>?_);have HK:=Lib.hid hK;clear hK;rw [if_pos (by rfl)];(first|((with_reducible refine atLoad ?_);first|((refine' wp_ldi1 (v:=_) hS hJ ?ha rfl ?hc ?_);(case ha=>first|exact ty_agg29);(case hc=>assumption)))|(go_wp2_with (first|(go_at_call 11;((with_reducible refine Calls.mono (HLn.out _ HA2.out _ _ _ hS) ?_);rintro e w2 ⟨rfl,rfl⟩))|(go_at_call 12;((with_reducible refine Calls.mono (HDd.out _ HA2.out _ _ _ hS) ?_);rintro e w2 ⟨rfl,rfl⟩)))));( refine HK.out _ _ ⟨rfl,J,PH.le.refl _,hS,?_⟩ );clear HK;simp only [Facts,outOf,zH,zI,Act.put,zE,zF,zG,zD,zC,zA,zB,zJ]);  done )
 case fin =>
  clear hS
  intro vals J w hJ hg hS
  simp only [List.length_cons,List.length_nil,Nat.reduceAdd,Below_,Facts,zH,zI,true_and] at hg;simp only [List.length_cons,List.length_nil,Nat.reduceAdd,textL,actL,dstAt,zA,zB,zK,if_true,Act.put,zE,zF,zG,hg];refine ⟨?_⟩
  have hS:=hS.less hJ
  clear hg hJ
  go_upto_region 12 with ( (go_at_call 12;((with_reducible refine Calls.mono (HDd.out _ HA2.out _ _ _ hS) ?_);rintro e w2 ⟨rfl,rfl⟩))
   )
  refine region_c1 [[],[],[1],[],[1,2,3],[0,1,2],[0,1,2,3,4,5]] E I12 _
   [fun v _=>v=.agg #[nv a,nv b,.slice uA q0 uC,.slice Ac cq cc,.slice Ag cq cg],fun v _=>v=vPt S,fun v _=>v=nv 0,fun v _=>v=nv 0,fun v _=>v=.bool true,fun _ _=>True,fun v _=>v=.bool true] [5]
   (set1G _ 1 (fun m'=>m'=PH.one R6 (.cells #[nv a,nv b,.slice uA q0 uC,.slice Ac cq cc,.slice Ag cq cg] 31))) (by kernel_rfl) (by kernel_rfl) (by decide) hS rfl ?last (fun _ _ _ _ _ _ h=>h) (fun _ _ _ _ _ _ h=>h) ?plain ?step ?fin
  case last=>repeat (first|exact Lasting.nil|refine Lasting.cons (fun _ _ _ _ h=>h) ?_)
  case plain =>
   repeat' (first|exact trivial|apply And.intro)
   all_goals first|exact .inl rfl|skip
   all_goals
    refine .inr ?_
    intro s vals J9 bs w hstop hg hJ9 hS hG
    first
    | (refine stop_case hstop rfl ?_
       intro hs0
       subst hs0
       have hG:bs=_:=hG
       subst hG
       simp only [zH,zI,Given,Facts] at hg;simp only [textL,actL,dstAt,opAt,zH,zI,zA,zB,zK,if_true,Act.put,zE,zF,zG,hg];refine ⟨?_⟩;refine wpStep_of (fun K hK=>?_);have HK:=Lib.hid hK;clear hK;rw [if_pos (by rfl)]
       (first|((with_reducible refine atLoad ?_);first|((refine' wp_ldiN (vs:=_) hS hJ9 ?ha rfl ?hc ?hb ?_);(case ha=>first|exact ty_agg31);(case hc=>assumption);(case hb=>first|exact ty_sz31)))|(go_wp2_with (first|(go_at_call 28;((with_reducible refine Calls.mono (HCl.out _ HA2.out _ _ _ hS) ?_);clear hS;rintro e w2 ⟨rfl,hS⟩)))))
       refine HK.out _ _ ⟨rfl,J9,PH.le.refl _,hS,?_⟩
       clear HK
       simp only [Facts]
       simp only [outOf,zH,zI,Act.put,zE,zF,zG,zD,zC,zA,zB,zJ])
    | (simp only [zH,zI,Given,Facts] at hg;simp only [textL,actL,dstAt,opAt,zH,zI,zA,zB,zK,if_true,Act.put,zE,zF,zG,hg];refine ⟨?_⟩;refine wpStep_of (fun K hK=>?_);have HK:=Lib.hid hK;clear hK;rw [if_pos (by rfl)]
       ( (go_wp2_with (fail)))
       refine HK.out _ _ ⟨rfl,J9,PH.le.refl _,hS,?_⟩
       clear HK
       simp only [Facts]
       simp only [outOf,zH,zI,zD,zC,zA,zB,zJ])
  case step =>
   refine ⟨trivial,?_⟩
   · intro vals J9 bs w hg hJ9 hS hG
     have hG:bs=_:=hG
     subst hG
     simp only [zH,zI,Given,Facts] at hg;simp only [textL,actL,dstAt,opAt,zH,zI,zA,zB,zK,if_true,Act.put,zE,zF,zG,hg];refine ⟨?_⟩;refine wpStep_of (fun K hK=>?_);have HK:=Lib.hid hK;clear hK;rw [if_pos (by rfl)]
     refine wp_stN hS 1 rfl rfl rfl rfl ?ha rfl ?hb fun w' hS'=>?_
     case ha=>exact ty_sz31
     case hb=>(simp [Act.eval,Value.cells,Value.oneCell'];done)
     exact HK.out _ _ ⟨rfl,J9,_,PH.le.refl _,hS',trivial,_,rfl,rfl⟩
  case fin =>
   intro vals J9 bs w hJ9 hg hS hG
   obtain ⟨m',rfl,hns⟩:=hG
   subst hns
   have hS:=hS.less hJ9
   simp only [zF,zG] at hS
   clear hJ9
   simp only [List.length_cons,List.length_nil,Nat.reduceAdd,Below_,Facts,zH,zI,true_and,and_true] at hg;simp only [List.length_cons,List.length_nil,Nat.reduceAdd,textL,actL,dstAt,zA,zB,zK,if_true,Act.put,zE,zF,zG,hg];refine ⟨?_⟩
   clear hg
   go_wp2_with fail
   refine bodyPost_ret (res2 rfl (rvN 1 hS rfl rfl ty_agg31 ty_sz31) (rvt rfl)) rfl ?_
   exact ⟨_,_,_,J3,m2,rfl,PH.le.trans HJ12.out HJ3.out,HUn2.out.le HJ3.out,HCv.out,HGv.out,HA2.out,((hS.perm (List.Perm.swap _ _ _)).drop).less a12⟩
end Go.Proofs.YtdhkkkhnjooioaaGreat
