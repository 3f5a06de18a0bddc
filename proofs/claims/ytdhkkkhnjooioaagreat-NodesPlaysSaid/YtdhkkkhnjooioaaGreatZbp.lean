import Derived.Test.YtdhkkkhnjooioaaGreatZbo
set_option linter.unusedSimpArgs false
set_option linter.unusedVariables false
namespace Go.Proofs.YtdhkkkhnjooioaaGreat
open Go.RowKit
set_option maxRecDepth 100000 in
set_option maxHeartbeats 8000000 in
theorem do_hold {E w:World} {I m mk:PH} {ms:List PH} {a b S kd qa qb:Nat} {v:Int} {ov lv hv kv:Value} {l:List G.Tb} {h os:List Nat} {s s':G.St} {ks:List (Nat × G.Tb)} {kx ky:Nat × G.Tb} (hl:RowsR I lv l) (hh:NumR I hv h) (hoo:NumR I ov os) (hk:KnAt I mk kv ks) (hkl:0<ks.length∧ks.length≤100) (hqa:qa<256) (hqb:qb<256) (hkx:ks[qa % ks.length]?=some kx) (hky:ks[qb % ks.length]?=some ky) (hkd:kd<256∧kd % 9=4) (hF:kx.1<9223372036854775808) {h':List Nat} {er:Nat}
 (HCt:∀ (w':World) (ms':List PH) (J:PH) (x:Value),I.le J→BoolR J x kx.2→Sat E J ms' w'→Calls Tryz.prog 23 #[.agg #[nv a,nv b,ov,lv,hv],x,.int .i64 1] w' fun e w''=>∃ B' q' d' K,e=.returned (.tuple #[.agg #[nv a,nv b,ov,lv,.slice B' q' d'],nv er])∧J.le K∧NumR K (.slice B' q' d') h'∧Sat E K ms' w'')
 (HHo:∀ (w':World) (ms':List PH) (J:PH),Sat E J (m::ms') w'→Calls Tryz.prog 13 #[vPt S,nv kx.1] w' fun e w''=>e=.returned (nv er)∧∃ m',StAt S s' m'∧Sat E J (m'::ms') w'') (hS:Sat E I (m::mk::ms) w) :
 Calls Tryz.prog 8 #[vPt S,.agg #[nv a,nv b,ov,lv,hv],kv,.agg #[.int .u8 (kd:Int),.int .u8 (qa:Int),.int .u8 (qb:Int),.int .i64 v]] w fun e w'=>∃ hv' J m',e=.returned (.tuple #[.agg #[nv a,nv b,ov,lv,hv'],kv,.bool true])∧I.le J∧NumR J hv' h'∧StAt S s' m'∧Sat E J (m'::mk::ms) w':=by
 have HCt:=Lib.hid HCt
 have HHo:=Lib.hid HHo
 obtain ⟨hkd0,hkd1⟩:=hkd
 have hk9:(kd:Int) % 9=4:=by omega
 clear hkd1
 obtain ⟨us,hus,hO⟩:=hk
 obtain ⟨x1,hx1,bx1⟩:=hus.2 _ _ hkx
 obtain ⟨y1,hy1,by1⟩:=hus.2 _ _ hky
 obtain ⟨K,kc,rfl,_⟩:=hO.ptr hkl.1
 have hcx:Cells mk K (qa % ks.length * 2) [nv kx.1,x1]:=flat_cells knC_len hO hx1
 have hcy:Cells mk K (qb % ks.length * 2) [nv ky.1,y1]:=flat_cells knC_len hO hy1
 have HBx:=Lib.hid bx1
 have HBy:=Lib.hid by1
 obtain ⟨⟨Ax,cx,rfl⟩,_⟩:=bx1
 obtain ⟨⟨Ay,cy,rfl⟩,_⟩:=by1
 have hN0:0<(ks.length:Int):=by omega
 have hN1:(ks.length:Int)≤100:=by omega
 have hNz:¬ (ks.length:Int)=0:=by omega
 have hmx:(qa:Int) % (ks.length:Int)=((qa % ks.length:Nat):Int):=(Int.natCast_emod qa ks.length).symm
 have hmy:(qb:Int) % (ks.length:Int)=((qb % ks.length:Nat):Int):=(Int.natCast_emod qb ks.length).symm
 have hlx:((qa % ks.length:Nat):Int)<(ks.length:Int):=by have:=Nat.mod_lt qa hkl.1;omega
 have hly:((qb % ks.length:Nat):Int)<(ks.length:Int):=by have:=Nat.mod_lt qb hkl.1;omega
 have HCx:=Lib.hid hcx
 have HCy:=Lib.hid hcy
 obtain ⟨⟨A,c,rfl⟩,_⟩:=hl.get
 obtain ⟨⟨B,d,rfl⟩,_⟩:=hh
 obtain ⟨⟨oA,oC,rfl⟩,_⟩:=hoo
 clear hl hkl hkx hky hus hx1 hy1 hO hcx hcy
 generalize qa % ks.length=ix at *
 generalize qb % ks.length=iy at *
 generalize ks.length=N at *
 generalize kx.2.length=lx at *
 generalize ky.2.length=ly at *
 generalize os.length=q0 at *
 generalize l.length=q1 at *
 generalize h.length=q2 at *
 go_enter Tryz.func8,Tryz.ntmps8
 go_upto_region 1 with (first|((with_reducible refine atList ?_);first|((with_reducible refine isBoxD 5 ?_);refine bx hS rfl rfl rfl ?_;clear hS;intro X5 w hS;(try simp only [Act.eval,zD,zC,zA,zB,zJ,Value.cells] at hS);(try simp only [Act.put,zE,zF,zG]))|((with_reducible refine isBoxD 7 ?_);refine bx hS rfl rfl rfl ?_;clear hS;intro X7 w hS;(try simp only [Act.eval,zD,zC,zA,zB,zJ,Value.cells] at hS);(try simp only [Act.put,zE,zF,zG]))|((with_reducible refine isAllocD 8 ?_);(refine' al (z:=_) hS rfl rfl ?ha ?_);(case ha=>exact ty_z31);clear hS;intro R8 w hS;(try simp only [Value.cells] at hS);(try simp only [Act.put,zE,zF,zG])) ))
 have hSp:=hS.perm (perm_front 2 rfl)
 simp only [List.eraseIdx_cons_succ,List.eraseIdx_cons_zero] at hSp
 obtain ⟨I5,a5,e5,hS5,_⟩:=hSp.ice
 have ix5:Cells I5 X5 0 [nv a,nv b,.slice oA q0 oC,.slice A q1 c,.slice B q2 d]:=(Cells.one X5 #[nv a,nv b,.slice oA q0 oC,.slice A q1 c,.slice B q2 d] 31 (0,0)).le e5
 clear hS hSp e5
 have hS:=hS5
 clear hS5
 have hSp:=hS.perm (perm_front 1 rfl)
 simp only [List.eraseIdx_cons_succ,List.eraseIdx_cons_zero] at hSp
 obtain ⟨I7,a7,e7,hS7,_⟩:=hSp.ice
 have ix7:Cells I7 X7 0 [.int .u8 (kd:Int),.int .u8 (qa:Int),.int .u8 (qb:Int),.int .i64 v]:=(Cells.one X7 #[.int .u8 (kd:Int),.int .u8 (qa:Int),.int .u8 (qb:Int),.int .i64 v] 43 (0,0)).le e7
 clear hS hSp e7
 have hS:=hS7
 clear hS7
 have hS8:=hS.perm (List.Perm.trans (List.Perm.swap _ _ _) (List.Perm.cons _ (List.Perm.swap _ _ _)))
 clear hS
 have hS:=hS8
 clear hS8
 have f71:I7.at X7 1=some (.int .u8 (qa:Int)):=ix7 1 _ rfl
 go_upto_region 2 with (first|((with_reducible refine isLoad ?_);(refine' ldPN (vs:=_) (hS.mle (k:=1) rfl) rfl rfl ty_agg38 rfl ?hc ?hb ?_);(case hc=>exact HCx.out);(case hb=>exact ty_sz38);(try simp only [Act.put,zE,zF,zG]))|((with_reducible refine isLoad ?_);(first|((refine' ldI1 (v:=_) hS rfl rfl ?ha rfl ?hb ?_);(case ha=>first|exact ty_agg5);(case hb=>assumption)));(try simp only [Act.put,zE,zF,zG]))|((with_reducible refine atList ?_);first|((with_reducible refine isAllocD 11 ?_);(refine' al (z:=_) hS rfl rfl ?ha ?_);(case ha=>exact ty_z38);clear hS;intro N11 w hS;(try simp only [Value.cells] at hS);(try simp only [Act.put,zE,zF,zG]))|((with_reducible refine isStore ?_);(first|(refine stN 0 hS rfl rfl rfl rfl rfl ?ha rfl rfl ?_;(case ha=>exact ty_sz38)));clear hS;intro w hS;(try simp only [zG,Act.eval,zD,zC,zA,zB,zJ,Value.cells] at hS);(try simp only [Act.put])) ))
 have hSp:=hS.perm (perm_front 0 rfl)
 simp only [List.eraseIdx_cons_zero] at hSp
 obtain ⟨I11,a11,e11,hS11,_⟩:=hSp.ice
 have ix11:Cells I11 N11 0 [nv kx.1,.slice Ax lx cx]:=(Cells.one N11 #[nv kx.1,.slice Ax lx cx] 38 (0,0)).le e11
 clear hS hSp e11
 have hS:=hS11
 clear hS11
 have f72:I11.at X7 2=some (.int .u8 (qb:Int)):=PH.at_le a11 (ix7 2 _ rfl)
 go_upto_region 3 with (first|((with_reducible refine isLoad ?_);(refine' ldPN (vs:=_) (hS.mle (k:=1) rfl) rfl rfl ty_agg38 rfl ?hc ?hb ?_);(case hc=>exact HCy.out);(case hb=>exact ty_sz38);(try simp only [Act.put,zE,zF,zG]))|((with_reducible refine isLoad ?_);(first|((refine' ldI1 (v:=_) hS rfl rfl ?ha rfl ?hb ?_);(case ha=>first|exact ty_agg5);(case hb=>assumption)));(try simp only [Act.put,zE,zF,zG]))|((with_reducible refine atList ?_);first|((with_reducible refine isAllocD 12 ?_);(refine' al (z:=_) hS rfl rfl ?ha ?_);(case ha=>exact ty_z38);clear hS;intro N12 w hS;(try simp only [Value.cells] at hS);(try simp only [Act.put,zE,zF,zG]))|((with_reducible refine isStore ?_);(first|(refine stN 0 hS rfl rfl rfl rfl rfl ?ha rfl rfl ?_;(case ha=>exact ty_sz38)));clear hS;intro w hS;(try simp only [zG,Act.eval,zD,zC,zA,zB,zJ,Value.cells] at hS);(try simp only [Act.put])) ))
 have hSp:=hS.perm (perm_front 0 rfl)
 simp only [List.eraseIdx_cons_zero] at hSp
 obtain ⟨I12,a12,e12,hS12,_⟩:=hSp.ice
 have ix12:Cells I12 N12 0 [nv ky.1,.slice Ay ly cy]:=(Cells.one N12 #[nv ky.1,.slice Ay ly cy] 38 (0,0)).le e12
 clear hS hSp e12
 have hS:=hS12
 clear hS12
 have f70:I12.at X7 0=some (.int .u8 (kd:Int)):=PH.at_le a12 (PH.at_le a11 (ix7 0 _ rfl))
 have f73:I12.at X7 3=some (.int .i64 v):=PH.at_le a12 (PH.at_le a11 (ix7 3 _ rfl))
 have f110:I12.at N11 0=some (nv kx.1):=PH.at_le a12 (ix11 0 _ rfl)
 have f111:I12.at N11 1=some (.slice Ax lx cx):=PH.at_le a12 (ix11 1 _ rfl)
 have f120:I12.at N12 0=some (nv ky.1):=ix12 0 _ rfl
 have f121:I12.at N12 1=some (.slice Ay ly cy):=ix12 1 _ rfl
 have r5:=((ix5.le a7).le a11).le a12
 have HIJ:=Lib.hid (PH.le.trans (PH.le.trans (PH.le.trans a5 a7) a11) a12)
 clear a5 a7 a11 a12 ix5 ix7 ix11 ix12 f71 f72
 go_upto_region 6 with (first
  | (go_at_call 23;(with_reducible refine Calls.mono (HCt.out _ _ _ _ HIJ.out (HBx.out.le HIJ.out) hS) ?_);clear hS;rintro e w ⟨B',q',d',J2,rfl,hJ2,hnum,hS⟩;have HJ2:=Lib.hid hJ2;have HNum:=Lib.hid hnum;have g110:=PH.at_le hJ2 f110;clear hJ2 hnum)
  | ((with_reducible refine isLoad ?_);(first|((refine' ldI1 (v:=_) hS rfl rfl ?ha rfl ?hb ?_);(case ha=>first|exact ty_agg5|exact ty_agg35);(case hb=>assumption))|((refine' ldIN (vs:=_) hS rfl rfl ?ha rfl ?hc ?hb ?_);(case ha=>first|exact ty_agg31);(case hc=>assumption);(case hb=>first|exact ty_sz31)));(try simp only [Act.put,zE,zF,zG]))
  | ((with_reducible refine atList ?_);first|((with_reducible refine isAllocD 13 ?_);(refine' al (z:=_) hS rfl rfl ?ha ?_);(case ha=>exact ty_z31);clear hS;intro N13 w hS;(try simp only [Value.cells] at hS);(try simp only [Act.put,zE,zF,zG]))|((with_reducible refine isStore ?_);(first|(refine stN 0 hS rfl rfl rfl rfl rfl ?ha rfl rfl ?_;(case ha=>exact ty_sz31)));clear hS;intro w hS;(try simp only [zG,Act.eval,zD,zC,zA,zB,zJ,Value.cells] at hS);(try simp only [Act.put])) ))
 have hSp:=hS.perm (perm_front 0 rfl)
 simp only [List.eraseIdx_cons_zero] at hSp
 obtain ⟨I13,a13,e13,hS13,_⟩:=hSp.ice
 have ix13:Cells I13 N13 0 [nv a,nv b,.slice oA q0 oC,.slice A q1 c,.slice B' q' d']:=(Cells.one N13 #[nv a,nv b,.slice oA q0 oC,.slice A q1 c,.slice B' q' d'] 31 (0,0)).le e13
 clear hS hSp e13
 have hS:=hS13
 clear hS13
 have g5:=PH.at_le a13 g110
 refine region_c1 [[],[],[],[],[3],[2,3,4],[],[2,3,4,5,6],[0,2,3,4,5],[0,1,2,3,4,5,8],[0,1,2,3,4,5,6,7,8,9]] E I13 _
  [fun v _=>v=.agg #[nv a,nv b,.slice oA q0 oC,.slice A q1 c,.slice B' q' d'],fun v _=>v=.slice (some ⟨K,0,none⟩) N kc,fun v _=>v=vPt S,fun v _=>v=.pointer (some ⟨N11,0,none⟩),fun v _=>v=nv kx.1,fun v _=>v=nv er,fun v _=>v=nv er,fun v _=>v=.bool true,fun _ _=>True,fun v _=>v=.slice (some ⟨K,0,none⟩) N kc,fun v _=>v=.bool true] [5,8]
  (set2G _ 0 2 (fun m'=>StAt S s' m') (fun m'=>m'=PH.one R8 (.cells #[nv a,nv b,.slice oA q0 oC,.slice A q1 c,.slice B' q' d'] 31))) (by kernel_rfl) (by kernel_rfl) (by decide) hS rfl ?last (fun _ _ _ _ _ _ h=>h) (fun _ _ _ _ _ _ h=>h) ?plain ?step ?fin
 case last=>repeat (first|exact Lasting.nil|refine Lasting.cons (fun _ _ _ _ h=>h) ?_)
 case plain =>
  repeat' (first|exact trivial|apply And.intro)
  all_goals first|exact .inl rfl|skip
  all_goals
   refine .inr ?_
   intro s vals J9 bs w hstop hg hJ9 hS hG
   first
   | (refine stop_case hstop rfl ?_
      intro hs0
      subst hs0
      have hG:bs=_:=hG
      subst hG
      simp only [zH,zI,Given,Facts] at hg;simp only [textL,actL,dstAt,opAt,zH,zI,zA,zB,zK,if_true,Act.put,zE,zF,zG,hg];refine ⟨?_⟩;refine wpStep_of (fun K hK=>?_);have HK:=Lib.hid hK;clear hK;rw [if_pos (by rfl)]
      (first|((with_reducible refine atLoad ?_);  ((refine' wp_ldi1 (v:=_) hS hJ9 ?ha rfl ?hc ?_);(case ha=>first|exact ty_agg34);(case hc=>assumption)) )|(go_wp2_with (fail)))
      refine HK.out _ _ ⟨rfl,J9,PH.le.refl _,hS,?_⟩
      clear HK
      simp only [Facts]
      simp only [outOf,zH,zI,Act.put,zE,zF,zG,zD,zC,zA,zB,zJ])
   | (simp only [zH,zI,Given,Facts] at hg;simp only [textL,actL,dstAt,opAt,zH,zI,zA,zB,zK,if_true,Act.put,zE,zF,zG,hg];refine ⟨?_⟩;refine wpStep_of (fun K hK=>?_);have HK:=Lib.hid hK;clear hK;rw [if_pos (by rfl)]
      (first|((with_reducible refine atLoad ?_);  ((refine' wp_ldiN (vs:=_) hS hJ9 ?ha rfl ?hc ?hb ?_);(case ha=>first|exact ty_agg31);(case hc=>assumption);(case hb=>first|exact ty_sz31)))|(go_wp2_with (fail)))
      refine HK.out _ _ ⟨rfl,J9,PH.le.refl _,hS,?_⟩
      clear HK
      simp only [Facts]
      simp only [outOf,zH,zI,Act.put,zE,zF,zG,zD,zC,zA,zB,zJ])
 case step =>
  refine ⟨⟨trivial,?_⟩,?_⟩
  · intro vals J9 bs w hg hJ9 hS hG
    have hG:bs=_:=hG
    subst hG
    simp only [zH,zI,Given,Facts] at hg;simp only [textL,actL,dstAt,opAt,zH,zI,zA,zB,zK,if_true,Act.put,zE,zF,zG,hg];refine ⟨?_⟩;refine wpStep_of (fun K hK=>?_);have HK:=Lib.hid hK;clear hK;rw [if_pos (by rfl)]
    go_wp2_with (first|(go_at_call 13;((with_reducible refine Calls.mono (HHo.out _ _ _ hS) ?_);clear hS;rintro e w2 ⟨rfl,m1,hA1,hS⟩)))
    exact HK.out _ _ ⟨rfl,J9,_,PH.le.refl _,hS,rfl,m1,hA1,rfl⟩
  · intro vals J9 bs w hg hJ9 hS hG
    refine Veil0.out ?_
    obtain ⟨m1,hA1,hG⟩:=hG
    subst hG
    refine ⟨?_⟩
    simp only [zH,zI,Given,Facts] at hg;simp only [textL,actL,dstAt,opAt,zH,zI,zA,zB,zK,if_true,Act.put,zE,zF,zG,hg];refine ⟨?_⟩;refine wpStep_of (fun K hK=>?_);have HK:=Lib.hid hK;clear hK;rw [if_pos (by rfl)]
    refine wp_stN hS 2 rfl rfl rfl rfl ?ha rfl ?hb fun w' hS'=>?_
    case ha=>exact ty_sz31
    case hb=>(simp [Act.eval,Value.cells,Value.oneCell'];done)
    exact HK.out _ _ ⟨rfl,J9,_,PH.le.refl _,hS',trivial,m1,_,hA1,rfl,rfl⟩
 case fin =>
  intro vals J9 bs w hJ9 hg hS hG
  obtain ⟨m1,m2,hA1,rfl,hns⟩:=hG
  subst hns
  have hS:=hS.less hJ9
  simp only [zF,zG] at hS
  clear hJ9
  simp only [List.length_cons,List.length_nil,Nat.reduceAdd,Below_,Facts,zH,zI,true_and,and_true] at hg;simp only [List.length_cons,List.length_nil,Nat.reduceAdd,textL,actL,dstAt,zA,zB,zK,if_true,Act.put,zE,zF,zG,hg];refine ⟨?_⟩
  clear hg
  go_wp2_with fail
  refine bodyPost_ret (res3 rfl (rvN 2 hS rfl rfl ty_agg31 ty_sz31) (rvt rfl) (rvt rfl)) rfl ?_
  have hS9:=hS.perm (show List.Perm (m1::mk::_::ms) (_::m1::mk::ms) from List.Perm.trans (List.Perm.cons _ (List.Perm.swap _ _ _)) (List.Perm.swap _ _ _))
  exact ⟨_,J2,m1,rfl,PH.le.trans HIJ.out HJ2.out,HNum.out,hA1,hS9.drop.less a13⟩
end Go.Proofs.YtdhkkkhnjooioaaGreat
