import Derived.Test.YtdhkkkhnjooioaaGreatZbr
set_option linter.unusedSimpArgs false
set_option linter.unusedVariables false
namespace Go.Proofs.YtdhkkkhnjooioaaGreat
open Go.RowKit
set_option maxRecDepth 100000 in
set_option maxHeartbeats 8000000 in
theorem do_ok {E w:World} {I m mk:PH} {ms:List PH} {a b S kd qa qb:Nat} {v:Int} {ov lv hv kv:Value} {l:List G.Tb} {h os:List Nat} {s s':G.St} {ks:List (Nat × G.Tb)} {kx ky:Nat × G.Tb} (hl:RowsR I lv l) (hh:NumR I hv h) (hoo:NumR I ov os) (hk:KnAt I mk kv ks) (hkl:0<ks.length∧ks.length≤100) (hqa:qa<256) (hqb:qb<256) (hkx:ks[qa % ks.length]?=some kx) (hky:ks[qb % ks.length]?=some ky) (hkd:kd<256∧kd % 9<4) {rr:Nat} {t':G.Tb} {l':List G.Tb} {h':List Nat}
 (HRm:∀ (w':World) (ms':List PH) (J:PH) (x y:Value),I.le J→BoolR J x kx.2→BoolR J y ky.2→Sat E J ms' w'→Calls Tryz.prog 33 #[.agg #[nv a,nv b,ov,lv,hv],.int .i64 v,x,y] w' fun e w''=>∃ A' q1' c' B' q2' d' Az qz cz K,e=.returned (.tuple #[.agg #[nv a,nv b,ov,.slice A' q1' c',.slice B' q2' d'],.slice Az qz cz,nv 0])∧J.le K∧RowsR K (.slice A' q1' c') l'∧NumR K (.slice B' q2' d') h'∧BoolR K (.slice Az qz cz) t'∧Sat E K ms' w'')
 (HSm:∀ (w':World) (ms':List PH) (J:PH),Sat E J (m::ms') w'→Calls Tryz.prog 10 #[vPt S,.int .i64 v,nv kx.1,nv ky.1] w' fun e w''=>e=.returned (.tuple #[nv rr,nv 0])∧∃ m',StAt S s' m'∧Sat E J (m'::ms') w'') (hS:Sat E I (m::mk::ms) w) :
 Calls Tryz.prog 8 #[vPt S,.agg #[nv a,nv b,ov,lv,hv],kv,.agg #[.int .u8 (kd:Int),.int .u8 (qa:Int),.int .u8 (qb:Int),.int .i64 v]] w fun e w'=>∃ lv' hv' kv' J m' mk',e=.returned (.tuple #[.agg #[nv a,nv b,ov,lv',hv'],kv',.bool true])∧I.le J∧RowsR J lv' l'∧NumR J hv' h'∧KnAt J mk' kv' (ks ++ [(rr,t')])∧StAt S s' m'∧Sat E J (m'::mk'::ms) w':=by
 have HRm:=Lib.hid HRm
 have HSm:=Lib.hid HSm
 obtain ⟨hkd0,hkd1⟩:=hkd
 obtain ⟨kq,hk9,hk4⟩:∃ kq:Nat,(kd:Int) % 9=(kq:Int)∧kq<4:=⟨kd % 9,by omega,hkd1⟩
 clear hkd1
 have e4:((kq:Int) == 4)=false:=beq_eq_false_iff_ne.2 (by omega)
 have e5:((kq:Int) == 5)=false:=beq_eq_false_iff_ne.2 (by omega)
 have e6:((kq:Int) == 6)=false:=beq_eq_false_iff_ne.2 (by omega)
 have e7:((kq:Int) == 7)=false:=beq_eq_false_iff_ne.2 (by omega)
 have e8:((kq:Int) == 8)=false:=beq_eq_false_iff_ne.2 (by omega)
 have n4:¬ (kq:Int)=4:=by omega
 have n5:¬ (kq:Int)=5:=by omega
 have n6:¬ (kq:Int)=6:=by omega
 have n7:¬ (kq:Int)=7:=by omega
 have n8:¬ (kq:Int)=8:=by omega
 obtain ⟨us,hus,hO⟩:=hk
 obtain ⟨x1,hx1,bx1⟩:=hus.2 _ _ hkx
 obtain ⟨y1,hy1,by1⟩:=hus.2 _ _ hky
 obtain ⟨K,kc,rfl,_⟩:=hO.ptr hkl.1
 have hcx:Cells mk K (qa % ks.length * 2) [nv kx.1,x1]:=flat_cells knC_len hO hx1
 have hcy:Cells mk K (qb % ks.length * 2) [nv ky.1,y1]:=flat_cells knC_len hO hy1
 have HBx:=Lib.hid bx1
 have HBy:=Lib.hid by1
 obtain ⟨⟨Ax,cx,rfl⟩,_⟩:=bx1
 obtain ⟨⟨Ay,cy,rfl⟩,_⟩:=by1
 have HKn:=Lib.hid (fun (J m':PH) (v' x:Value) (f:Nat) (t:G.Tb) (hJ:I.le J) (hx:BoolR J x t) (hO':OwnP m' 38 2 v' (ks.length+1) (us.flatMap knC ++ [nv f,x]))=>(KnAt.snoc (k:=(f,t)) (hus.le hJ) hx hO':KnAt J m' v' (ks ++ [(f,t)])))
 have HOk:=Lib.hid hO
 have hN0:0<(ks.length:Int):=by omega
 have hN1:(ks.length:Int)≤100:=by omega
 have hNz:¬ (ks.length:Int)=0:=by omega
 have hmx:(qa:Int) % (ks.length:Int)=((qa % ks.length:Nat):Int):=(Int.natCast_emod qa ks.length).symm
 have hmy:(qb:Int) % (ks.length:Int)=((qb % ks.length:Nat):Int):=(Int.natCast_emod qb ks.length).symm
 have hlx:((qa % ks.length:Nat):Int)<(ks.length:Int):=by have:=Nat.mod_lt qa hkl.1;omega
 have hly:((qb % ks.length:Nat):Int)<(ks.length:Int):=by have:=Nat.mod_lt qb hkl.1;omega
 have HCx:=Lib.hid hcx
 have HCy:=Lib.hid hcy
 obtain ⟨⟨A,c,rfl⟩,_⟩:=hl.get
 obtain ⟨⟨B,d,rfl⟩,_⟩:=hh
 obtain ⟨⟨oA,oC,rfl⟩,_⟩:=hoo
 clear hl hkl hkx hky hus hx1 hy1 hO hcx hcy
 generalize qa % ks.length=ix at *
 generalize qb % ks.length=iy at *
 generalize ks.length=N at *
 generalize kx.2.length=lx at *
 generalize ky.2.length=ly at *
 generalize os.length=q0 at *
 generalize l.length=q1 at *
 generalize h.length=q2 at *
 go_enter Tryz.func8,Tryz.ntmps8
 go_upto_region 1 with (first|((with_reducible refine atList ?_);first|((with_reducible refine isBoxD 5 ?_);refine bx hS rfl rfl rfl ?_;clear hS;intro X5 w hS;(try simp only [Act.eval,zD,zC,zA,zB,zJ,Value.cells] at hS);(try simp only [Act.put,zE,zF,zG]))|((with_reducible refine isBoxD 7 ?_);refine bx hS rfl rfl rfl ?_;clear hS;intro X7 w hS;(try simp only [Act.eval,zD,zC,zA,zB,zJ,Value.cells] at hS);(try simp only [Act.put,zE,zF,zG]))|((with_reducible refine isAllocD 8 ?_);(refine' al (z:=_) hS rfl rfl ?ha ?_);(case ha=>exact ty_z31);clear hS;intro R8 w hS;(try simp only [Value.cells] at hS);(try simp only [Act.put,zE,zF,zG])) ))
 have hSp:=hS.perm (perm_front 2 rfl)
 simp only [List.eraseIdx_cons_succ,List.eraseIdx_cons_zero] at hSp
 obtain ⟨I5,a5,e5,hS5,_⟩:=hSp.ice
 have ix5:Cells I5 X5 0 [nv a,nv b,.slice oA q0 oC,.slice A q1 c,.slice B q2 d]:=(Cells.one X5 #[nv a,nv b,.slice oA q0 oC,.slice A q1 c,.slice B q2 d] 31 (0,0)).le e5
 clear hS hSp e5
 have hS:=hS5
 clear hS5
 have hSp:=hS.perm (perm_front 1 rfl)
 simp only [List.eraseIdx_cons_succ,List.eraseIdx_cons_zero] at hSp
 obtain ⟨I7,a7,e7,hS7,_⟩:=hSp.ice
 have ix7:Cells I7 X7 0 [.int .u8 (kd:Int),.int .u8 (qa:Int),.int .u8 (qb:Int),.int .i64 v]:=(Cells.one X7 #[.int .u8 (kd:Int),.int .u8 (qa:Int),.int .u8 (qb:Int),.int .i64 v] 43 (0,0)).le e7
 clear hS hSp e7
 have hS:=hS7
 clear hS7
 have hS8:=hS.perm (List.Perm.trans (List.Perm.swap _ _ _) (List.Perm.cons _ (List.Perm.swap _ _ _)))
 clear hS
 have hS:=hS8
 clear hS8
 have f71:I7.at X7 1=some (.int .u8 (qa:Int)):=ix7 1 _ rfl
 go_upto_region 2 with (first|((with_reducible refine isLoad ?_);(refine' ldPN (vs:=_) (hS.mle (k:=1) rfl) rfl rfl ty_agg38 rfl ?hc ?hb ?_);(case hc=>exact HCx.out);(case hb=>exact ty_sz38);(try simp only [Act.put,zE,zF,zG]))|((with_reducible refine isLoad ?_);(first|((refine' ldI1 (v:=_) hS rfl rfl ?ha rfl ?hb ?_);(case ha=>first|exact ty_agg5);(case hb=>assumption)));(try simp only [Act.put,zE,zF,zG]))|((with_reducible refine atList ?_);first|((with_reducible refine isAllocD 11 ?_);(refine' al (z:=_) hS rfl rfl ?ha ?_);(case ha=>exact ty_z38);clear hS;intro N11 w hS;(try simp only [Value.cells] at hS);(try simp only [Act.put,zE,zF,zG]))|((with_reducible refine isStore ?_);(first|(refine stN 0 hS rfl rfl rfl rfl rfl ?ha rfl rfl ?_;(case ha=>exact ty_sz38)));clear hS;intro w hS;(try simp only [zG,Act.eval,zD,zC,zA,zB,zJ,Value.cells] at hS);(try simp only [Act.put])) ))
 have hSp:=hS.perm (perm_front 0 rfl)
 simp only [List.eraseIdx_cons_zero] at hSp
 obtain ⟨I11,a11,e11,hS11,_⟩:=hSp.ice
 have ix11:Cells I11 N11 0 [nv kx.1,.slice Ax lx cx]:=(Cells.one N11 #[nv kx.1,.slice Ax lx cx] 38 (0,0)).le e11
 clear hS hSp e11
 have hS:=hS11
 clear hS11
 have f72:I11.at X7 2=some (.int .u8 (qb:Int)):=PH.at_le a11 (ix7 2 _ rfl)
 go_upto_region 3 with (first|((with_reducible refine isLoad ?_);(refine' ldPN (vs:=_) (hS.mle (k:=1) rfl) rfl rfl ty_agg38 rfl ?hc ?hb ?_);(case hc=>exact HCy.out);(case hb=>exact ty_sz38);(try simp only [Act.put,zE,zF,zG]))|((with_reducible refine isLoad ?_);(first|((refine' ldI1 (v:=_) hS rfl rfl ?ha rfl ?hb ?_);(case ha=>first|exact ty_agg5);(case hb=>assumption)));(try simp only [Act.put,zE,zF,zG]))|((with_reducible refine atList ?_);first|((with_reducible refine isAllocD 12 ?_);(refine' al (z:=_) hS rfl rfl ?ha ?_);(case ha=>exact ty_z38);clear hS;intro N12 w hS;(try simp only [Value.cells] at hS);(try simp only [Act.put,zE,zF,zG]))|((with_reducible refine isStore ?_);(first|(refine stN 0 hS rfl rfl rfl rfl rfl ?ha rfl rfl ?_;(case ha=>exact ty_sz38)));clear hS;intro w hS;(try simp only [zG,Act.eval,zD,zC,zA,zB,zJ,Value.cells] at hS);(try simp only [Act.put])) ))
 have hSp:=hS.perm (perm_front 0 rfl)
 simp only [List.eraseIdx_cons_zero] at hSp
 obtain ⟨I12,a12,e12,hS12,_⟩:=hSp.ice
 have ix12:Cells I12 N12 0 [nv ky.1,.slice Ay ly cy]:=(Cells.one N12 #[nv ky.1,.slice Ay ly cy] 38 (0,0)).le e12
 clear hS hSp e12
 have hS:=hS12
 clear hS12
 have f70:I12.at X7 0=some (.int .u8 (kd:Int)):=PH.at_le a12 (PH.at_le a11 (ix7 0 _ rfl))
 have f73:I12.at X7 3=some (.int .i64 v):=PH.at_le a12 (PH.at_le a11 (ix7 3 _ rfl))
 have f110:I12.at N11 0=some (nv kx.1):=PH.at_le a12 (ix11 0 _ rfl)
 have f111:I12.at N11 1=some (.slice Ax lx cx):=PH.at_le a12 (ix11 1 _ rfl)
 have f120:I12.at N12 0=some (nv ky.1):=ix12 0 _ rfl
 have f121:I12.at N12 1=some (.slice Ay ly cy):=ix12 1 _ rfl
 have r5:=((ix5.le a7).le a11).le a12
 have HIJ:=Lib.hid (PH.le.trans (PH.le.trans (PH.le.trans a5 a7) a11) a12)
 clear a5 a7 a11 a12 ix5 ix7 ix11 ix12 f71 f72
 clear hk4
 go_upto_region 24 with (first
  | (go_at_call 33;(with_reducible refine Calls.mono (HRm.out _ _ _ _ _ HIJ.out (HBx.out.le HIJ.out) (HBy.out.le HIJ.out) hS) ?_);clear hS;rintro e w ⟨A',q1',c',B',q2',d',Az,qz,cz,J2,rfl,hJ2,hr1,hr2,hr3,hS⟩;have HJ2:=Lib.hid hJ2;have HR1:=Lib.hid hr1;have HR2:=Lib.hid hr2;have HR3:=Lib.hid hr3;have g73:=PH.at_le hJ2 f73;have g110:=PH.at_le hJ2 f110;have g120:=PH.at_le hJ2 f120;clear hJ2 hr1 hr2 hr3)
  | ((with_reducible refine isLoad ?_);(first|((refine' ldI1 (v:=_) hS rfl rfl ?ha rfl ?hb ?_);(case ha=>first|exact ty_agg5|exact ty_agg3|exact ty_agg35);(case hb=>assumption))|((refine' ldIN (vs:=_) hS rfl rfl ?ha rfl ?hc ?hb ?_);(case ha=>first|exact ty_agg31);(case hc=>assumption);(case hb=>first|exact ty_sz31)));(try simp only [Act.put,zE,zF,zG]))
  | ((with_reducible refine atList ?_);first|((with_reducible refine isAllocD 22 ?_);(refine' al (z:=_) hS rfl rfl ?ha ?_);(case ha=>exact ty_z31);clear hS;intro N22 w hS;(try simp only [Value.cells] at hS);(try simp only [Act.put,zE,zF,zG]))|((with_reducible refine isStore ?_);(first|(refine stN 0 hS rfl rfl rfl rfl rfl ?ha rfl rfl ?_;(case ha=>exact ty_sz31)));clear hS;intro w hS;(try simp only [zG,Act.eval,zD,zC,zA,zB,zJ,Value.cells] at hS);(try simp only [Act.put])) ))
 have hSp:=hS.perm (perm_front 0 rfl)
 simp only [List.eraseIdx_cons_zero] at hSp
 obtain ⟨I22,a22,e22,hS22,_⟩:=hSp.ice
 have ix22:Cells I22 N22 0 [nv a,nv b,.slice oA q0 oC,.slice A' q1' c',.slice B' q2' d']:=(Cells.one N22 #[nv a,nv b,.slice oA q0 oC,.slice A' q1' c',.slice B' q2' d'] 31 (0,0)).le e22
 clear hS hSp e22
 have hS:=hS22
 clear hS22
 have g5:=PH.at_le a22 g110
 have g6:=PH.at_le a22 g120
 have g7:=PH.at_le a22 g73
 have HIB:=Lib.hid (PH.le.trans (PH.le.trans HIJ.out HJ2.out) a22)
 have HZt:=Lib.hid (HR3.out.le a22)
 have HRa:=Lib.hid (HR1.out.le a22)
 have HRb:=Lib.hid (HR2.out.le a22)
 go_upto_region 29 with (first
  | (go_at_call 10;((with_reducible refine Calls.mono (HSm.out _ _ _ hS) ?_);clear hS;rintro e w2 ⟨rfl,m1,hA1,hS⟩;have HA1:=Lib.hid hA1;clear hA1))
  | ((with_reducible refine isLoad ?_);( ((refine' ldI1 (v:=_) hS rfl rfl ?ha rfl ?hb ?_);(case ha=>first|exact ty_agg3|exact ty_agg34);(case hb=>assumption)) );(try simp only [Act.put,zE,zF,zG]))
  | ((with_reducible refine atList ?_);((with_reducible refine isGuard ?_);first|go_skip|((with_reducible refine guarded_yes ?hw ?_);case hw=>(simp only [Region.wanted,yielded,zC,zA,zB,zK,beq_self_eq_true];done)) )))
 refine region_c1 [[],[],[],[],[2,3],[2,3,4],[1,2,3,4,5],[0,1,2,3,4,5,6],[0,1,2,3,4,5,6,7],[0,1,2,3,4,5,6,7,8]] E I22 _
  [fun v _=>v=.agg #[nv a,nv b,.slice oA q0 oC,.slice A' q1' c',.slice B' q2' d'],fun v _=>v=.slice (some ⟨K,0,none⟩) N kc,fun v _=>v=nv rr,fun v _=>v=.slice Az qz cz,fun v _=>v=.agg #[nv rr,.slice Az qz cz],fun v J=>∃ Z,v=.slice (some ⟨Z,0,none⟩) 1 1∧Cells J Z 0 [nv rr,.slice Az qz cz],fun _ _=>True,fun _ _=>True,fun _ _=>True,fun v _=>v=.bool true] [6,7,8]
  (rowT 6 8 (fun J m' v'=>KnAt J m' v' (ks ++ [(rr,t')])) 1 2 (PH.one R8 (.cells #[nv a,nv b,.slice oA q0 oC,.slice A' q1' c',.slice B' q2' d'] 31)) _) (by kernel_rfl) (by kernel_rfl) (by decide) hS rfl ?last rowT.gst (rowT.gle fun _ _ _ _ h1 h2=>h2.le h1) ?plain ?step ?fin
 case last=>repeat (first|exact Lasting.nil|refine Lasting.cons (fun _ _ _ _ h=>h) ?_|refine Lasting.cons (fun v I9 J9 h9 h=>by obtain ⟨Z,e,hc⟩:=h;exact ⟨Z,e,hc.le h9⟩) ?_)
 case plain =>
  repeat' (first|exact trivial|apply And.intro)
  all_goals first|exact .inl rfl|skip
  rotate_left 5
  · refine .inr ?_
    intro s vals J9 bs w hstop hg hJ9 hS hG
    clear hG
    have e4:vals 4=_:=hg.get 4 (by decide)
    simp only [textL,actL,dstAt,opAt,zH,zI,zA,zB,zK,if_true,Act.put,zE,zF,zG,e4]
    refine ⟨?_⟩
    refine wpStep_of (fun K hK=>?_)
    have HK:=Lib.hid hK
    clear hK
    rw [if_pos (by rfl)]
    refine wp_bslF hS (fun w0=>by go_simp;rfl) fun Z J2 w3 hJ2 hX2 hS=>?_
    refine HK.out _ _ ⟨rfl,J2,hJ2,hS,?_⟩
    clear HK
    simp only [Facts]
    simp only [outOf,zH,zI,Act.put,zE,zF,zG,zD,zC,zA,zB,zJ]
    refine ⟨Z,rfl,?_⟩
    intro j v hj
    rw [Nat.zero_add]
    simp only [PH.at,hX2]
    rw [← hj]
    simp
  all_goals
   refine .inr ?_
   intro s vals J9 bs w hstop hg hJ9 hS hG
   first
   | (refine stop_case hstop rfl ?_
      intro hs0
      subst hs0
      have hG:bs=_:=hG
      subst hG
      simp only [zH,zI,Given,Facts] at hg;simp only [textL,actL,dstAt,opAt,zH,zI,zA,zB,zK,if_true,Act.put,zE,zF,zG,hg];refine ⟨?_⟩;refine wpStep_of (fun K hK=>?_);have HK:=Lib.hid hK;clear hK;rw [if_pos (by rfl)]
      ( (go_wp2_with (fail)))
      refine HK.out _ _ ⟨rfl,J9,PH.le.refl _,hS,?_⟩
      clear HK
      simp only [Facts]
      simp only [outOf,zH,zI,zD,zC,zA,zB,zJ])
   | (simp only [zH,zI,Given,Facts] at hg;simp only [textL,actL,dstAt,opAt,zH,zI,zA,zB,zK,if_true,Act.put,zE,zF,zG,hg];refine ⟨?_⟩;refine wpStep_of (fun K hK=>?_);have HK:=Lib.hid hK;clear hK;rw [if_pos (by rfl)]
      (first|((with_reducible refine atLoad ?_);first|((refine' wp_ldiN (vs:=_) hS hJ9 ?ha rfl ?hc ?hb ?_);(case ha=>first|exact ty_agg31);(case hc=>assumption);(case hb=>first|exact ty_sz31)))|(go_wp2_with (fail)))
      refine HK.out _ _ ⟨rfl,J9,PH.le.refl _,hS,?_⟩
      clear HK
      simp only [Facts]
      simp only [outOf,zH,zI,Act.put,zE,zF,zG,zD,zC,zA,zB,zJ])
 case step =>
  refine ⟨⟨⟨trivial,?_⟩,?_⟩,?_⟩
  · intro vals J9 bs w hg hJ9 hS hG
    have hG:bs=_:=hG
    subst hG
    obtain ⟨Z,e9,h9c⟩:∃ Z,vals 5=.slice (some ⟨Z,0,none⟩) 1 1∧Cells J9 Z 0 [nv rr,.slice Az qz cz]:=hg.get 5 (by decide)
    have h9b:=HZt.out.le hJ9
    have ek:vals 1=_:=hg.get 1 (by decide)
    simp only [textL,actL,dstAt,opAt,zH,zI,zA,zB,zK,if_true,Act.put,zE,zF,zG,ek,e9]
    refine ⟨?_⟩
    refine wpStep_of (fun K hK=>?_)
    have HK:=Lib.hid hK
    clear hK
    rw [if_pos (by rfl)]
    refine wp_apS hS 1 rfl (p:=J9) (.inl (PH.le.refl _)) rfl Tryz.underlying39 kn_info rfl (by decide) rfl HOk.out rfl (news:=[nv rr,.slice Az qz cz]) rfl (fun _=>⟨Z,0,rfl,h9c⟩) (fun u hu=>by rcases List.mem_cons.1 hu with rfl|hu;rfl;rw [List.mem_singleton.1 hu];rfl) (by unfold maxLen;omega) (by omega) fun v' m' w2 hO2 hS2=>?_
    refine HK.out _ _ ⟨rfl,J9,_,PH.le.refl _,hS2,trivial,m',?_,rfl⟩
    simp only [outOf,Act.put,zE,zF,zG,zD,zC,zA,zB,zJ]
    rw [upd_self]
    exact HKn.out J9 m' v' _ _ t' (PH.le.trans HIB.out hJ9) h9b hO2
  · intro vals J9 bs w hg hJ9 hS hG
    refine Veil0.out ?_
    obtain ⟨m',hO2,hG⟩:=hG
    subst hG
    refine ⟨?_⟩
    simp only [zH,zI,Given,Facts] at hg;simp only [textL,actL,dstAt,opAt,zH,zI,zA,zB,zK,if_true,Act.put,zE,zF,zG,hg];refine ⟨?_⟩;refine wpStep_of (fun K hK=>?_);have HK:=Lib.hid hK;clear hK;rw [if_pos (by rfl)]
    refine wp_stN hS 2 rfl rfl rfl rfl ?ha rfl ?hb fun w' hS'=>?_
    case ha=>exact ty_sz31
    case hb=>(simp [Act.eval,Value.cells,Value.oneCell'];done)
    exact HK.out _ _ ⟨rfl,J9,_,PH.le.refl _,hS',trivial,m',hO2,rfl⟩
  · intro vals J9 bs w hg hJ9 hS hG
    refine Veil0.out ?_
    obtain ⟨m',hO2,hG⟩:=hG
    subst hG
    refine ⟨?_⟩
    simp only [zH,zI,Given,Facts] at hg;simp only [textL,actL,dstAt,opAt,zH,zI,zA,zB,zK,if_true,Act.put,zE,zF,zG,hg];refine ⟨?_⟩;refine wpStep_of (fun K hK=>?_);have HK:=Lib.hid hK;clear hK;rw [if_pos (by rfl)]
    refine wp_as ?_
    refine HK.out _ _ ⟨rfl,J9,_,PH.le.refl _,hS,trivial,m',?_,rfl⟩
    simp only [outOf,Act.put,zE,zF,zG,zD,zC,zA,zB,zJ]
    rw [upd_self]
    exact hO2
 case fin =>
  intro vals J9 bs w hJ9 hg hS hG
  obtain ⟨mk1,hk1,hns⟩:=hG
  subst hns
  have HJ9:=Lib.hid hJ9
  simp only [zF,zG] at hS
  clear hJ9
  have e0:vals 0=_:=Below_.get hg 0 (by decide)
  have e1:vals 1=_:=Below_.get hg 1 (by decide)
  have e2:vals 2=_:=Below_.get hg 2 (by decide)
  have e3:vals 3=_:=Below_.get hg 3 (by decide)
  have e4:vals 4=_:=Below_.get hg 4 (by decide)
  have e9:vals 9=_:=Below_.get hg 9 (by decide)
  simp only [List.length_cons,List.length_nil,Nat.reduceAdd,textL,actL,dstAt,zA,zB,zK,if_true,Act.put,zE,zF,zG,e0,e1,e2,e3,e4,e9]
  clear e0 e1 e2 e3 e4 e9 hg
  generalize vals 8=v8 at *
  generalize vals 7=v7 at *
  generalize vals 6=v6 at *
  generalize vals 5=v5 at *
  refine ⟨?_⟩
  go_wp2_with fail
  refine bodyPost_ret (res3 rfl (rvN 2 hS rfl rfl ty_agg31 ty_sz31) (rvt rfl) (rvt rfl)) rfl ?_
  have hS9:=hS.perm (show List.Perm (m1::mk1::_::ms) (_::m1::mk1::ms) from List.Perm.trans (List.Perm.cons _ (List.Perm.swap _ _ _)) (List.Perm.swap _ _ _))
  exact ⟨_,_,_,J9,m1,mk1,rfl,PH.le.trans HIB.out HJ9.out,HRa.out.le HJ9.out,HRb.out.le HJ9.out,hk1,HA1.out,hS9.drop⟩
end Go.Proofs.YtdhkkkhnjooioaaGreat
