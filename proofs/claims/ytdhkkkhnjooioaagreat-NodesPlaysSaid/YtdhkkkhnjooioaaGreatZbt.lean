import Derived.Test.YtdhkkkhnjooioaaGreatZbs
set_option linter.unusedSimpArgs false
set_option linter.unusedVariables false
namespace Go.Proofs.YtdhkkkhnjooioaaGreat
open Go.RowKit
def colG (c0 c3:Nat) (KO:PH→Value→Prop) (OS:PH→Prop) (p2:PH) (ms:List PH) (s:Nat) (vals:Nat→Value) (_:PH) (ns:List PH):Prop :=
 match s with
 | 0=>ns=ms
 | 1=>∃ k1,KO k1 (vals c0)∧ns=k1::ms
 | 2=>∃ k1 m1,KO k1 (vals c0)∧OS m1∧ns=k1::ms.set 0 m1
 | 3=>∃ k1 m1,KO k1 (vals c0)∧OS m1∧ns=k1::(ms.set 0 m1).set 2 p2
 | _+4=>∃ k1 m1,KO k1 (vals c3)∧OS m1∧ns=k1::(ms.set 0 m1).set 2 p2
theorem colG.gst {c0 c1 c2 c3:Nat} {KO:PH→Value→Prop} {OS:PH→Prop} {p2:PH} {ms:List PH} (s:Nat) (vals vals':Nat→Value) (J:PH) (ns:List PH) (h:∀ j ∈ [c0,c1,c2,c3].take s,vals j=vals' j) (hg:colG c0 c3 KO OS p2 ms s vals J ns):colG c0 c3 KO OS p2 ms s vals' J ns:=by
 match s,h,hg with
 | 0,_,hg=>exact hg
 | 1,h,⟨k1,h1,h2⟩=>exact ⟨k1,by rw [← h c0 (by simp)];exact h1,h2⟩
 | 2,h,⟨k1,m1,h1,h2⟩=>exact ⟨k1,m1,by rw [← h c0 (by simp)];exact h1,h2⟩
 | 3,h,⟨k1,m1,h1,h2⟩=>exact ⟨k1,m1,by rw [← h c0 (by simp)];exact h1,h2⟩
 | _+4,h,⟨k1,m1,h1,h2⟩=>exact ⟨k1,m1,by rw [← h c3 (by simp)];exact h1,h2⟩
def swpG (c0 c1 c3:Nat) (K1 K2:PH→Value→Prop) (p2:PH) (ms:List PH) (s:Nat) (vals:Nat→Value) (_:PH) (ns:List PH):Prop :=
 match s with
 | 0=>ns=ms
 | 1=>∃ k1,K1 k1 (vals c0)∧ns=k1::ms
 | 2=>∃ k1 k2,K2 k2 (vals c1)∧ns=k2::k1::ms
 | 3=>∃ k1 k2,K2 k2 (vals c1)∧ns=k2::k1::ms.set 2 p2
 | _+4=>∃ k1 k2,K2 k2 (vals c3)∧ns=k2::k1::ms.set 2 p2
theorem swpG.gst {c0 c1 c2 c3:Nat} {K1 K2:PH→Value→Prop} {p2:PH} {ms:List PH} (s:Nat) (vals vals':Nat→Value) (J:PH) (ns:List PH) (h:∀ j ∈ [c0,c1,c2,c3].take s,vals j=vals' j) (hg:swpG c0 c1 c3 K1 K2 p2 ms s vals J ns):swpG c0 c1 c3 K1 K2 p2 ms s vals' J ns:=by
 match s,h,hg with
 | 0,_,hg=>exact hg
 | 1,h,⟨k1,h1,h2⟩=>exact ⟨k1,by rw [← h c0 (by simp)];exact h1,h2⟩
 | 2,h,⟨k1,k2,h1,h2⟩=>exact ⟨k1,k2,by rw [← h c1 (by simp)];exact h1,h2⟩
 | 3,h,⟨k1,k2,h1,h2⟩=>exact ⟨k1,k2,by rw [← h c1 (by simp)];exact h1,h2⟩
 | _+4,h,⟨k1,k2,h1,h2⟩=>exact ⟨k1,k2,by rw [← h c3 (by simp)];exact h1,h2⟩
set_option maxRecDepth 100000 in
set_option maxHeartbeats 8000000 in
theorem do_coll {E w:World} {I m mk:PH} {ms:List PH} {a b S kd qa qb:Nat} {v:Int} {ov lv hv kv:Value} {l:List G.Tb} {h os:List Nat} {s s':G.St} {ks:List (Nat × G.Tb)} {kx ky:Nat × G.Tb} (hl:RowsR I lv l) (hh:NumR I hv h) (hoo:NumR I ov os) (hk:KnAt I mk kv ks) (hkl:0<ks.length∧ks.length≤100) (hqa:qa<256) (hqb:qb<256) (hkx:ks[qa % ks.length]?=some kx) (hky:ks[qb % ks.length]?=some ky) (hkd:kd<256∧kd % 9=6) {cq dd:Nat} {cl:List G.Tb} {gl:List Nat} {ks':List (Nat × G.Tb)} (hdd:cq+dd=l.length) (hlb:l.length≤1500)
 (HCo:∀ (w':World) (ms':List PH) (J:PH),I.le J→Sat E J ms' w'→Calls Tryz.prog 26 #[.agg #[nv a,nv b,ov,lv,hv],ov] w' fun e w''=>∃ Ac cc Ag cg K,e=.returned (.agg #[nv a,nv b,ov,.slice Ac cq cc,.slice Ag cq cg])∧J.le K∧RowsR K (.slice Ac cq cc) cl∧NumR K (.slice Ag cq cg) gl∧Sat E K ms' w'')
 (HCn:∀ (w':World) (ms':List PH) (J:PH) (cv gv:Value),I.le J→RowsR J cv cl→NumR J gv gl→Sat E J (mk::ms') w'→Calls Tryz.prog 27 #[.agg #[nv a,nv b,ov,cv,gv],kv] w' fun e w''=>∃ v m1,e=.returned v∧KnAt I m1 v ks'∧Sat E J (m1::mk::ms') w'')
 (HCs:∀ (w':World) (ms':List PH) (J:PH),Sat E J (m::ms') w'→Calls Tryz.prog 28 #[vPt S] w' fun e w''=>e=.returned (nv dd)∧∃ m',StAt S s' m'∧Sat E J (m'::ms') w'') (hS:Sat E I (m::mk::ms) w) :
 Calls Tryz.prog 8 #[vPt S,.agg #[nv a,nv b,ov,lv,hv],kv,.agg #[.int .u8 (kd:Int),.int .u8 (qa:Int),.int .u8 (qb:Int),.int .i64 v]] w fun e w'=>∃ cv gv kv' J m' mk',e=.returned (.tuple #[.agg #[nv a,nv b,ov,cv,gv],kv',.bool true])∧I.le J∧RowsR J cv cl∧NumR J gv gl∧KnAt J mk' kv' ks'∧StAt S s' m'∧Sat E J (m'::mk'::ms) w':=by
 have HCo:=Lib.hid HCo
 have HCn:=Lib.hid HCn
 have HCs:=Lib.hid HCs
 have hsub:(l.length:Int) - (cq:Int)=(dd:Int):=by omega
 have hcq:cq≤1500:=by omega
 clear hdd
 obtain ⟨hkd0,hkd1⟩:=hkd
 have hk9:(kd:Int) % 9=6:=by omega
 clear hkd1
 obtain ⟨us,hus,hO⟩:=hk
 obtain ⟨x1,hx1,bx1⟩:=hus.2 _ _ hkx
 obtain ⟨y1,hy1,by1⟩:=hus.2 _ _ hky
 obtain ⟨K,kc,rfl,_⟩:=hO.ptr hkl.1
 have hcx:Cells mk K (qa % ks.length * 2) [nv kx.1,x1]:=flat_cells knC_len hO hx1
 have hcy:Cells mk K (qb % ks.length * 2) [nv ky.1,y1]:=flat_cells knC_len hO hy1
 have HBx:=Lib.hid bx1
 have HBy:=Lib.hid by1
 obtain ⟨⟨Ax,cx,rfl⟩,_⟩:=bx1
 obtain ⟨⟨Ay,cy,rfl⟩,_⟩:=by1
 have HKn:=Lib.hid (fun (J m':PH) (v' x:Value) (f:Nat) (t:G.Tb) (hJ:I.le J) (hx:BoolR J x t) (hO':OwnP m' 38 2 v' (ks.length+1) (us.flatMap knC ++ [nv f,x]))=>(KnAt.snoc (k:=(f,t)) (hus.le hJ) hx hO':KnAt J m' v' (ks ++ [(f,t)])))
 have HOk:=Lib.hid hO
 have HKm:=Lib.hid (show KnAt I mk (.slice (some ⟨K,0,none⟩) ks.length kc) ks from ⟨us,hus,hO⟩)
 have hN0:0<(ks.length:Int):=by omega
 have hN1:(ks.length:Int)≤100:=by omega
 have hNz:¬ (ks.length:Int)=0:=by omega
 have hmx:(qa:Int) % (ks.length:Int)=((qa % ks.length:Nat):Int):=(Int.natCast_emod qa ks.length).symm
 have hmy:(qb:Int) % (ks.length:Int)=((qb % ks.length:Nat):Int):=(Int.natCast_emod qb ks.length).symm
 have hlx:((qa % ks.length:Nat):Int)<(ks.length:Int):=by have:=Nat.mod_lt qa hkl.1;omega
 have hly:((qb % ks.length:Nat):Int)<(ks.length:Int):=by have:=Nat.mod_lt qb hkl.1;omega
 have HCx:=Lib.hid hcx
 have HCy:=Lib.hid hcy
 obtain ⟨⟨A,c,rfl⟩,_⟩:=hl.get
 obtain ⟨⟨B,d,rfl⟩,_⟩:=hh
 obtain ⟨⟨oA,oC,rfl⟩,_⟩:=hoo
 clear hl hkl hkx hky hus hx1 hy1 hO hcx hcy
 generalize qa % ks.length=ix at *
 generalize qb % ks.length=iy at *
 generalize ks.length=N at *
 generalize kx.2.length=lx at *
 generalize ky.2.length=ly at *
 generalize os.length=q0 at *
 generalize l.length=q1 at *
 generalize h.length=q2 at *
 go_enter Tryz.func8,Tryz.ntmps8
 go_upto_region 1 with (first|((with_reducible refine atList ?_);first|((with_reducible refine isBoxD 5 ?_);refine bx hS rfl rfl rfl ?_;clear hS;intro X5 w hS;(try simp only [Act.eval,zD,zC,zA,zB,zJ,Value.cells] at hS);(try simp only [Act.put,zE,zF,zG]))|((with_reducible refine isBoxD 7 ?_);refine bx hS rfl rfl rfl ?_;clear hS;intro X7 w hS;(try simp only [Act.eval,zD,zC,zA,zB,zJ,Value.cells] at hS);(try simp only [Act.put,zE,zF,zG]))|((with_reducible refine isAllocD 8 ?_);(refine' al (z:=_) hS rfl rfl ?ha ?_);(case ha=>exact ty_z31);clear hS;intro R8 w hS;(try simp only [Value.cells] at hS);(try simp only [Act.put,zE,zF,zG])) ))
 have hSp:=hS.perm (perm_front 2 rfl)
 simp only [List.eraseIdx_cons_succ,List.eraseIdx_cons_zero] at hSp
 obtain ⟨I5,a5,e5,hS5,_⟩:=hSp.ice
 have ix5:Cells I5 X5 0 [nv a,nv b,.slice oA q0 oC,.slice A q1 c,.slice B q2 d]:=(Cells.one X5 #[nv a,nv b,.slice oA q0 oC,.slice A q1 c,.slice B q2 d] 31 (0,0)).le e5
 clear hS hSp e5
 have hS:=hS5
 clear hS5
 have hSp:=hS.perm (perm_front 1 rfl)
 simp only [List.eraseIdx_cons_succ,List.eraseIdx_cons_zero] at hSp
 obtain ⟨I7,a7,e7,hS7,_⟩:=hSp.ice
 have ix7:Cells I7 X7 0 [.int .u8 (kd:Int),.int .u8 (qa:Int),.int .u8 (qb:Int),.int .i64 v]:=(Cells.one X7 #[.int .u8 (kd:Int),.int .u8 (qa:Int),.int .u8 (qb:Int),.int .i64 v] 43 (0,0)).le e7
 clear hS hSp e7
 have hS:=hS7
 clear hS7
 have hS8:=hS.perm (List.Perm.trans (List.Perm.swap _ _ _) (List.Perm.cons _ (List.Perm.swap _ _ _)))
 clear hS
 have hS:=hS8
 clear hS8
 have f71:I7.at X7 1=some (.int .u8 (qa:Int)):=ix7 1 _ rfl
 go_upto_region 2 with (first|((with_reducible refine isLoad ?_);(refine' ldPN (vs:=_) (hS.mle (k:=1) rfl) rfl rfl ty_agg38 rfl ?hc ?hb ?_);(case hc=>exact HCx.out);(case hb=>exact ty_sz38);(try simp only [Act.put,zE,zF,zG]))|((with_reducible refine isLoad ?_);(first|((refine' ldI1 (v:=_) hS rfl rfl ?ha rfl ?hb ?_);(case ha=>first|exact ty_agg5);(case hb=>assumption)));(try simp only [Act.put,zE,zF,zG]))|((with_reducible refine atList ?_);first|((with_reducible refine isAllocD 11 ?_);(refine' al (z:=_) hS rfl rfl ?ha ?_);(case ha=>exact ty_z38);clear hS;intro N11 w hS;(try simp only [Value.cells] at hS);(try simp only [Act.put,zE,zF,zG]))|((with_reducible refine isStore ?_);(first|(refine stN 0 hS rfl rfl rfl rfl rfl ?ha rfl rfl ?_;(case ha=>exact ty_sz38)));clear hS;intro w hS;(try simp only [zG,Act.eval,zD,zC,zA,zB,zJ,Value.cells] at hS);(try simp only [Act.put])) ))
 have hSp:=hS.perm (perm_front 0 rfl)
 simp only [List.eraseIdx_cons_zero] at hSp
 obtain ⟨I11,a11,e11,hS11,_⟩:=hSp.ice
 have ix11:Cells I11 N11 0 [nv kx.1,.slice Ax lx cx]:=(Cells.one N11 #[nv kx.1,.slice Ax lx cx] 38 (0,0)).le e11
 clear hS hSp e11
 have hS:=hS11
 clear hS11
 have f72:I11.at X7 2=some (.int .u8 (qb:Int)):=PH.at_le a11 (ix7 2 _ rfl)
 go_upto_region 3 with (first|((with_reducible refine isLoad ?_);(refine' ldPN (vs:=_) (hS.mle (k:=1) rfl) rfl rfl ty_agg38 rfl ?hc ?hb ?_);(case hc=>exact HCy.out);(case hb=>exact ty_sz38);(try simp only [Act.put,zE,zF,zG]))|((with_reducible refine isLoad ?_);(first|((refine' ldI1 (v:=_) hS rfl rfl ?ha rfl ?hb ?_);(case ha=>first|exact ty_agg5);(case hb=>assumption)));(try simp only [Act.put,zE,zF,zG]))|((with_reducible refine atList ?_);first|((with_reducible refine isAllocD 12 ?_);(refine' al (z:=_) hS rfl rfl ?ha ?_);(case ha=>exact ty_z38);clear hS;intro N12 w hS;(try simp only [Value.cells] at hS);(try simp only [Act.put,zE,zF,zG]))|((with_reducible refine isStore ?_);(first|(refine stN 0 hS rfl rfl rfl rfl rfl ?ha rfl rfl ?_;(case ha=>exact ty_sz38)));clear hS;intro w hS;(try simp only [zG,Act.eval,zD,zC,zA,zB,zJ,Value.cells] at hS);(try simp only [Act.put])) ))
 have hSp:=hS.perm (perm_front 0 rfl)
 simp only [List.eraseIdx_cons_zero] at hSp
 obtain ⟨I12,a12,e12,hS12,_⟩:=hSp.ice
 have ix12:Cells I12 N12 0 [nv ky.1,.slice Ay ly cy]:=(Cells.one N12 #[nv ky.1,.slice Ay ly cy] 38 (0,0)).le e12
 clear hS hSp e12
 have hS:=hS12
 clear hS12
 have f70:I12.at X7 0=some (.int .u8 (kd:Int)):=PH.at_le a12 (PH.at_le a11 (ix7 0 _ rfl))
 have f73:I12.at X7 3=some (.int .i64 v):=PH.at_le a12 (PH.at_le a11 (ix7 3 _ rfl))
 have f110:I12.at N11 0=some (nv kx.1):=PH.at_le a12 (ix11 0 _ rfl)
 have f111:I12.at N11 1=some (.slice Ax lx cx):=PH.at_le a12 (ix11 1 _ rfl)
 have f120:I12.at N12 0=some (nv ky.1):=ix12 0 _ rfl
 have f121:I12.at N12 1=some (.slice Ay ly cy):=ix12 1 _ rfl
 have r5:=((ix5.le a7).le a11).le a12
 have HIJ:=Lib.hid (PH.le.trans (PH.le.trans (PH.le.trans a5 a7) a11) a12)
 clear a5 a7 a11 a12 ix5 ix7 ix11 ix12 f71 f72
 have g52:I12.at X5 2=some (.slice oA q0 oC):=r5 2 _ rfl
 go_upto_region 14 with (first
  | (go_at_call 26;(with_reducible refine Calls.mono (HCo.out _ _ _ HIJ.out hS) ?_);clear hS;rintro e w ⟨Ac,cc,Ag,cg,J2,rfl,hJ2,hcv,hgv,hS⟩;have HJ2:=Lib.hid hJ2;have HCv:=Lib.hid hcv;have HGv:=Lib.hid hgv;have g53:J2.at X5 3=some (.slice A q1 c):=PH.at_le hJ2 (r5 3 _ rfl);clear hJ2 hcv hgv)
  | ((with_reducible refine isLoad ?_);(first|((refine' ldI1 (v:=_) hS rfl rfl ?ha rfl ?hb ?_);(case ha=>first|exact ty_agg5|exact ty_agg28);(case hb=>assumption))|((refine' ldIN (vs:=_) hS rfl rfl ?ha rfl ?hc ?hb ?_);(case ha=>first|exact ty_agg31);(case hc=>assumption);(case hb=>first|exact ty_sz31)));(try simp only [Act.put,zE,zF,zG]))
  | ((with_reducible refine atList ?_);first|((with_reducible refine isAllocD 17 ?_);(refine' al (z:=_) hS rfl rfl ?ha ?_);(case ha=>exact ty_z31);clear hS;intro N17 w hS;(try simp only [Value.cells] at hS);(try simp only [Act.put,zE,zF,zG]))|((with_reducible refine isStore ?_);(first|(refine stN 0 hS rfl rfl rfl rfl rfl ?ha rfl rfl ?_;(case ha=>exact ty_sz31)));clear hS;intro w hS;(try simp only [zG,Act.eval,zD,zC,zA,zB,zJ,Value.cells] at hS);(try simp only [Act.put])) ))
 have hSp:=hS.perm (perm_front 0 rfl)
 simp only [List.eraseIdx_cons_zero] at hSp
 obtain ⟨I17,a17,e17,hS17,_⟩:=hSp.ice
 have ix17:Cells I17 N17 0 [nv a,nv b,.slice oA q0 oC,.slice Ac cq cc,.slice Ag cq cg]:=(Cells.one N17 #[nv a,nv b,.slice oA q0 oC,.slice Ac cq cc,.slice Ag cq cg] 31 (0,0)).le e17
 clear hS hSp e17
 have hS:=hS17
 clear hS17
 have g5:=PH.at_le a17 g53
 have g173:I17.at N17 3=some (.slice Ac cq cc):=ix17 3 _ rfl
 have HIB:=Lib.hid (PH.le.trans (PH.le.trans HIJ.out HJ2.out) a17)
 have HCv2:=Lib.hid (HCv.out.le a17)
 have HGv2:=Lib.hid (HGv.out.le a17)
 refine region_c1 [[],[],[],[1,2],[],[1,2,3,4],[],[6],[6,7],[],[9],[9,10],[6,7,8,9,10,11],[1,2,3,4,5,6,7,8,9,10,11,12],[0,1,2,3,4,5],[0,1,2,3,4,5,14],[0,1,2,3,4,5,6,7,8,9,10,11,12,13,14,15]] E I17 _
  [fun v _=>v=.agg #[nv a,nv b,.slice oA q0 oC,.slice Ac cq cc,.slice Ag cq cg],fun v _=>v=.agg #[nv a,nv b,.slice oA q0 oC,.slice Ac cq cc,.slice Ag cq cg],fun v _=>v=.slice (some ⟨K,0,none⟩) N kc,fun _ _=>True,fun v _=>v=vPt S,fun v _=>v=nv dd,fun v _=>v=.pointer (some ⟨X5,3,none⟩),fun v _=>v=.slice A q1 c,fun v _=>v=nv q1,fun v _=>v=.pointer (some ⟨N17,3,none⟩),fun v _=>v=.slice Ac cq cc,fun v _=>v=nv cq,fun v _=>v=nv dd,fun v _=>v=.bool true,fun _ _=>True,fun _ _=>True,fun v _=>v=.bool true] [3,5,14,15]
  (colG 3 15 (fun m' v'=>KnAt I m' v' ks') (fun m'=>StAt S s' m') (PH.one R8 (.cells #[nv a,nv b,.slice oA q0 oC,.slice Ac cq cc,.slice Ag cq cg] 31)) _) (by kernel_rfl) (by kernel_rfl) (by decide) hS rfl ?last colG.gst (fun _ _ _ _ _ _ h=>h) ?plain ?step ?fin
 case last=>repeat (first|exact Lasting.nil|refine Lasting.cons (fun _ _ _ _ h=>h) ?_)
 case plain =>
  repeat' (first|exact trivial|apply And.intro)
  all_goals first|exact .inl rfl|skip
  all_goals
   refine .inr ?_
   intro s vals J9 bs w hstop hg hJ9 hS hG
   first
   | (refine stop_case hstop rfl ?_
      intro hs0
      subst hs0
      have hG:bs=_:=hG
      subst hG
      simp only [zH,zI,Given,Facts] at hg;simp only [textL,actL,dstAt,opAt,zH,zI,zA,zB,zK,if_true,Act.put,zE,zF,zG];refine ⟨?_⟩;refine wpStep_of (fun K hK=>?_);have HK:=Lib.hid hK;clear hK;rw [if_pos (by rfl)]
      (first|((with_reducible refine atLoad ?_);  ((refine' wp_ldiN (vs:=_) hS hJ9 ?ha rfl ?hc ?hb ?_);(case ha=>first|exact ty_agg31);(case hc=>assumption);(case hb=>first|exact ty_sz31)))|(go_wp2_with (fail)))
      refine HK.out _ _ ⟨rfl,J9,PH.le.refl _,hS,?_⟩
      clear HK
      simp only [Facts]
      simp only [outOf,zH,zI,Act.put,zE,zF,zG,zD,zC,zA,zB,zJ])
   | (simp only [zH,zI,Given,Facts] at hg;simp only [textL,actL,dstAt,opAt,zH,zI,zA,zB,zK,if_true,Act.put,zE,zF,zG,hg];refine ⟨?_⟩;refine wpStep_of (fun K hK=>?_);have HK:=Lib.hid hK;clear hK;rw [if_pos (by rfl)]
      (first|((with_reducible refine atLoad ?_);first|((refine' wp_ldi1 (v:=_) hS hJ9 ?ha rfl ?hc ?_);(case ha=>first|exact ty_agg29);(case hc=>assumption))|((refine' wp_ldiN (vs:=_) hS hJ9 ?ha rfl ?hc ?hb ?_);(case ha=>first|exact ty_agg31);(case hc=>assumption);(case hb=>first|exact ty_sz31)))|(go_wp2_with (fail)))
      refine HK.out _ _ ⟨rfl,J9,PH.le.refl _,hS,?_⟩
      clear HK
      simp only [Facts]
      simp only [outOf,zH,zI,Act.put,zE,zF,zG,zD,zC,zA,zB,zJ])
 case step =>
  refine ⟨⟨⟨⟨trivial,?_⟩,?_⟩,?_⟩,?_⟩
  · intro vals J9 bs w hg hJ9 hS hG
    have hG:bs=_:=hG
    subst hG
    simp only [zH,zI,Given,Facts] at hg;simp only [textL,actL,dstAt,opAt,zH,zI,zA,zB,zK,if_true,Act.put,zE,zF,zG,hg];refine ⟨?_⟩;refine wpStep_of (fun K hK=>?_);have HK:=Lib.hid hK;clear hK;rw [if_pos (by rfl)]
    go_wp2_with (first|(go_at_call 27;((with_reducible refine Calls.mono (HCn.out _ _ _ _ _ (PH.le.trans HIB.out hJ9) (HCv2.out.le hJ9) (HGv2.out.le hJ9) (hS.perm (List.Perm.swap _ _ _))) ?_);clear hS;rintro e w2 ⟨v1,k1,rfl,hk1,hS⟩)))
    refine HK.out _ _ ⟨rfl,J9,_,PH.le.refl _,hS.perm (List.Perm.cons _ (List.Perm.swap _ _ _)),trivial,k1,?_,rfl⟩
    simp only [outOf,zD,zC,zA,zB,zJ]
    rw [upd_self]
    exact hk1
  · intro vals J9 bs w hg hJ9 hS hG
    refine Veil0.out ?_
    obtain ⟨k1,hk1,hG⟩:=hG
    subst hG
    refine ⟨?_⟩
    simp only [zH,zI,Given,Facts] at hg;simp only [textL,actL,dstAt,opAt,zH,zI,zA,zB,zK,if_true,Act.put,zE,zF,zG,hg];refine ⟨?_⟩;refine wpStep_of (fun K hK=>?_);have HK:=Lib.hid hK;clear hK;rw [if_pos (by rfl)]
    go_wp2_with (first|(go_at_call 28;((with_reducible refine Calls.mono (HCs.out _ _ _ (hS.perm (List.Perm.swap _ _ _))) ?_);clear hS;rintro e w2 ⟨rfl,m1,hA1,hS⟩)))
    refine HK.out _ _ ⟨rfl,J9,_,PH.le.refl _,hS.perm (List.Perm.swap _ _ _),rfl,k1,m1,?_,hA1,rfl⟩
    simp only [outOf,zD,zC,zA,zB,zJ]
    rw [upd_ne _ _ (by decide)]
    exact hk1
  · intro vals J9 bs w hg hJ9 hS hG
    refine Veil0.out ?_
    obtain ⟨k1,m1,hk1,hA1,hG⟩:=hG
    subst hG
    refine ⟨?_⟩
    simp only [zH,zI,Given,Facts] at hg;simp only [textL,actL,dstAt,opAt,zH,zI,zA,zB,zK,if_true,Act.put,zE,zF,zG,hg];refine ⟨?_⟩;refine wpStep_of (fun K hK=>?_);have HK:=Lib.hid hK;clear hK;rw [if_pos (by rfl)]
    refine wp_stN hS 3 rfl rfl rfl rfl ?ha rfl ?hb fun w' hS'=>?_
    case ha=>exact ty_sz31
    case hb=>(simp [Act.eval,Value.cells,Value.oneCell'];done)
    refine HK.out _ _ ⟨rfl,J9,_,PH.le.refl _,hS',trivial,k1,m1,?_,hA1,rfl⟩
    rw [upd_ne _ _ (by decide)]
    exact hk1
  · intro vals J9 bs w hg hJ9 hS hG
    refine Veil0.out ?_
    obtain ⟨k1,m1,hk1,hA1,hG⟩:=hG
    subst hG
    refine ⟨?_⟩
    simp only [zH,zI,Given,Facts] at hg;simp only [textL,actL,dstAt,opAt,zH,zI,zA,zB,zK,if_true,Act.put,zE,zF,zG,hg];refine ⟨?_⟩;refine wpStep_of (fun K hK=>?_);have HK:=Lib.hid hK;clear hK;rw [if_pos (by rfl)]
    refine wp_as ?_
    refine HK.out _ _ ⟨rfl,J9,_,PH.le.refl _,hS,trivial,k1,m1,?_,hA1,rfl⟩
    simp only [outOf,Act.put,zE,zF,zG,zD,zC,zA,zB,zJ]
    rw [upd_self]
    exact hk1
 case fin =>
  intro vals J9 bs w hJ9 hg hS hG
  obtain ⟨k1,m1,hk1,hA1,hns⟩:=hG
  subst hns
  have HJ9:=Lib.hid hJ9
  simp only [zF,zG] at hS
  clear hJ9
  have e0:vals 0=_:=Below_.get hg 0 (by decide)
  have e1:vals 1=_:=Below_.get hg 1 (by decide)
  have e2:vals 2=_:=Below_.get hg 2 (by decide)
  have e4:vals 4=_:=Below_.get hg 4 (by decide)
  have e5:vals 5=_:=Below_.get hg 5 (by decide)
  have e6:vals 6=_:=Below_.get hg 6 (by decide)
  have e7:vals 7=_:=Below_.get hg 7 (by decide)
  have e8:vals 8=_:=Below_.get hg 8 (by decide)
  have e9:vals 9=_:=Below_.get hg 9 (by decide)
  have e10:vals 10=_:=Below_.get hg 10 (by decide)
  have e11:vals 11=_:=Below_.get hg 11 (by decide)
  have e12:vals 12=_:=Below_.get hg 12 (by decide)
  have e13:vals 13=_:=Below_.get hg 13 (by decide)
  have e16:vals 16=_:=Below_.get hg 16 (by decide)
  simp only [List.length_cons,List.length_nil,Nat.reduceAdd,textL,actL,dstAt,zA,zB,zK,if_true,Act.put,zE,zF,zG,e0,e1,e2,e4,e5,e6,e7,e8,e9,e10,e11,e12,e13,e16]
  clear e0 e1 e2 e4 e5 e6 e7 e8 e9 e10 e11 e12 e13 e16 hg
  generalize vals 15=v15 at *
  generalize vals 14=v14 at *
  generalize vals 3=v3 at *
  refine ⟨?_⟩
  go_wp2_with fail
  refine bodyPost_ret (res3 rfl (rvN 3 hS rfl rfl ty_agg31 ty_sz31) (rvt rfl) (rvt rfl)) rfl ?_
  have hS9:=hS.perm (show List.Perm (k1::m1::mk::_::ms) (_::mk::m1::k1::ms) from by
   refine List.Perm.trans (List.Perm.cons _ (List.Perm.cons _ (List.Perm.swap _ _ _))) ?_
   refine List.Perm.trans (List.Perm.cons _ (List.Perm.swap _ _ _)) ?_
   refine List.Perm.trans (List.Perm.swap _ _ _) ?_
   refine List.Perm.cons _ ?_
   exact List.Perm.trans (List.Perm.cons _ (List.Perm.swap _ _ _)) (List.Perm.trans (List.Perm.swap _ _ _) (List.Perm.cons _ (List.Perm.swap _ _ _))))
  exact ⟨_,_,_,J9,m1,k1,rfl,PH.le.trans HIB.out HJ9.out,HCv2.out.le HJ9.out,HGv2.out.le HJ9.out,hk1.le (PH.le.trans HIB.out HJ9.out),hA1,hS9.drop.drop⟩
set_option maxRecDepth 100000 in
set_option maxHeartbeats 8000000 in
theorem do_swp {E w:World} {I m mk:PH} {ms:List PH} {a b S kd qa qb:Nat} {v:Int} {ov lv hv kv:Value} {l:List G.Tb} {h os:List Nat} {s s':G.St} {ks:List (Nat × G.Tb)} {kx ky:Nat × G.Tb} (hl:RowsR I lv l) (hh:NumR I hv h) (hoo:NumR I ov os) (hk:KnAt I mk kv ks) (hkl:0<ks.length∧ks.length≤100) (hqa:qa<256) (hqb:qb<256) (hkx:ks[qa % ks.length]?=some kx) (hky:ks[qb % ks.length]?=some ky) (hkd:kd<256∧kd % 9=7) {qo cq:Nat} {os':List Nat} {cl:List G.Tb} {gl:List Nat} {ks1 ks2:List (Nat × G.Tb)}
 (HSg:∀ (w':World) (ms':List PH) (J:PH),I.le J→Sat E J (m::ms') w'→Calls Tryz.prog 29 #[vPt S,.agg #[nv a,nv b,ov,lv,hv],.int .i64 v] w' fun e w''=>∃ uA uC Ac cc Ag cg K m',e=.returned (.tuple #[.agg #[nv a,nv b,.slice uA qo uC,.slice Ac cq cc,.slice Ag cq cg],.bool true])∧J.le K∧NumR K (.slice uA qo uC) os'∧RowsR K (.slice Ac cq cc) cl∧NumR K (.slice Ag cq cg) gl∧StAt S s' m'∧Sat E K (m'::ms') w'')
 (HSd:∀ (w':World) (ms':List PH) (J:PH),I.le J→Sat E J ms' w'→Calls Tryz.prog 30 #[ov,.int .i64 v] w' fun e w''=>∃ u K,e=.returned (.tuple #[u,.bool true])∧J.le K∧Sat E K ms' w'')
 (HC1:∀ (w':World) (ms':List PH) (J:PH),I.le J→Sat E J (mk::ms') w'→Calls Tryz.prog 27 #[.agg #[nv a,nv b,ov,lv,hv],kv] w' fun e w''=>∃ v m1,e=.returned v∧KnAt I m1 v ks1∧Sat E J (m1::mk::ms') w'')
 (HC2:∀ (w':World) (ms':List PH) (J m1:PH) (o' cv gv v1:Value),I.le J→NumR J o' os'→RowsR J cv cl→NumR J gv gl→KnAt I m1 v1 ks1→Sat E J (m1::ms') w'→Calls Tryz.prog 27 #[.agg #[nv a,nv b,o',cv,gv],v1] w' fun e w''=>∃ v2 m2,e=.returned v2∧KnAt I m2 v2 ks2∧Sat E J (m2::m1::ms') w'') (hS:Sat E I (m::mk::ms) w) :
 Calls Tryz.prog 8 #[vPt S,.agg #[nv a,nv b,ov,lv,hv],kv,.agg #[.int .u8 (kd:Int),.int .u8 (qa:Int),.int .u8 (qb:Int),.int .i64 v]] w fun e w'=>∃ o' cv gv kv' J m' mk',e=.returned (.tuple #[.agg #[nv a,nv b,o',cv,gv],kv',.bool true])∧I.le J∧NumR J o' os'∧RowsR J cv cl∧NumR J gv gl∧KnAt J mk' kv' ks2∧StAt S s' m'∧Sat E J (m'::mk'::ms) w':=by
 have HSg:=Lib.hid HSg
 have HSd:=Lib.hid HSd
 have HC1:=Lib.hid HC1
 have HC2:=Lib.hid HC2
 obtain ⟨hkd0,hkd1⟩:=hkd
 have hk9:(kd:Int) % 9=7:=by omega
 clear hkd1
 obtain ⟨us,hus,hO⟩:=hk
 obtain ⟨x1,hx1,bx1⟩:=hus.2 _ _ hkx
 obtain ⟨y1,hy1,by1⟩:=hus.2 _ _ hky
 obtain ⟨K,kc,rfl,_⟩:=hO.ptr hkl.1
 have hcx:Cells mk K (qa % ks.length * 2) [nv kx.1,x1]:=flat_cells knC_len hO hx1
 have hcy:Cells mk K (qb % ks.length * 2) [nv ky.1,y1]:=flat_cells knC_len hO hy1
 have HBx:=Lib.hid bx1
 have HBy:=Lib.hid by1
 obtain ⟨⟨Ax,cx,rfl⟩,_⟩:=bx1
 obtain ⟨⟨Ay,cy,rfl⟩,_⟩:=by1
 have HKn:=Lib.hid (fun (J m':PH) (v' x:Value) (f:Nat) (t:G.Tb) (hJ:I.le J) (hx:BoolR J x t) (hO':OwnP m' 38 2 v' (ks.length+1) (us.flatMap knC ++ [nv f,x]))=>(KnAt.snoc (k:=(f,t)) (hus.le hJ) hx hO':KnAt J m' v' (ks ++ [(f,t)])))
 have HOk:=Lib.hid hO
 have HKm:=Lib.hid (show KnAt I mk (.slice (some ⟨K,0,none⟩) ks.length kc) ks from ⟨us,hus,hO⟩)
 have hN0:0<(ks.length:Int):=by omega
 have hN1:(ks.length:Int)≤100:=by omega
 have hNz:¬ (ks.length:Int)=0:=by omega
 have hmx:(qa:Int) % (ks.length:Int)=((qa % ks.length:Nat):Int):=(Int.natCast_emod qa ks.length).symm
 have hmy:(qb:Int) % (ks.length:Int)=((qb % ks.length:Nat):Int):=(Int.natCast_emod qb ks.length).symm
 have hlx:((qa % ks.length:Nat):Int)<(ks.length:Int):=by have:=Nat.mod_lt qa hkl.1;omega
 have hly:((qb % ks.length:Nat):Int)<(ks.length:Int):=by have:=Nat.mod_lt qb hkl.1;omega
 have HCx:=Lib.hid hcx
 have HCy:=Lib.hid hcy
 obtain ⟨⟨A,c,rfl⟩,_⟩:=hl.get
 obtain ⟨⟨B,d,rfl⟩,_⟩:=hh
 obtain ⟨⟨oA,oC,rfl⟩,_⟩:=hoo
 clear hl hkl hkx hky hus hx1 hy1 hO hcx hcy
 generalize qa % ks.length=ix at *
 generalize qb % ks.length=iy at *
 generalize ks.length=N at *
 generalize kx.2.length=lx at *
 generalize ky.2.length=ly at *
 generalize os.length=q0 at *
 generalize l.length=q1 at *
 generalize h.length=q2 at *
 go_enter Tryz.func8,Tryz.ntmps8
 go_upto_region 1 with (first|((with_reducible refine atList ?_);first|((with_reducible refine isBoxD 5 ?_);refine bx hS rfl rfl rfl ?_;clear hS;intro X5 w hS;(try simp only [Act.eval,zD,zC,zA,zB,zJ,Value.cells] at hS);(try simp only [Act.put,zE,zF,zG]))|((with_reducible refine isBoxD 7 ?_);refine bx hS rfl rfl rfl ?_;clear hS;intro X7 w hS;(try simp only [Act.eval,zD,zC,zA,zB,zJ,Value.cells] at hS);(try simp only [Act.put,zE,zF,zG]))|((with_reducible refine isAllocD 8 ?_);(refine' al (z:=_) hS rfl rfl ?ha ?_);(case ha=>exact ty_z31);clear hS;intro R8 w hS;(try simp only [Value.cells] at hS);(try simp only [Act.put,zE,zF,zG])) ))
 have hSp:=hS.perm (perm_front 2 rfl)
 simp only [List.eraseIdx_cons_succ,List.eraseIdx_cons_zero] at hSp
 obtain ⟨I5,a5,e5,hS5,_⟩:=hSp.ice
 have ix5:Cells I5 X5 0 [nv a,nv b,.slice oA q0 oC,.slice A q1 c,.slice B q2 d]:=(Cells.one X5 #[nv a,nv b,.slice oA q0 oC,.slice A q1 c,.slice B q2 d] 31 (0,0)).le e5
 clear hS hSp e5
 have hS:=hS5
 clear hS5
 have hSp:=hS.perm (perm_front 1 rfl)
 simp only [List.eraseIdx_cons_succ,List.eraseIdx_cons_zero] at hSp
 obtain ⟨I7,a7,e7,hS7,_⟩:=hSp.ice
 have ix7:Cells I7 X7 0 [.int .u8 (kd:Int),.int .u8 (qa:Int),.int .u8 (qb:Int),.int .i64 v]:=(Cells.one X7 #[.int .u8 (kd:Int),.int .u8 (qa:Int),.int .u8 (qb:Int),.int .i64 v] 43 (0,0)).le e7
 clear hS hSp e7
 have hS:=hS7
 clear hS7
 have hS8:=hS.perm (List.Perm.trans (List.Perm.swap _ _ _) (List.Perm.cons _ (List.Perm.swap _ _ _)))
 clear hS
 have hS:=hS8
 clear hS8
 have f71:I7.at X7 1=some (.int .u8 (qa:Int)):=ix7 1 _ rfl
 go_upto_region 2 with (first|((with_reducible refine isLoad ?_);(refine' ldPN (vs:=_) (hS.mle (k:=1) rfl) rfl rfl ty_agg38 rfl ?hc ?hb ?_);(case hc=>exact HCx.out);(case hb=>exact ty_sz38);(try simp only [Act.put,zE,zF,zG]))|((with_reducible refine isLoad ?_);(first|((refine' ldI1 (v:=_) hS rfl rfl ?ha rfl ?hb ?_);(case ha=>first|exact ty_agg5);(case hb=>assumption)));(try simp only [Act.put,zE,zF,zG]))|((with_reducible refine atList ?_);first|((with_reducible refine isAllocD 11 ?_);(refine' al (z:=_) hS rfl rfl ?ha ?_);(case ha=>exact ty_z38);clear hS;intro N11 w hS;(try simp only [Value.cells] at hS);(try simp only [Act.put,zE,zF,zG]))|((with_reducible refine isStore ?_);(first|(refine stN 0 hS rfl rfl rfl rfl rfl ?ha rfl rfl ?_;(case ha=>exact ty_sz38)));clear hS;intro w hS;(try simp only [zG,Act.eval,zD,zC,zA,zB,zJ,Value.cells] at hS);(try simp only [Act.put])) ))
 have hSp:=hS.perm (perm_front 0 rfl)
 simp only [List.eraseIdx_cons_zero] at hSp
 obtain ⟨I11,a11,e11,hS11,_⟩:=hSp.ice
 have ix11:Cells I11 N11 0 [nv kx.1,.slice Ax lx cx]:=(Cells.one N11 #[nv kx.1,.slice Ax lx cx] 38 (0,0)).le e11
 clear hS hSp e11
 have hS:=hS11
 clear hS11
 have f72:I11.at X7 2=some (.int .u8 (qb:Int)):=PH.at_le a11 (ix7 2 _ rfl)
 go_upto_region 3 with (first|((with_reducible refine isLoad ?_);(refine' ldPN (vs:=_) (hS.mle (k:=1) rfl) rfl rfl ty_agg38 rfl ?hc ?hb ?_);(case hc=>exact HCy.out);(case hb=>exact ty_sz38);(try simp only [Act.put,zE,zF,zG]))|((with_reducible refine isLoad ?_);(first|((refine' ldI1 (v:=_) hS rfl rfl ?ha rfl ?hb ?_);(case ha=>first|exact ty_agg5);(case hb=>assumption)));(try simp only [Act.put,zE,zF,zG]))|((with_reducible refine atList ?_);first|((with_reducible refine isAllocD 12 ?_);(refine' al (z:=_) hS rfl rfl ?ha ?_);(case ha=>exact ty_z38);clear hS;intro N12 w hS;(try simp only [Value.cells] at hS);(try simp only [Act.put,zE,zF,zG]))|((with_reducible refine isStore ?_);(first|(refine stN 0 hS rfl rfl rfl rfl rfl ?ha rfl rfl ?_;(case ha=>exact ty_sz38)));clear hS;intro w hS;(try simp only [zG,Act.eval,zD,zC,zA,zB,zJ,Value.cells] at hS);(try simp only [Act.put])) ))
 have hSp:=hS.perm (perm_front 0 rfl)
 simp only [List.eraseIdx_cons_zero] at hSp
 obtain ⟨I12,a12,e12,hS12,_⟩:=hSp.ice
 have ix12:Cells I12 N12 0 [nv ky.1,.slice Ay ly cy]:=(Cells.one N12 #[nv ky.1,.slice Ay ly cy] 38 (0,0)).le e12
 clear hS hSp e12
 have hS:=hS12
 clear hS12
 have f70:I12.at X7 0=some (.int .u8 (kd:Int)):=PH.at_le a12 (PH.at_le a11 (ix7 0 _ rfl))
 have f73:I12.at X7 3=some (.int .i64 v):=PH.at_le a12 (PH.at_le a11 (ix7 3 _ rfl))
 have f110:I12.at N11 0=some (nv kx.1):=PH.at_le a12 (ix11 0 _ rfl)
 have f111:I12.at N11 1=some (.slice Ax lx cx):=PH.at_le a12 (ix11 1 _ rfl)
 have f120:I12.at N12 0=some (nv ky.1):=ix12 0 _ rfl
 have f121:I12.at N12 1=some (.slice Ay ly cy):=ix12 1 _ rfl
 have r5:=((ix5.le a7).le a11).le a12
 have HIJ:=Lib.hid (PH.le.trans (PH.le.trans (PH.le.trans a5 a7) a11) a12)
 clear a5 a7 a11 a12 ix5 ix7 ix11 ix12 f71 f72
 go_upto_region 17 with (first
  | (go_at_call 29;(with_reducible refine Calls.mono (HSg.out _ _ _ HIJ.out hS) ?_);clear hS;rintro e w ⟨uA,uC,Ac,cc,Ag,cg,J2,m1,rfl,hJ2,huo,hcv,hgv,hA1,hS⟩;have HJ2:=Lib.hid hJ2;have HUo:=Lib.hid huo;have HCv:=Lib.hid hcv;have HGv:=Lib.hid hgv;have HA1:=Lib.hid hA1;have g52:J2.at X5 2=some (.slice oA q0 oC):=PH.at_le hJ2 (r5 2 _ rfl);have g73:=PH.at_le hJ2 f73;have r52:=r5.le hJ2;clear hJ2 huo hcv hgv hA1)
  | ((with_reducible refine isLoad ?_);(first|((refine' ldI1 (v:=_) hS rfl rfl ?ha rfl ?hb ?_);(case ha=>first|exact ty_agg5|exact ty_agg3);(case hb=>assumption))|((refine' ldIN (vs:=_) hS rfl rfl ?ha rfl ?hc ?hb ?_);(case ha=>first|exact ty_agg31);(case hc=>assumption);(case hb=>first|exact ty_sz31)));(try simp only [Act.put,zE,zF,zG]))
  | ((with_reducible refine atList ?_);first|((with_reducible refine isAllocD 18 ?_);(refine' al (z:=_) hS rfl rfl ?ha ?_);(case ha=>exact ty_z31);clear hS;intro N18 w hS;(try simp only [Value.cells] at hS);(try simp only [Act.put,zE,zF,zG]))|((with_reducible refine isStore ?_);(first|(refine stN 0 hS rfl rfl rfl rfl rfl ?ha rfl rfl ?_;(case ha=>exact ty_sz31)));clear hS;intro w hS;(try simp only [zG,Act.eval,zD,zC,zA,zB,zJ,Value.cells] at hS);(try simp only [Act.put])) ))
 have hSp:=hS.perm (perm_front 0 rfl)
 simp only [List.eraseIdx_cons_zero] at hSp
 obtain ⟨I18,a18,e18,hS18,_⟩:=hSp.ice
 have ix18:Cells I18 N18 0 [nv a,nv b,.slice uA qo uC,.slice Ac cq cc,.slice Ag cq cg]:=(Cells.one N18 #[nv a,nv b,.slice uA qo uC,.slice Ac cq cc,.slice Ag cq cg] 31 (0,0)).le e18
 clear hS hSp e18
 have hS:=hS18
 clear hS18
 have g5:=PH.at_le a18 g52
 have g7:=PH.at_le a18 g73
 have r53:=r52.le a18
 have HIB:=Lib.hid (PH.le.trans (PH.le.trans HIJ.out HJ2.out) a18)
 have HUo2:=Lib.hid (HUo.out.le a18)
 have HCv2:=Lib.hid (HCv.out.le a18)
 have HGv2:=Lib.hid (HGv.out.le a18)
 go_upto_region 20 with (first
  | (go_at_call 30;(with_reducible refine Calls.mono (HSd.out _ _ _ HIB.out hS) ?_);clear hS;rintro e w ⟨un,J3,rfl,hJ3,hS⟩;have HJ3:=Lib.hid hJ3;have ix3:=ix18.le hJ3;have r54:=r53.le hJ3;clear hJ3)
  | ((with_reducible refine isLoad ?_);(first|((refine' ldI1 (v:=_) hS rfl rfl ?ha rfl ?hb ?_);(case ha=>first|exact ty_agg3|exact ty_agg28);(case hb=>assumption)));(try simp only [Act.put,zE,zF,zG]))
  )
 have HID:=Lib.hid (PH.le.trans HIB.out HJ3.out)
 refine region_c1 [[],[],[],[],[2,3],[1,2,3,4],[],[0,1,2,3,4,5],[0,1,2,3,4,5,7],[0,1,2,3,4,5,6,7,8]] E J3 _
  [fun v _=>v=.agg #[nv a,nv b,.slice uA qo uC,.slice Ac cq cc,.slice Ag cq cg],fun v _=>v=.agg #[nv a,nv b,.slice uA qo uC,.slice Ac cq cc,.slice Ag cq cg],fun v _=>v=.agg #[nv a,nv b,.slice oA q0 oC,.slice A q1 c,.slice B q2 d],fun v _=>v=.slice (some ⟨K,0,none⟩) N kc,fun _ _=>True,fun _ _=>True,fun v _=>v=.bool true,fun _ _=>True,fun _ _=>True,fun v _=>v=.bool true] [4,5,7,8]
  (swpG 4 5 8 (fun m' v'=>KnAt I m' v' ks1) (fun m' v'=>KnAt I m' v' ks2) (PH.one R8 (.cells #[nv a,nv b,.slice uA qo uC,.slice Ac cq cc,.slice Ag cq cg] 31)) _) (by kernel_rfl) (by kernel_rfl) (by decide) hS rfl ?last swpG.gst (fun _ _ _ _ _ _ h=>h) ?plain ?step ?fin
 case last=>repeat (first|exact Lasting.nil|refine Lasting.cons (fun _ _ _ _ h=>h) ?_)
 case plain =>
  repeat' (first|exact trivial|apply And.intro)
  all_goals first|exact .inl rfl|skip
  all_goals
   refine .inr ?_
   intro s vals J9 bs w hstop hg hJ9 hS hG
   first
   | (refine stop_case hstop rfl ?_
      intro hs0
      subst hs0
      have hG:bs=_:=hG
      subst hG
      simp only [zH,zI,Given,Facts] at hg;simp only [textL,actL,dstAt,opAt,zH,zI,zA,zB,zK,if_true,Act.put,zE,zF,zG];refine ⟨?_⟩;refine wpStep_of (fun K hK=>?_);have HK:=Lib.hid hK;clear hK;rw [if_pos (by rfl)]
      (first|((with_reducible refine atLoad ?_);first|((refine' wp_ldiN (vs:=_) hS hJ9 ?ha rfl ?hc ?hb ?_);(case ha=>first|exact ty_agg31);(case hc=>assumption);(case hb=>first|exact ty_sz31)))|(go_wp2_with (fail)))
      refine HK.out _ _ ⟨rfl,J9,PH.le.refl _,hS,?_⟩
      clear HK
      simp only [Facts]
      simp only [outOf,zH,zI,Act.put,zE,zF,zG,zD,zC,zA,zB,zJ])
   | (simp only [zH,zI,Given,Facts] at hg;simp only [textL,actL,dstAt,opAt,zH,zI,zA,zB,zK,if_true,Act.put,zE,zF,zG,hg];refine ⟨?_⟩;refine wpStep_of (fun K hK=>?_);have HK:=Lib.hid hK;clear hK;rw [if_pos (by rfl)]
      (first|((with_reducible refine atLoad ?_);first|((refine' wp_ldiN (vs:=_) hS hJ9 ?ha rfl ?hc ?hb ?_);(case ha=>first|exact ty_agg31);(case hc=>assumption);(case hb=>first|exact ty_sz31)))|(go_wp2_with (fail)))
      refine HK.out _ _ ⟨rfl,J9,PH.le.refl _,hS,?_⟩
      clear HK
      simp only [Facts]
      simp only [outOf,zH,zI,Act.put,zE,zF,zG,zD,zC,zA,zB,zJ])
 case step =>
  refine ⟨⟨⟨⟨trivial,?_⟩,?_⟩,?_⟩,?_⟩
  · intro vals J9 bs w hg hJ9 hS hG
    have hG:bs=_:=hG
    subst hG
    simp only [zH,zI,Given,Facts] at hg;simp only [textL,actL,dstAt,opAt,zH,zI,zA,zB,zK,if_true,Act.put,zE,zF,zG,hg];refine ⟨?_⟩;refine wpStep_of (fun K hK=>?_);have HK:=Lib.hid hK;clear hK;rw [if_pos (by rfl)]
    go_wp2_with (first|(go_at_call 27;((with_reducible refine Calls.mono (HC1.out _ _ _ (PH.le.trans HID.out hJ9) (hS.perm (List.Perm.swap _ _ _))) ?_);clear hS;rintro e w2 ⟨v1,k1,rfl,hk1,hS⟩)))
    refine HK.out _ _ ⟨rfl,J9,_,PH.le.refl _,hS.perm (List.Perm.cons _ (List.Perm.swap _ _ _)),trivial,k1,?_,rfl⟩
    simp only [outOf,zD,zC,zA,zB,zJ]
    rw [upd_self]
    exact hk1
  · intro vals J9 bs w hg hJ9 hS hG
    refine Veil0.out ?_
    obtain ⟨k1,hk1,hG⟩:=hG
    subst hG
    refine ⟨?_⟩
    simp only [zH,zI,Given,Facts] at hg;simp only [textL,actL,dstAt,opAt,zH,zI,zA,zB,zK,if_true,Act.put,zE,zF,zG,hg];refine ⟨?_⟩;refine wpStep_of (fun K hK=>?_);have HK:=Lib.hid hK;clear hK;rw [if_pos (by rfl)]
    go_wp2_with (first|(go_at_call 27;((with_reducible refine Calls.mono (HC2.out _ _ _ _ _ _ _ _ (PH.le.trans HID.out hJ9) ((HUo2.out.le HJ3.out).le hJ9) ((HCv2.out.le HJ3.out).le hJ9) ((HGv2.out.le HJ3.out).le hJ9) hk1 hS) ?_);clear hS;rintro e w2 ⟨v2,k2,rfl,hk2,hS⟩)))
    refine HK.out _ _ ⟨rfl,J9,_,PH.le.refl _,hS,trivial,k1,k2,?_,rfl⟩
    simp only [outOf,zD,zC,zA,zB,zJ]
    rw [upd_self]
    exact hk2
  · intro vals J9 bs w hg hJ9 hS hG
    refine Veil0.out ?_
    obtain ⟨k1,k2,hk2,hG⟩:=hG
    subst hG
    refine ⟨?_⟩
    simp only [zH,zI,Given,Facts] at hg;simp only [textL,actL,dstAt,opAt,zH,zI,zA,zB,zK,if_true,Act.put,zE,zF,zG,hg];refine ⟨?_⟩;refine wpStep_of (fun K hK=>?_);have HK:=Lib.hid hK;clear hK;rw [if_pos (by rfl)]
    refine wp_stN hS 4 rfl rfl rfl rfl ?ha rfl ?hb fun w' hS'=>?_
    case ha=>exact ty_sz31
    case hb=>(simp [Act.eval,Value.cells,Value.oneCell'];done)
    refine HK.out _ _ ⟨rfl,J9,_,PH.le.refl _,hS',trivial,k1,k2,?_,rfl⟩
    rw [upd_ne _ _ (by decide)]
    exact hk2
  · intro vals J9 bs w hg hJ9 hS hG
    refine Veil0.out ?_
    obtain ⟨k1,k2,hk2,hG⟩:=hG
    subst hG
    refine ⟨?_⟩
    simp only [zH,zI,Given,Facts] at hg;simp only [textL,actL,dstAt,opAt,zH,zI,zA,zB,zK,if_true,Act.put,zE,zF,zG,hg];refine ⟨?_⟩;refine wpStep_of (fun K hK=>?_);have HK:=Lib.hid hK;clear hK;rw [if_pos (by rfl)]
    refine wp_as ?_
    refine HK.out _ _ ⟨rfl,J9,_,PH.le.refl _,hS,trivial,k1,k2,?_,rfl⟩
    simp only [outOf,Act.put,zE,zF,zG,zD,zC,zA,zB,zJ]
    rw [upd_self]
    exact hk2
 case fin =>
  intro vals J9 bs w hJ9 hg hS hG
  obtain ⟨k1,k2,hk2,hns⟩:=hG
  subst hns
  have HJ9:=Lib.hid hJ9
  simp only [zF,zG] at hS
  clear hJ9
  have e0:vals 0=_:=Below_.get hg 0 (by decide)
  have e1:vals 1=_:=Below_.get hg 1 (by decide)
  have e2:vals 2=_:=Below_.get hg 2 (by decide)
  have e3:vals 3=_:=Below_.get hg 3 (by decide)
  have e6:vals 6=_:=Below_.get hg 6 (by decide)
  have e9:vals 9=_:=Below_.get hg 9 (by decide)
  simp only [List.length_cons,List.length_nil,Nat.reduceAdd,textL,actL,dstAt,zA,zB,zK,if_true,Act.put,zE,zF,zG,e0,e1,e2,e3,e6,e9]
  clear e0 e1 e2 e3 e6 e9 hg
  generalize vals 8=v8 at *
  generalize vals 7=v7 at *
  generalize vals 5=v5 at *
  generalize vals 4=v4 at *
  refine ⟨?_⟩
  go_wp2_with fail
  refine bodyPost_ret (res3 rfl (rvN 4 hS rfl rfl ty_agg31 ty_sz31) (rvt rfl) (rvt rfl)) rfl ?_
  have hS9:=hS.perm (show List.Perm (k2::k1::m1::mk::_::ms) (k1::mk::_::m1::k2::ms) from by
   refine List.Perm.trans (List.Perm.swap _ _ _) ?_
   refine List.Perm.cons _ ?_
   refine List.Perm.trans (List.Perm.cons _ (List.Perm.swap _ _ _)) ?_
   refine List.Perm.trans (List.Perm.swap _ _ _) ?_
   refine List.Perm.cons _ ?_
   refine List.Perm.trans (List.Perm.cons _ (List.Perm.swap _ _ _)) ?_
   refine List.Perm.trans (List.Perm.swap _ _ _) ?_
   exact List.Perm.cons _ (List.Perm.swap _ _ _))
  exact ⟨_,_,_,_,J9,m1,k2,rfl,PH.le.trans HID.out HJ9.out,(HUo2.out.le HJ3.out).le HJ9.out,(HCv2.out.le HJ3.out).le HJ9.out,(HGv2.out.le HJ3.out).le HJ9.out,hk2.le (PH.le.trans HID.out HJ9.out),HA1.out,hS9.drop.drop.drop⟩
end Go.Proofs.YtdhkkkhnjooioaaGreat
