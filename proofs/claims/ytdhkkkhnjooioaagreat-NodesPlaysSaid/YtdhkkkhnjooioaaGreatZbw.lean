import Derived.Test.YtdhkkkhnjooioaaGreatZbt
set_option linter.unusedSimpArgs false
set_option linter.unusedVariables false
namespace Go.Proofs.YtdhkkkhnjooioaaGreat
open Go.RowKit
theorem nsame_self {E w:World} {I:PH} {ms:List PH} {v u:Value} {l:List Nat} (hl:NumR I v l) (hm:NumR I u l) (hb:l.length≤4611686018427387904) (hS:Sat E I ms w) :
 Calls Tryz.prog 15 #[v,u] w fun e w'=>e=.returned (.bool true)∧Sat E I ms w':=by
 refine (nsame_any hl hm hb hS).mono ?_
 rintro e w' ⟨rfl,h⟩
 exact ⟨by simp,h⟩
theorem bsame_self {E w:World} {I:PH} {ms:List PH} {v u:Value} {l:List Bool} (hl:BoolR I v l) (hm:BoolR I u l) (hb:l.length≤4611686018427387904) (hS:Sat E I ms w) :
 Calls Tryz.prog 17 #[v,u] w fun e w'=>e=.returned (.bool true)∧Sat E I ms w':=by
 refine (bsame_any hl hm hb hS).mono ?_
 rintro e w' ⟨rfl,h⟩
 exact ⟨by simp,h⟩
theorem order_f {E w:World} {I:PH} {ms:List PH} {S:Nat} {s:G.St} (hR:StR (heapOf w) S s) (hS:Sat E I ms w) :
 Calls Tryz.prog 16 #[vPt S] w fun e w'=>∃ v K,e=.returned v∧I.le K∧NumR K v s.vars∧Sat E K ms w':=by
 refine (sorder_any hR hS).mono ?_
 rintro e w' ⟨v,m',rfl,hO,h⟩
 obtain ⟨K,k1,k2,h2,_⟩:=h.ice
 exact ⟨v,K,rfl,k1,hO.num.le k2,h2⟩
theorem at_f {w:World} {S F B:Nat} {X:G.Tb} {s:G.St} (hR:StR (heapOf w) S s) (ok:G.StOk B s) (hk:G.Kn s F X) (hF:F<9223372036854775808) :
 Calls Tryz.prog 41 #[vPt S,nv F] w fun e w'=>∃ lo hi:Int,e=.returned (.tuple #[.int .i64 (G.topI (G.topT s.vars X)),.int .i64 lo,.int .i64 hi,.bool (G.topT s.vars X).isSome])∧Below w.heap.size w w':=by
 have ht:=hk.top ok
 cases hn:s.nd (F / 2) with
 | none =>
   rw [hn] at ht
   rw [show G.topT s.vars X=none from ht]
   refine (sat_none hR F hF hn).mono ?_
   rintro e w' ⟨rfl,h⟩
   exact ⟨0,0,rfl,h⟩
 | some n =>
   rw [hn] at ht
   rw [show G.topT s.vars X=some n.v from ht]
   refine (sat_some hR F hF hn).mono ?_
   rintro e w' ⟨rfl,h⟩
   exact ⟨_,_,rfl,h⟩
theorem table_f {E w:World} {I:PH} {ms:List PH} {S F B:Nat} {X:G.Tb} {s:G.St} (hR:StR (heapOf w) S s) (ok:G.StOk B s) (hk:G.Kn s F X) (hn:s.vars.length≤4) (hS:Sat E I ms w) :
 Calls Tryz.prog 18 #[vPt S,nv F,nv s.vars.length] w fun e w'=>∃ v K,e=.returned v∧I.le K∧BoolR K v X∧Sat E K ms w':=by
 refine (table_any hR (by have:=ok.val_lt hk.v;omega) (by omega) hk.isT (ok.tb_at hk.v hk.t) hS).mono ?_
 rintro e w' ⟨v,m',rfl,hO,h⟩
 obtain ⟨K,k1,k2,h2,_⟩:=h.ice
 exact ⟨v,K,rfl,k1,hO.boolR.le k2,h2⟩
set_option maxRecDepth 100000 in
set_option maxHeartbeats 16000000 in
theorem right_fz {E w:World} {I:PH} {ms:List PH} {S B b:Nat} {ov lv hv kv:Value} {l:List G.Tb} {h:List Nat} {s:G.St} {ks:List (Nat × G.Tb)} (hR:StR I S s) (ok:G.StOk B s) (hr:G.Rel s l h) (hl:RowsR I lv l) (hh:NumR I hv h) (hoo:NumR I ov s.vars) (hbr:s.pl.room=b) (hn:s.vars.length≤4) (hb:l.length≤1500) (hk:KnRd I I kv ks) (hkn:∀ k ∈ ks,G.Kn s k.1 k.2) (hkl:ks.length≤100)
 (HLi:∀ (w':World) (ms':List PH) (J:PH),I.le J→Sat E J ms' w'→Calls Tryz.prog 42 #[vPt S,.agg #[nv s.vars.length,nv b,ov,lv,hv]] w' fun e w''=>e=.returned (.bool true)∧Sat E J ms' w'') (hS:Sat E I ms w) :
 Calls Tryz.prog 9 #[vPt S,.agg #[nv s.vars.length,nv b,ov,lv,hv],kv] w fun e w'=>e=.returned (.bool true)∧Sat E I ms w':=by
 have hRw:=fun (w':World) (ms':List PH) (J:PH) (hJ:I.le J) (h9:Sat E J ms' w')=>hR.le (PH.le.trans hJ h9.ile)
 have HLi:=Lib.hid HLi
 have HLn:=Lib.hid (fun (w':World) (ms':List PH) (J:PH) (hJ:I.le J) (h9:Sat E J ms' w')=>show Calls Tryz.prog 11 #[vPt S] w' (fun e w''=>e=.returned (nv l.length)∧w'=w'') by rw [hr.many ok];exact slen_any (hRw w' ms' J hJ h9))
 have HDd:=Lib.hid (fun (w':World) (ms':List PH) (J:PH) (hJ:I.le J) (h9:Sat E J ms' w')=>sdead_any (hRw w' ms' J hJ h9))
 have HVr:=Lib.hid (fun (w':World) (ms':List PH) (J:PH) (hJ:I.le J) (h9:Sat E J ms' w')=>svars_any (hRw w' ms' J hJ h9))
 have HRm:=Lib.hid (fun (w':World) (ms':List PH) (J:PH) (hJ:I.le J) (h9:Sat E J ms' w')=>show Calls Tryz.prog 36 #[vPt S] w' (fun e w''=>e=.returned (nv b)∧w'=w'') by rw [← hbr];exact sroom_any (hRw w' ms' J hJ h9))
 have HOr:=Lib.hid (fun (w':World) (ms':List PH) (J:PH) (hJ:I.le J) (h9:Sat E J ms' w')=>order_f (hRw w' ms' J hJ h9) h9)
 have HSm:=Lib.hid (fun (w':World) (ms':List PH) (J:PH) (v:Value) (hJ:I.le J) (hv:NumR J v s.vars) (h9:Sat E J ms' w')=>nsame_self hv (hoo.le hJ) (by omega) h9)
 obtain ⟨cq,hcq⟩:∃ cq,(G.cntA s l h).length=cq:=⟨_,rfl⟩
 have hlive:=hr.hok.live ok
 rw [hcq,← hr.many ok] at hlive
 have hoo2:=hoo
 obtain ⟨⟨oA,oC,rfl⟩,_⟩:=hoo2
 have HCo:=Lib.hid (fun (w':World) (ms':List PH) (J:PH) (hJ:I.le J) (h9:Sat E J ms' w')=>show Calls Tryz.prog 34 #[.agg #[nv s.vars.length,nv b,.slice oA s.vars.length oC,lv,hv],.slice oA s.vars.length oC] w' (fun e w''=>∃ Ac cc K,e=.returned (.slice Ac cq cc)∧J.le K∧Sat E K ms' w'') from (rcounting_any (hl.le hJ) (hh.le hJ) hr.len (hoo.le hJ) ok.pm.ordr rfl hn hr.isT hb h9).mono (by
  rintro e w2 ⟨r,K,rfl,hK,h1,h8⟩
  obtain ⟨⟨Ac,cc,rfl⟩,_⟩:=h1.get
  exact ⟨Ac,cc,K,by rw [← hcq],hK,h8⟩))
 have hpk:∀ i,i<ks.length→∃ F X K c xb XL xc lastb hq tI tS,decide (0≤tI)=tS∧ks[i]?=some (F,X)∧kv=.slice (some ⟨K,0,none⟩) ks.length c∧I.at K (i * 2)=some (nv F)∧I.at K (i * 2+1)=some (.slice (some ⟨xb,0,none⟩) (XL+1) xc)∧XL<16∧I.at xb XL=some (.bool lastb)∧(F % 2 == 1)=!lastb∧BoolR I (.slice (some ⟨xb,0,none⟩) (XL+1) xc) X ∧
  (∀ (w':World) (ms':List PH) (J:PH),I.le J→Sat E J ms' w'→Calls Tryz.prog 37 #[vPt S,nv F] w' fun e w''=>e=.returned (.bool true)∧Sat E J ms' w'') ∧
  (∀ (w':World) (ms':List PH) (J:PH),I.le J→Sat E J ms' w'→Calls Tryz.prog 18 #[vPt S,nv F,nv s.vars.length] w' fun e w''=>∃ v K,e=.returned v∧J.le K∧BoolR K v X∧Sat E K ms' w'') ∧
  (∀ (w':World) (ms':List PH) (J:PH) (v:Value),I.le J→BoolR J v X→Sat E J ms' w'→Calls Tryz.prog 17 #[v,.slice (some ⟨xb,0,none⟩) (XL+1) xc] w' fun e w''=>e=.returned (.bool true)∧Sat E J ms' w'') ∧
  (∀ (w':World) (ms':List PH) (J:PH),I.le J→Sat E J ms' w'→Calls Tryz.prog 39 #[vPt S,nv F] w' fun e w''=>e=.returned (nv hq)∧Sat E J ms' w'') ∧
  (∀ (w':World) (ms':List PH) (J:PH),I.le J→Sat E J ms' w'→Calls Tryz.prog 40 #[.agg #[nv s.vars.length,nv b,.slice oA s.vars.length oC,lv,hv],.slice (some ⟨xb,0,none⟩) (XL+1) xc] w' fun e w''=>e=.returned (nv hq)∧Sat E J ms' w'') ∧
  (∀ (w':World) (ms':List PH) (J:PH),I.le J→Sat E J ms' w'→Calls Tryz.prog 41 #[vPt S,nv F] w' fun e w''=>∃ lo hi:Int,e=.returned (.tuple #[.int .i64 tI,.int .i64 lo,.int .i64 hi,.bool tS])∧Sat E J ms' w'') ∧
  (∀ (w':World) (ms':List PH) (J:PH),I.le J→Sat E J ms' w'→Calls Tryz.prog 24 #[.slice oA s.vars.length oC,.slice (some ⟨xb,0,none⟩) (XL+1) xc] w' fun e w''=>e=.returned (.int .i64 tI)∧Sat E J ms' w''):=fun i hi=>by
  have h1:=List.getElem?_eq_getElem hi
  obtain ⟨K,c,x,h2,h3,h4,h5,_⟩:=hk.2 i _ h1
  have kn:=hkn _ (List.getElem_mem hi)
  generalize ks[i]=kk at *
  obtain ⟨F,X⟩:=kk
  have kn:G.Kn s F X:=kn
  have h3:I.at K (i * 2)=some (nv F):=h3
  have h5:BoolR I x X:=h5
  have hX:X.length=2 ^ s.vars.length:=kn.isT
  have hp:2 ^ s.vars.length≤16:=Nat.le_trans (Nat.pow_le_pow_right (show (2:Nat) > 0 by decide) hn) (by decide)
  have hp0:=Nat.two_pow_pos s.vars.length
  have hF:=ok.val_lt kn.v
  obtain ⟨xb,xc,rfl,hxat⟩:=h5.2 (show 0<X.length by omega)
  obtain ⟨XL,hXL⟩:∃ XL,X.length=XL+1:=⟨X.length - 1,by omega⟩
  have hlast:X[XL]?=some (G.lastT X):=by
   unfold G.lastT
   rw [List.getD_eq_getElem?_getD,hXL,Nat.add_sub_cancel,List.getElem?_eq_getElem (by omega)];rfl
  have hneg:(F % 2 == 1)=!(G.lastT X):=by
   rw [← kn.t,ok.last kn.v]
   rcases Nat.mod_two_eq_zero_or_one F with e|e <;> rw [e] <;> rfl
  have hBx:=h5
  rw [hXL] at hBx h4
  refine ⟨F,X,K,c,xb,XL,xc,G.lastT X,G.heldT l h (G.normT X),G.topI (G.topT s.vars X),(G.topT s.vars X).isSome,by cases G.topT s.vars X with|none=>rfl|some v=>exact decide_eq_true (by show (0:Int)≤(v:Int);omega),h1,h2,h3,h4,by omega,hxat _ _ hlast,hneg,hBx,fun w' ms' J hJ h9=>?_,fun w' ms' J hJ h9=>?_,fun w' ms' J v hJ hv h9=>?_,fun w' ms' J hJ h9=>?_,fun w' ms' J hJ h9=>?_,fun w' ms' J hJ h9=>?_,fun w' ms' J hJ h9=>?_⟩
  · refine (sis_nat (hRw w' ms' J hJ h9) F (by omega)).mono ?_
    rintro e w2 ⟨rfl,h7⟩
    exact ⟨by rw [G.is_nat kn.v],h9.below_ h7⟩
  · exact table_f (hRw w' ms' J hJ h9) ok kn hn h9
  · exact bsame_self hv (hBx.le hJ) (by omega) h9
  · refine (sheld_any (hRw w' ms' J hJ h9) (F:Int) (by omega)).mono ?_
    rintro e w2 ⟨rfl,h7⟩
    exact ⟨by rw [kn.held ok hr],h9.below_ h7⟩
  · exact rheld_any (hl.le hJ) (hh.le hJ) hr.len (fun y hy=>by rw [show y.length=2 ^ s.vars.length from hr.isT y hy];omega) (hBx.le hJ) hX (by omega) (by omega) h9
  · refine (at_f (hRw w' ms' J hJ h9) ok kn (by omega)).mono ?_
    rintro e w2 ⟨lo,hi,rfl,h7⟩
    exact ⟨lo,hi,rfl,h9.below_ h7⟩
  · exact rtop_any (hoo.le hJ) (hBx.le hJ) hX ok.pm.ordr.lt (by omega) (by omega) h9
 have hpair:∀ (i k:Nat) (ki kk:Nat × G.Tb),ks[i]?=some ki→ks[k]?=some kk→((kk.1:Int) == (ki.1:Int))=decide (kk.2=ki.2):=fun i k ki kk h1 h2=>by
  have k1:=hkn _ (List.mem_of_getElem? h1)
  have k2:=hkn _ (List.mem_of_getElem? h2)
  have:=ok.tb_inj k2.v k1.v
  rw [k2.t,k1.t] at this
  by_cases e:kk.2=ki.2
  · rw [decide_eq_true e,this.1 e];simp
  · rw [decide_eq_false e]
    exact beq_eq_false_iff_ne.2 fun h=>e (this.2 (by omega))
 have Hpk:=Lib.hid hpk
 have Hpair:=Lib.hid hpair
 have HBk:=Lib.hid (fun (w':World) (ms':List PH) (J:PH) (x y:Value) (X Y:G.Tb) (hx:BoolR J x X) (hy:BoolR J y Y) (hX:X.length≤4611686018427387904) (h9:Sat E J ms' w')=>bsame_any hx hy hX h9)
 have hkT:∀ (i:Nat) (k:Nat × G.Tb),ks[i]?=some k→k.2.length≤16:=fun i k h1=>by
  have kn:=hkn _ (List.mem_of_getElem? h1)
  have hp:2 ^ s.vars.length≤16:=Nat.le_trans (Nat.pow_le_pow_right (show (2:Nat) > 0 by decide) hn) (by decide)
  rw [show k.2.length=2 ^ s.vars.length from kn.isT]
  exact hp
 have HkT:=Lib.hid hkT
 obtain ⟨⟨A,c,rfl⟩,_⟩:=hl.get
 obtain ⟨⟨B2,d,rfl⟩,_⟩:=hh
 obtain ⟨⟨K0,kc,rfl⟩,_⟩:=hk
 clear hR ok hr hl hoo hbr hkn hRw hpk hpair hkT hcq
 generalize hvs:s.vars=vs at *
 clear hvs
 generalize vs.length=n at *
 generalize l.length=q1 at *
 generalize h.length=q2 at *
 generalize s.dead=dd at *
 generalize hN:ks.length=N at *
 clear hN
 have hsub:(q1:Int) - (cq:Int)=(dd:Int):=by omega
 clear hlive
 go_enter Tryz.func9,Tryz.ntmps9
 go_upto_region 1 with (first|((with_reducible refine atList ?_);  ((with_reducible refine isBoxD 4 ?_);refine bx hS rfl rfl rfl ?_;clear hS;intro X4 w hS;(try simp only [Act.eval,zD,zC,zA,zB,zJ,Value.cells] at hS);(try simp only [Act.put,zE,zF,zG])) ))
 have hSp:=hS.perm (perm_front 0 rfl)
 simp only [List.eraseIdx_cons_zero] at hSp
 obtain ⟨I4,a4,e4,hS4,_⟩:=hSp.ice
 have ix4:Cells I4 X4 0 [nv n,nv b,.slice oA n oC,.slice A q1 c,.slice B2 q2 d]:=(Cells.one X4 #[nv n,nv b,.slice oA n oC,.slice A q1 c,.slice B2 q2 d] 31 (0,0)).le e4
 clear hS hSp e4
 have hS:=hS4
 clear hS4
 have HI4:=Lib.hid a4
 have f0:I4.at X4 0=some (nv n):=ix4 0 _ rfl
 have f1:I4.at X4 1=some (nv b):=ix4 1 _ rfl
 have f2:I4.at X4 2=some (.slice oA n oC):=ix4 2 _ rfl
 have f3:I4.at X4 3=some (.slice A q1 c):=ix4 3 _ rfl
 refine region_f0 [[],[0],[],[2],[2,3],[0,1,2,3,4],[0,1,2,3,4,5],[0,1,2,3,4,5,6],[0,1,2,3,4,5,6,7],[0,1,2,3,4,5,6],[0,1,2,3,4,5,6,9],[0,1,2,3,4,5,6,9,10],[0,1,2,3,4,5,6],[0,1,2,3,4,5,6],[0,1,2,3,4,5,6,13],[0,1,2,3,4,5,6,7,8,12,13,14],[0,1,2,3,4,5,6,7,8,12,13,14,15],[0,1,2,3,4,5,6,7,8,9,10,11,12,13,14,15,16],[0,1,2,3,4,5,6,7,8,9,10,11,12,13,14,15,16,17],[0,1,2,3,4,5,6,7,8,9,10,11,12,13,14,15,16,17,18],[0,1,2,3,4,5,6,7,8,9,10,11,12,13,14,15,16,17,18,19],[0,1,2,3,4,5,6,7,8,9,10,11,12,13,14,15,16,17,18,19,20],[0,1,2,3,4,5,6,7,8,9,10,11,12,13,14,15,16,17,18,19,20,21],[0,1,2,3,4,5,6,7,8,9,10,11,12,13,14,15,16,17,18,19,20],[0,1,2,3,4,5,6,7,8,9,10,11,12,13,14,15,16,17,18,19,20,23],[0,1,2,3,4,5,6,7,8,9,10,11,12,13,14,15,16,17,18,19,20,21,22,23,24],[0,1,2,3,4,5,6,7,8,9,10,11,12,13,14,15,16,17,18,19,20,21,22,23,24,25],[0,1,2,3,4,5,6,7,8,9,10,11,12,13,14,15,16,17,18,19,20,21,22,23,24,25,26],[0,1,2,3,4,5,6,7,8,9,10,11,12,13,14,15,16,17,18,19,20,21,22,23,24,25,26,27],[0,1,2,3,4,5,6,7,8,9,10,11,12,13,14,15,16,17,18,19,20,21,22,23,24,25,26,27,28],[0,1,2,3,4,5,6,7,8,9,10,11,12,13,14,15,16,17,18,19,20,21,22,23,24,25,26,27,28,29],[0,1,2,3,4,5,6,7,8,9,10,11,12,13,14,15,16,17,18,19,20,21,22,23,24,25,26,27,28],[0,1,2,3,4,5,6,7,8,9,10,11,12,13,14,15,16,17,18,19,20,21,22,23,24,25,26,27,28,31],[0,1,2,3,4,5,6,7,8,9,10,11,12,13,14,15,16,17,18,19,20,21,22,23,24,25,26,27,28,29,30,31,32],[0,1,2,3,4,5,6,7,8,9,10,11,12,13,14,15,16,17,18,19,20,21,22,23,24,25,26,27,28,29,30,31,32,33],[0,1,2,3,4,5,6,7,8,9,10,11,12,13,14,15,16,17,18,19,20,21,22,23,24,25,26,27,28,29,30,31,32,33,34],[0,1,2,3,4,5,6,7,8,9,10,11,12,13,14,15,16,17,18,19,20,21,22,23,24,25,26,27,28,29,30,31,32,33,34,35],[0,1,2,3,4,5,6,7,8,9,10,11,12,13,14,15,16,17,18,19,20,21,22,23,24,25,26,27,28,29,30,31,32,33,34,35,36],[0,1,2,3,4,5,6,7,8,9,10,11,12,13,14,15,16,17,18,19,20,21,22,23,24,25,26,27,28,29,30,31,32,33,34,35],[0,1,2,3,4,5,6,7,8,9,10,11,12,13,14,15,16,17,18,19,20,21,22,23,24,25,26,27,28,29,30,31,32,33,34,35,38],[0,1,2,3,4,5,6,7,8,9,10,11,12,13,14,15,16,17,18,19,20,21,22,23,24,25,26,27,28,29,30,31,32,33,34,35,36,37,38,39],[0,1,2,3,4,5,6,7,8,9,10,11,12,13,14,15,16,17,18,19,20,21,22,23,24,25,26,27,28,29,30,31,32,33,34,35,36,37,38,39,40]] E I4 _
  [fun v _=>v=vPt S,fun v _=>v=nv q1,fun v _=>v=.pointer (some ⟨X4,3,none⟩),fun v _=>v=.slice A q1 c,fun v _=>v=nv q1,fun v _=>v=.bool false,fun v _=>v=.bool false,fun v _=>v=vPt S,fun v _=>v=nv dd,fun v _=>v=.pointer (some ⟨X4,3,none⟩),fun v _=>v=.slice A q1 c,fun v _=>v=nv q1,fun v _=>v=.agg #[nv n,nv b,.slice oA n oC,.slice A q1 c,.slice B2 q2 d],fun v _=>v=.pointer (some ⟨X4,2,none⟩),fun v _=>v=.slice oA n oC,fun v _=>∃ Ac cc,v=.slice Ac cq cc,fun v _=>v=nv cq,fun v _=>v=nv dd,fun v _=>v=.bool false,fun v _=>v=.bool false,fun v _=>v=.bool false,fun v _=>v=vPt S,fun v J=>NumR J v vs,fun v _=>v=.pointer (some ⟨X4,2,none⟩),fun v _=>v=.slice oA n oC,fun v _=>v=.bool true,fun v _=>v=.bool false,fun v _=>v=.bool false,fun v _=>v=.bool false,fun v _=>v=vPt S,fun v _=>v=nv n,fun v _=>v=.pointer (some ⟨X4,0,none⟩),fun v _=>v=nv n,fun v _=>v=.bool false,fun v _=>v=.bool false,fun v _=>v=.bool false,fun v _=>v=vPt S,fun v _=>v=nv b,fun v _=>v=.pointer (some ⟨X4,1,none⟩),fun v _=>v=nv b,fun v _=>v=.bool false,fun v _=>v=.bool false] (by kernel_rfl) (by kernel_rfl) hS ?_ ?plain ?fin
 · repeat (first|exact Lasting.nil|refine Lasting.cons (fun _ _ _ _ h=>h) ?_|refine Lasting.cons (fun v I9 J9 h9 h=>NumR.le h h9) ?_ )
 case plain =>
  repeat' (first|exact trivial|apply And.intro)
  rotate_left 16
  · refine .inr ?_
    intro vals J9 bs w hg hJ9 hS
    obtain ⟨Ac,cc,e15⟩:∃ Ac cc,vals 15=.slice Ac cq cc:=hg.get 15 (by decide)
    have e6:vals 6=_:=hg.get 6 (by decide)
    simp only [textL,actL,dstAt,opAt,zH,zI,zA,zB,zK,if_true,Act.put,zE,zF,zG,e15,e6]
    refine ⟨?_⟩
    refine wpStep_of (fun K hK=>?_)
    have HK:=Lib.hid hK
    clear hK
    rw [if_pos (by rfl)]
    go_wp2_with fail
    refine HK.out _ _ ⟨rfl,J9,PH.le.refl _,hS,?_⟩
    clear HK
    simp only [Facts]
    simp only [outOf,zH,zI,zD,zC,zA,zB,zJ]
  rotate_left 8
  · refine .inr ?_
    intro vals J9 bs w hg hJ9 hS
    have hx:NumR J9 (vals 22) vs:=hg.get 22 (by decide)
    have hg:=hg
    simp only [zH,zI,Given,Facts] at hg;simp only [textL,actL,dstAt,opAt,zH,zI,zA,zB,zK,if_true,Act.put,zE,zF,zG,hg];refine ⟨?_⟩;refine wpStep_of (fun K hK=>?_);have HK:=Lib.hid hK;clear hK;rw [if_pos (by rfl)]
    go_wp2_with (first|(go_at_call 15;((with_reducible refine Calls.mono (HSm.out _ _ _ _ (PH.le.trans HI4.out hJ9) hx hS) ?_);clear hS;rintro e w2 ⟨rfl,hS⟩)))
    refine HK.out _ _ ⟨rfl,J9,PH.le.refl _,hS,?_⟩
    clear HK
    simp only [Facts]
    simp only [outOf,zH,zI,zD,zC,zA,zB,zJ]
  all_goals
   refine .inr ?_
   intro vals J9 bs w hg hJ9 hS
   simp only [zH,zI,Given,Facts] at hg;simp only [textL,actL,dstAt,opAt,zH,zI,zA,zB,zK,if_true,Act.put,zE,zF,zG,hg];refine ⟨?_⟩;refine wpStep_of (fun K hK=>?_);have HK:=Lib.hid hK;clear hK;rw [if_pos (by rfl)]
   (first|((with_reducible refine atLoad ?_);first|((refine' wp_ldi1 (v:=_) hS hJ9 ?ha rfl ?hc ?_);(case ha=>first|exact ty_agg3|exact ty_agg28|exact ty_agg29);(case hc=>assumption))|((refine' wp_ldiN (vs:=_) hS hJ9 ?ha rfl ?hc ?hb ?_);(case ha=>first|exact ty_agg31);(case hc=>assumption);(case hb=>first|exact ty_sz31)))|(go_wp2_with (first|(go_at_call 11;((with_reducible refine Calls.mono (HLn.out _ _ _ (PH.le.trans HI4.out hJ9) hS) ?_);rintro e w2 ⟨rfl,rfl⟩))|(go_at_call 12;((with_reducible refine Calls.mono (HDd.out _ _ _ (PH.le.trans HI4.out hJ9) hS) ?_);rintro e w2 ⟨rfl,rfl⟩))|(go_at_call 35;((with_reducible refine Calls.mono (HVr.out _ _ _ (PH.le.trans HI4.out hJ9) hS) ?_);rintro e w2 ⟨rfl,rfl⟩))|(go_at_call 36;((with_reducible refine Calls.mono (HRm.out _ _ _ (PH.le.trans HI4.out hJ9) hS) ?_);rintro e w2 ⟨rfl,rfl⟩))|(go_at_call 16;((with_reducible refine Calls.mono (HOr.out _ _ _ (PH.le.trans HI4.out hJ9) hS) ?_);clear hS;rintro e w2 ⟨v2,K2,rfl,hJ2,hnum,hS⟩))|(go_at_call 34;((with_reducible refine Calls.mono (HCo.out _ _ _ (PH.le.trans HI4.out hJ9) hS) ?_);clear hS;rintro e w2 ⟨Ac,cc,K2,rfl,hJ2,hS⟩)))))
   (first|refine HK.out _ _ ⟨rfl,J9,PH.le.refl _,hS,?_⟩|refine HK.out _ _ ⟨rfl,_,hJ2,hS,?_⟩)
   clear HK
   simp only [Facts]
   simp only [outOf,zH,zI,Act.put,zE,zF,zG,zD,zC,zA,zB,zJ]
   (first|done|exact ⟨_,_,rfl⟩|exact hnum)
 case fin =>
  clear hS
  intro vals J w hJ hg hS
  have hS:=hS.less hJ
  simp only [List.length_cons,List.length_nil,Nat.reduceAdd,Below_,Facts,zH,zI,true_and] at hg;simp only [List.length_cons,List.length_nil,Nat.reduceAdd,textL,actL,dstAt,zA,zB,zK,if_true,Act.put,zE,zF,zG,hg];refine ⟨?_⟩
  clear hg hJ
  generalize vals 15=v15 at *
  generalize vals 22=v22 at *
  go_wp2_with fail
  go_loopw [7,8,9,10,11,12,13] (fun v7 _ _ _ _ _ _ wr=>∃ i:Nat,i≤N∧v7=.int .i64 (i:Int)∧Sat E I4 ms wr) (fun v7 _ _ _ _ _ _ _=>(N - intOf v7).toNat)
  case atStart=>exact ⟨0,Nat.zero_le _,rfl,hS⟩
  case round =>
  clear hS
  obtain ⟨i,hi,rfl,hS⟩:=hrel
  by_cases hlt:i<N
  case neg =>
   have hie:i=N:=by omega
   subst hie
   have ii:¬ (i:Int)<(i:Int):=by omega
   go_wp2_with (first|(go_at_call 42;((with_reducible refine Calls.mono (HLi.out _ _ _ HI4.out hS) ?_);clear hS;rintro e w2 ⟨rfl,hS⟩))|((with_reducible refine isLoad ?_);(first|((refine' ldIN (vs:=_) hS rfl rfl ?ha rfl ?hc ?hb ?_);(case ha=>first|exact ty_agg31);(case hc=>assumption);(case hb=>first|exact ty_sz31)));(try simp only [Act.put,zE,zF,zG])))
   go_ret
   exact ⟨rfl,hS.less HI4.out⟩
  case pos =>
   obtain ⟨F,X,K,kc9,xb,XL,xc,lastb,hq,tI,tS,hts,hki,e9,hF,hx,hXL,hlb,hneg,hBx,HIs,HTb,HBs,HHd,HHo,HAt,HTp⟩:=Hpk.out i hlt
   injection e9 with e1 e2 e3
   subst e1 e3
   clear e2
   have HIs:=Lib.hid HIs
   have HTb:=Lib.hid HTb
   have HBs:=Lib.hid HBs
   have HHd:=Lib.hid HHd
   have HHo:=Lib.hid HHo
   have HAt:=Lib.hid HAt
   have HTp:=Lib.hid HTp
   have HBx:=Lib.hid hBx
   have Hki:=Lib.hid hki
   have HNg:=Lib.hid (fun w':World=>show Calls Tryz.prog 38 #[nv F] w' (fun e w''=>e=.returned (.bool (!lastb))∧w'=w'') by rw [← hneg];exact eneg_any (w:=w') F)
   have ii:(i:Int)<(N:Int):=by omega
   have jF:=PH.at_le HI4.out hF
   have jx:=PH.at_le HI4.out hx
   have jl:=PH.at_le HI4.out hlb
   have hXi:(XL:Int)+1 - 1=(XL:Int):=by omega
   have hXj:(XL:Int)<(XL:Int)+1:=by omega
   clear hki hF hx hlb hneg hBx
   go_upto_region 7 with ((with_reducible refine isLoad ?_);(first|((refine' ldI1 (v:=_) hS rfl rfl ?ha rfl ?hb ?_);(case ha=>first|exact ty_agg35);(case hb=>assumption)));(try simp only [Act.put,zE,zF,zG]))
   refine region_f0 [[],[],[],[1,2],[1,2,3],[1,2,3,4],[0,1,2,3,4,5],[0,1,2,3,4,5,6],[0,1,2,3,4,5,6,7],[0,1,2,3,4,5,6,7,8],[0,1,2,3,4,5,6,7,8],[0,1,2,3,4,5,6,7,8,9,10],[0,1,2,3,4,5,6,7,8,9,10,11],[0,1,2,3,4,5,6,7,8,9,10,11,12],[0,1,2,3,4,5,6,7,8,9,10,11,12,13],[0,1,2,3,4,5,6,7,8],[0,1,2,3,4,5,6,7,8],[0,1,2,3,4,5,6,7,8,16],[0,1,2,3,4,5,6,7,8,16,17],[0,1,2,3,4,5,6,7,8,15,16,17,18],[0,1,2,3,4,5,6,7,8,15,16,17,18,19],[0,1,2,3,4,5,6,7,8,15,16,17,18,19,20],[0,1,2,3,4,5,6,7,8,9,10,11,12,13,14,15,16,17,18,19,20,21],[0,1,2,3,4,5,6,7,8,9,10,11,12,13,14,15,16,17,18,19,20,21,22],[0,1,2,3,4,5,6,7,8,9,10,11,12,13,14,15,16,17,18,19,20,21,22,23],[0,1,2,3,4,5,6,7,8,9,10,11,12,13,14,15,16,17,18,19,20,21,22,23,24],[0,1,2,3,4,5,6,7,8,9,10,11,12,13,14,15,16,17,18,19,20,21,22,23,24],[0,1,2,3,4,5,6,7,8,9,10,11,12,13,14,15,16,17,18,19,20,21,22,23,24],[0,1,2,3,4,5,6,7,8,9,10,11,12,13,14,15,16,17,18,19,20,21,22,23,24,26,27],[0,1,2,3,4,5,6,7,8,9,10,11,12,13,14,15,16,17,18,19,20,21,22,23,24,26,27,28],[0,1,2,3,4,5,6,7,8,9,10,11,12,13,14,15,16,17,18,19,20,21,22,23,24,26,27,28,29],[0,1,2,3,4,5,6,7,8,9,10,11,12,13,14,15,16,17,18,19,20,21,22,23,24],[0,1,2,3,4,5,6,7,8,9,10,11,12,13,14,15,16,17,18,19,20,21,22,23,24,31],[0,1,2,3,4,5,6,7,8,9,10,11,12,13,14,15,16,17,18,19,20,21,22,23,24,25,26,27,28,29,30,31,32],[0,1,2,3,4,5,6,7,8,9,10,11,12,13,14,15,16,17,18,19,20,21,22,23,24],[0,1,2,3,4,5,6,7,8,9,10,11,12,13,14,15,16,17,18,19,20,21,22,23,24,25,26,27,28,29,30,31,32,33,34],[0,1,2,3,4,5,6,7,8,9,10,11,12,13,14,15,16,17,18,19,20,21,22,23,24,25,26,27,28,29,30,31,32,33,34,35],[0,1,2,3,4,5,6,7,8,9,10,11,12,13,14,15,16,17,18,19,20,21,22,23,24,25,26,27,28,29,30,31,32,33,34,35,36],[0,1,2,3,4,5,6,7,8,9,10,11,12,13,14,15,16,17,18,19,20,21,22,23,24,25,26,27,28,29,30,31,32,33,34,35,36,37],[0,1,2,3,4,5,6,7,8,9,10,11,12,13,14,15,16,17,18,19,20,21,22,23,24,25,26,27,28,29,30,31,32,33,34,35,36,37,38],[0,1,2,3,4,5,6,7,8,9,10,11,12,13,14,15,16,17,18,19,20,21,22,23,24,25,26,27,28,29,30,31,32,33,34,35,36,37,38],[0,1,2,3,4,5,6,7,8,9,10,11,12,13,14,15,16,17,18,19,20,21,22,23,24,25,26,27,28,29,30,31,32,33,34,35,36,37,38],[0,1,2,3,4,5,6,7,8,9,10,11,12,13,14,15,16,17,18,19,20,21,22,23,24,25,26,27,28,29,30,31,32,33,34,35,36,37,38,40,41],[0,1,2,3,4,5,6,7,8,9,10,11,12,13,14,15,16,17,18,19,20,21,22,23,24,25,26,27,28,29,30,31,32,33,34,35,36,37,38,40,41,42],[0,1,2,3,4,5,6,7,8,9,10,11,12,13,14,15,16,17,18,19,20,21,22,23,24,25,26,27,28,29,30,31,32,33,34,35,36,37,38,40,41,42,43],[0,1,2,3,4,5,6,7,8,9,10,11,12,13,14,15,16,17,18,19,20,21,22,23,24,25,26,27,28,29,30,31,32,33,34,35,36,37,38,39,40,41,42,43,44],[0,1,2,3,4,5,6,7,8,9,10,11,12,13,14,15,16,17,18,19,20,21,22,23,24,25,26,27,28,29,30,31,32,33,34,35,36,37,38],[0,1,2,3,4,5,6,7,8,9,10,11,12,13,14,15,16,17,18,19,20,21,22,23,24,25,26,27,28,29,30,31,32,33,34,35,36,37,38],[0,1,2,3,4,5,6,7,8,9,10,11,12,13,14,15,16,17,18,19,20,21,22,23,24,25,26,27,28,29,30,31,32,33,34,35,36,37,38,39,40,41,42,43,44,45,46,47],[0,1,2,3,4,5,6,7,8,9,10,11,12,13,14,15,16,17,18,19,20,21,22,23,24,25,26,27,28,29,30,31,32,33,34,35,36,37,38,39,40,41,42,43,44,45,46,47,48],[0,1,2,3,4,5,6,7,8,9,10,11,12,13,14,15,16,17,18,19,20,21,22,23,24,25,26,27,28,29,30,31,32,33,34,35,36,37,38,39,40,41,42,43,44,45,46,47,48,49]] E I4 _
    [fun v _=>v=vPt S,fun v _=>v=.slice (some ⟨K,0,none⟩) N kc,fun v _=>v=nv i,fun v _=>v=.pointer (some ⟨K,i * 2,none⟩),fun v _=>v=.pointer (some ⟨K,i * 2,none⟩),fun v _=>v=nv F,fun v _=>v=.bool true,fun v _=>v=.bool false,fun v _=>v=.bool false,fun v _=>v=.slice (some ⟨K,0,none⟩) N kc,fun v _=>v=nv i,fun v _=>v=.pointer (some ⟨K,i * 2,none⟩),fun v _=>v=.pointer (some ⟨K,i * 2,none⟩),fun v _=>v=nv F,fun v _=>v=.bool (!lastb),fun v _=>v=.slice (some ⟨xb,0,none⟩) (XL+1) xc,fun v _=>v=.slice (some ⟨xb,0,none⟩) (XL+1) xc,fun v _=>v=.int .i64 ((XL:Int)+1),fun v _=>v=nv XL,fun v _=>v=.pointer (some ⟨xb,XL,none⟩),fun v _=>v=.bool lastb,fun v _=>v=.bool (!lastb),fun v _=>v=.bool false,fun v _=>v=.bool false,fun v _=>v=.bool false,fun v _=>v=vPt S,fun v _=>v=.slice (some ⟨K,0,none⟩) N kc,fun v _=>v=nv i,fun v _=>v=.pointer (some ⟨K,i * 2,none⟩),fun v _=>v=.pointer (some ⟨K,i * 2,none⟩),fun v _=>v=nv F,fun v _=>v=.pointer (some ⟨X4,0,none⟩),fun v _=>v=nv n,fun v J=>BoolR J v X,fun v _=>v=.slice (some ⟨xb,0,none⟩) (XL+1) xc,fun v _=>v=.bool true,fun v _=>v=.bool false,fun v _=>v=.bool false,fun v _=>v=.bool false,fun v _=>v=vPt S,fun v _=>v=.slice (some ⟨K,0,none⟩) N kc,fun v _=>v=nv i,fun v _=>v=.pointer (some ⟨K,i * 2,none⟩),fun v _=>v=.pointer (some ⟨K,i * 2,none⟩),fun v _=>v=nv F,fun v _=>v=nv hq,fun v _=>v=.agg #[nv n,nv b,.slice oA n oC,.slice A q1 c,.slice B2 q2 d],fun v _=>v=.slice (some ⟨xb,0,none⟩) (XL+1) xc,fun v _=>v=nv hq,fun v _=>v=.bool false,fun v _=>v=.bool false] (by kernel_rfl) (by kernel_rfl) hS ?_ ?plain ?fin
   · repeat (first|exact Lasting.nil|refine Lasting.cons (fun _ _ _ _ h=>h) ?_|refine Lasting.cons (fun v I9 J9 h9 h=>BoolR.le h h9) ?_)
   case plain =>
    repeat' (first|exact trivial|apply And.intro)
    rotate_left 35
    · refine .inr ?_
      intro vals J9 bs w hg hJ9 hS
      have hx:BoolR J9 (vals 33) X:=hg.get 33 (by decide)
      have hg:=hg
      simp only [zH,zI,Given,Facts] at hg;simp only [textL,actL,dstAt,opAt,zH,zI,zA,zB,zK,if_true,Act.put,zE,zF,zG,hg];refine ⟨?_⟩;refine wpStep_of (fun K hK=>?_);have HK:=Lib.hid hK;clear hK;rw [if_pos (by rfl)]
      go_wp2_with (first|(go_at_call 17;((with_reducible refine Calls.mono (HBs.out _ _ _ _ (PH.le.trans HI4.out hJ9) hx hS) ?_);clear hS;rintro e w2 ⟨rfl,hS⟩)))
      refine HK.out _ _ ⟨rfl,J9,PH.le.refl _,hS,?_⟩
      clear HK
      simp only [Facts]
      simp only [outOf,zH,zI,zD,zC,zA,zB,zJ]
    all_goals
     refine .inr ?_
     intro vals J9 bs w hg hJ9 hS
     simp only [zH,zI,Given,Facts] at hg;simp only [textL,actL,dstAt,opAt,zH,zI,zA,zB,zK,if_true,Act.put,zE,zF,zG,hg];refine ⟨?_⟩;refine wpStep_of (fun K hK=>?_);have HK:=Lib.hid hK;clear hK;rw [if_pos (by rfl)]
     (first|((with_reducible refine atLoad ?_);first|((refine' wp_ldi1 (v:=_) hS hJ9 ?ha rfl ?hc ?_);(case ha=>first|exact ty_agg3|exact ty_agg34|exact ty_agg4);(case hc=>assumption))|((refine' wp_ldiN (vs:=_) hS hJ9 ?ha rfl ?hc ?hb ?_);(case ha=>first|exact ty_agg31);(case hc=>assumption);(case hb=>first|exact ty_sz31)))|(go_wp2_with (first|(go_at_call 37;((with_reducible refine Calls.mono (HIs.out _ _ _ (PH.le.trans HI4.out hJ9) hS) ?_);clear hS;rintro e w2 ⟨rfl,hS⟩))|(go_at_call 38;((with_reducible refine Calls.mono (HNg.out _) ?_);rintro e w2 ⟨rfl,rfl⟩))|(go_at_call 18;((with_reducible refine Calls.mono (HTb.out _ _ _ (PH.le.trans HI4.out hJ9) hS) ?_);clear hS;rintro e w2 ⟨v2,K2,rfl,hJ2,hbool,hS⟩))|(go_at_call 39;((with_reducible refine Calls.mono (HHd.out _ _ _ (PH.le.trans HI4.out hJ9) hS) ?_);clear hS;rintro e w2 ⟨rfl,hS⟩))|(go_at_call 40;((with_reducible refine Calls.mono (HHo.out _ _ _ (PH.le.trans HI4.out hJ9) hS) ?_);clear hS;rintro e w2 ⟨rfl,hS⟩)))))
     (first|refine HK.out _ _ ⟨rfl,J9,PH.le.refl _,hS,?_⟩|refine HK.out _ _ ⟨rfl,_,hJ2,hS,?_⟩)
     clear HK
     simp only [Facts]
     simp only [outOf,zH,zI,Act.put,zE,zF,zG,zD,zC,zA,zB,zJ]
     (first|done|exact hbool)
   case fin =>
    clear hS
    intro vals J w hJ hg hS
    have hS:=hS.less hJ
    simp only [List.length_cons,List.length_nil,Nat.reduceAdd,Below_,Facts,zH,zI,true_and] at hg;simp only [List.length_cons,List.length_nil,Nat.reduceAdd,textL,actL,dstAt,zA,zB,zK,if_true,Act.put,zE,zF,zG,hg];refine ⟨?_⟩
    clear hg hJ
    generalize vals 33=v33 at *
    go_wp2_with (first
     | (go_at_call 41;((with_reducible refine Calls.mono (HAt.out _ _ _ HI4.out hS) ?_);clear hS;rintro e w2 ⟨lo,hi2,rfl,hS⟩))
     | (go_at_call 24;((with_reducible refine Calls.mono (HTp.out _ _ _ HI4.out hS) ?_);clear hS;rintro e w2 ⟨rfl,hS⟩))
     | ((with_reducible refine isLoad ?_);(first|((refine' ldI1 (v:=_) hS rfl rfl ?ha rfl ?hb ?_);(case ha=>first|exact ty_agg34|exact ty_agg28);(case hb=>assumption)));(try simp only [Act.put,zE,zF,zG]))
     | ((with_reducible refine atList ?_);((with_reducible refine isGuard ?_);  ((with_reducible refine guarded_yes ?hw ?_);case hw=>(simp only [Region.wanted,yielded,zC,zA,zB,zK,beq_self_eq_true];done)) )))
    go_loopw [13] (fun v13 wr=>∃ k:Nat,k≤i∧v13=.int .i64 (k:Int)∧Sat E I4 ms wr) (fun v13 _=>(i - intOf v13).toNat)
    case atStart=>exact ⟨0,Nat.zero_le _,rfl,hS⟩
    case round =>
    clear hS
    obtain ⟨k,hk,rfl,hS⟩:=hrel
    by_cases hki2:k<i
    case neg =>
     have hie:k=i:=by omega
     subst hie
     have kk:¬ (k:Int)<(k:Int):=by omega
     go_wp2_with fail
     exact ⟨⟨k+1,by omega,by go_num,hS⟩,by simp [intOf];omega⟩
    case pos =>
     obtain ⟨Fk,Xk,K9,kc9,yb,YL,yc,_,_,_,_,_,hkk,e9,hFk,hyk,hYL,_,_,hBk,_,_,_,_,_,_,_⟩:=Hpk.out k (by omega)
     injection e9 with e1 e2 e3
     injection e1 with e1
     injection e1 with e1
     subst e1 e3
     clear e2
     have hbk:((Fk:Int) == (F:Int))=decide (Xk=X):=Hpair.out i k (F,X) (Fk,Xk) Hki.out hkk
     have hlk:=HkT.out k _ hkk
     generalize hbd:decide (Xk=X)=bk at *
     have HBk2:=Lib.hid (fun (w':World) (ms':List PH) (J:PH) (hJ:I.le J) (h9:Sat E J ms' w')=>show Calls Tryz.prog 17 #[.slice (some ⟨yb,0,none⟩) (YL+1) yc,.slice (some ⟨xb,0,none⟩) (XL+1) xc] w' (fun e w''=>e=.returned (.bool bk)∧Sat E J ms' w'') by rw [← hbd];exact HBk.out w' ms' J _ _ Xk X (hBk.le hJ) (HBx.out.le hJ) (Nat.le_trans hlk (by decide)) h9)
     have ki:(k:Int)<(i:Int):=by omega
     have kN:(k:Int)<(N:Int):=by omega
     have jFk:=PH.at_le HI4.out hFk
     have jyk:=PH.at_le HI4.out hyk
     clear hkk hFk hyk hBk hlk hbd
     go_upto_region 15 with fail
     refine region_f0 [[],[],[0,1],[0,1,2],[0,1,2,3],[],[],[5,6],[5,6,7],[5,6,7,8],[0,1,2,3,4,5,6,7,8,9],[],[],[11,12],[11,12,13],[11,12,13,14],[],[11,12,13,14,15,16],[0,1,2,3,4,5,6,7,8,9,10,11,12,13,14,15,16,17]] E I4 _
      [fun v _=>v=.slice (some ⟨K,0,none⟩) N kc,fun v _=>v=nv k,fun v _=>v=.pointer (some ⟨K,k * 2,none⟩),fun v _=>v=.pointer (some ⟨K,k * 2,none⟩),fun v _=>v=nv Fk,fun v _=>v=.slice (some ⟨K,0,none⟩) N kc,fun v _=>v=nv i,fun v _=>v=.pointer (some ⟨K,i * 2,none⟩),fun v _=>v=.pointer (some ⟨K,i * 2,none⟩),fun v _=>v=nv F,fun v _=>v=.bool bk,fun v _=>v=.slice (some ⟨K,0,none⟩) N kc,fun v _=>v=nv k,fun v _=>v=.pointer (some ⟨K,k * 2,none⟩),fun v _=>v=.pointer (some ⟨K,k * 2+1,none⟩),fun v _=>v=.slice (some ⟨yb,0,none⟩) (YL+1) yc,fun v _=>v=.slice (some ⟨xb,0,none⟩) (XL+1) xc,fun v _=>v=.bool bk,fun v _=>v=.bool false] (by kernel_rfl) (by kernel_rfl) hS ?_ ?plain ?fin
     · repeat (first|exact Lasting.nil|refine Lasting.cons (fun _ _ _ _ h=>h) ?_)
     case plain =>
      repeat' (first|exact trivial|apply And.intro)
      all_goals
       refine .inr ?_
       intro vals J9 bs w hg hJ9 hS
       simp only [zH,zI,Given,Facts] at hg;simp only [textL,actL,dstAt,opAt,zH,zI,zA,zB,zK,if_true,Act.put,zE,zF,zG,hg];refine ⟨?_⟩;refine wpStep_of (fun K hK=>?_);have HK:=Lib.hid hK;clear hK;rw [if_pos (by rfl)]
       (first|((with_reducible refine atLoad ?_);first|((refine' wp_ldi1 (v:=_) hS hJ9 ?ha rfl ?hc ?_);(case ha=>first|exact ty_agg34|exact ty_agg35);(case hc=>assumption)))|(go_wp2_with (first|(go_at_call 17;((with_reducible refine Calls.mono (HBk2.out _ _ _ (PH.le.trans HI4.out hJ9) hS) ?_);clear hS;rintro e w2 ⟨rfl,hS⟩)))))
       ( refine HK.out _ _ ⟨rfl,J9,PH.le.refl _,hS,?_⟩ )
       clear HK
       simp only [Facts]
       simp only [outOf,zH,zI,Act.put,zE,zF,zG,zD,zC,zA,zB,zJ]
       ( done )
     case fin =>
      clear hS
      intro vals J w hJ hg hS
      have hS:=hS.less hJ
      simp only [List.length_cons,List.length_nil,Nat.reduceAdd,Below_,Facts,zH,zI,true_and] at hg;simp only [List.length_cons,List.length_nil,Nat.reduceAdd,textL,actL,dstAt,zA,zB,zK,if_true,Act.put,zE,zF,zG,hg];refine ⟨?_⟩
      clear hg hJ
      go_wp2_with fail
      exact ⟨⟨k+1,by omega,by go_num,hS⟩,by simp [intOf];omega⟩
end Go.Proofs.YtdhkkkhnjooioaaGreat
