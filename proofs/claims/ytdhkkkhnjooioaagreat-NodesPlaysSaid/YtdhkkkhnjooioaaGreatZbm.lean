import Derived.Test.YtdhkkkhnjooioaaGreatZbl
set_option linter.unusedSimpArgs false
set_option linter.unusedVariables false
namespace Go.Proofs.YtdhkkkhnjooioaaGreat
open Go.RowKit
theorem rows_snoc {J K m1:PH} {v1 u:Value} {us:List Value} {l:List G.Tb} {t:G.Tb} {e:TypeId} (hul:us.length=l.length) (hbs:∀ (i:Nat) t u,l[i]?=some t→us[i]?=some u→BoolR J u t) (hu:BoolR J u t) (hJ:J.le K) (hm:m1.le K) (hO:OwnP m1 e 1 v1 (l.length+1) (us ++ [u])):RowsR K v1 (l ++ [t]) :=
 hO.rowsR (by simp) hm fun i t' y hi hy=>by
  by_cases hlt:i<l.length
  · rw [List.getElem?_append_left hlt] at hi
    rw [List.getElem?_append_left (by rw [hul];exact hlt)] at hy
    exact (hbs i t' y hi hy).le hJ
  · have hle:i<l.length+1:=by
     have:=(List.getElem?_eq_some_iff.1 hi).1
     rw [List.length_append,List.length_singleton] at this
     exact this
    obtain rfl:i=l.length:=by omega
    rw [List.getElem?_append_right (Nat.le_refl _),Nat.sub_self] at hi
    rw [List.getElem?_append_right (by rw [hul];exact Nat.le_refl _),hul,Nat.sub_self] at hy
    injection hi with hi
    injection hy with hy
    subst hi
    subst hy
    exact hu.le hJ
set_option maxRecDepth 100000 in
set_option maxHeartbeats 16000000 in
theorem rmk_good {E w:World} {I:PH} {ms:List PH} {a room n k:Nat} {ov lv hv x y:Value} {l:List G.Tb} {h os:List Nat} {X Y:G.Tb} {v:Nat} (hl:RowsR I lv l) (hh:NumR I hv h) (hoo:NumR I ov os) (ho:G.Ordr n os) (hon:os.length=n) (hn:n≤4) (hx:BoolR I x X) (hy:BoolR I y Y) (hX:G.IsT n X) (hY:G.IsT n Y) (hlen:h.length=l.length) (hT:∀ z ∈ l,z.length≤4096) (hb:l.length≤100000) (hk:lvlOf os (v:Int)=(k:Int)) (hkn:k<n) (hvn:v<n) (hrx:k<G.rkT os X) (hry:k<G.rkT os Y) (hS:Sat E I ms w) :
 Calls Tryz.prog 33 #[.agg #[nv a,nv room,ov,lv,hv],nv v,x,y] w fun e w'=>∃ lv' hv' z J er,e=.returned (.tuple #[.agg #[nv a,nv room,ov,lv',hv'],z,nv er])∧I.le J∧Sat E J ms w' ∧
  ((er=0∧lv'=lv∧hv'=hv∧BoolR J z (G.joinT v X Y)∧(X=Y∨G.normT (G.joinT v X Y) ∈ l))∨(¬ (X=Y∨G.normT (G.joinT v X Y) ∈ l) ∧
    ((er=7∧lv'=lv∧hv'=hv∧room≤l.length)∨(er=0∧l.length<room∧RowsR J lv' (l ++ [G.normT (G.joinT v X Y)])∧NumR J hv' (h ++ [0])∧BoolR J z (G.joinT v X Y))))):=by
 have hp:2 ^ n≤16:=Nat.le_trans (Nat.pow_le_pow_right (show (2:Nat) > 0 by decide) hn) (by decide)
 have hp0:=Nat.two_pow_pos n
 have hLv:=fun (vv:Int) (a b z1 z2:Value) (w':World) (ms':List PH) (h9:Sat E I ms' w')=>rlevel_any (a:=a) (b:=b) (y:=z1) (z:=z2) (v:=vv) hoo (by omega) h9
 have HLv:=Lib.hid hLv
 have hHx:=fun (u:Nat) (hu:u<n) (w':World) (ms':List PH) (h9:Sat E I ms' w')=>rhangs_any hx (show X.length=2 ^ n from hX) hu (by omega) h9
 have hHy:=fun (u:Nat) (hu:u<n) (w':World) (ms':List PH) (h9:Sat E I ms' w')=>rhangs_any hy (show Y.length=2 ^ n from hY) hu (by omega) h9
 have hoo2:=hoo
 obtain ⟨⟨oA,oC,rfl⟩,_⟩:=hoo2
 have hld:∀ i,i<os.length→∃ O u,oA=some ⟨O,0,none⟩∧os[i]?=some u∧I.at O i=some (nv u)∧u<n:=fun i hi=>by
  obtain ⟨O,d,h1,h2⟩:=hoo.2 (by omega)
  injection h1 with h1
  have hu:=List.getElem?_eq_getElem hi
  exact ⟨O,_,h1,hu,h2 i _ hu,ho.lt _ (List.getElem_mem hi)⟩
 have hlow:∀ (Z:G.Tb) (i u:Nat),i<G.rkT os Z→os[i]?=some u→G.hangsT Z u=false:=fun Z i u hi hu=>by
  obtain ⟨h1,h2⟩:=List.getElem?_eq_some_iff.1 hu
  have:=List.not_of_lt_findIdx (show i<os.findIdx (G.hangsT Z) from hi)
  rw [h2] at this
  simpa using this
 have hhit:∀ (Z:G.Tb) (i u:Nat),i=G.rkT os Z→os[i]?=some u→G.hangsT Z u=true:=fun Z i u hi hu=>by
  obtain ⟨h1,h2⟩:=List.getElem?_eq_some_iff.1 hu
  have h3:os.findIdx (G.hangsT Z)<os.length:=by have:i=os.findIdx (G.hangsT Z):=hi;omega
  have hi2:i=os.findIdx (G.hangsT Z):=hi
  subst hi2
  rw [← h2]
  exact List.findIdx_getElem
 have HHx:=Lib.hid hHx
 have HHy:=Lib.hid hHy
 have Hld:=Lib.hid hld
 have Hlow:=Lib.hid hlow
 have Hhit:=Lib.hid hhit
 have hjl:(G.joinT v X Y).length=2 ^ n:=by unfold G.joinT;rw [List.length_map,List.length_range];exact hX
 have HJn:=Lib.hid (fun (w':World) (ms':List PH) (h9:Sat E I ms' w')=>rjoin_any hx hy (show X.length=2 ^ n from hX) (show Y.length=2 ^ n from hY) hvn (by omega) h9)
 have HNo:=Lib.hid (fun (w':World) (ms':List PH) (J:PH) (z:Value) (hz:BoolR J z (G.joinT v X Y)) (h9:Sat E J ms' w')=>rnorm_any hz (by omega) (by omega) h9)
 have HSa:=Lib.hid (fun (w':World) (ms':List PH) (J:PH) (hJ:I.le J) (h9:Sat E J ms' w')=>bsame_any (hx.le hJ) (hy.le hJ) (by rw [show X.length=2 ^ n from hX];omega) h9)
 have HIn:=Lib.hid (fun (w':World) (ms':List PH) (J:PH) (u:Value) (hJ:I.le J) (hu:BoolR J u (G.normT (G.joinT v X Y))) (h9:Sat E J ms' w')=>rin_idx (hl.le hJ) hu (by omega) (fun y hy=>Nat.le_trans (hT y hy) (by omega)) h9)
 obtain ⟨us,hul,⟨A,c,rfl,hcs⟩,hbs⟩:=hl
 have HC1:=Lib.hid (fun (J:PH) (hJ:I.le J)=>(fun h0=>by obtain ⟨X,e,hc⟩:=hcs h0;exact ⟨X,0,e,hc.le hJ⟩:0<l.length→∃ X off,A=some ⟨X,off,none⟩∧Cells J X off us))
 have HL:=Lib.hid (show us.length=l.length * 1 by omega)
 have H1:=Lib.hid (show ∀ u ∈ us,u.oneCell'=true from fun u hu=>by
  obtain ⟨i,hi,rfl⟩:=List.mem_iff_getElem.1 hu
  exact (hbs i _ _ (List.getElem?_eq_getElem (show i<l.length by omega)) (List.getElem?_eq_getElem hi)).one)
 have Hsn:=Lib.hid (fun (J K m1:PH) (v1 u:Value) (hIJ:I.le J) (hu:BoolR J u (G.normT (G.joinT v X Y))) (hJ:J.le K) (hm:m1.le K) (hO:OwnP m1 35 1 v1 (l.length+1) (us ++ [u]))=>rows_snoc hul (fun i t u h1 h2=>(hbs i t u h1 h2).le hIJ) hu hJ hm hO)
 have hh2:=hh
 obtain ⟨⟨B,d,rfl⟩,hBt⟩:=hh2
 have hHl:(h.flatMap ivC).length=h.length * 1:=flat_length ivC_len _
 have hHo:∀ u ∈ h.flatMap ivC,u.oneCell'=true:=fun u hu=>by
  obtain ⟨a,_,ha⟩:=List.mem_flatMap.1 hu
  simp only [ivC,List.mem_singleton] at ha
  subst ha;rfl
 have hHc:∀ (J:PH),I.le J→0<h.length→∃ X off,B=some ⟨X,off,none⟩∧Cells J X off (h.flatMap ivC):=fun J hJ h0=>by
  obtain ⟨Y,d',e,hat⟩:=hBt h0
  injection e with e
  refine ⟨Y,0,e,fun j v hj=>?_⟩
  rw [Nat.zero_add]
  rw [flat_nv,List.getElem?_map] at hj
  cases hx:h[j]? with
  | none=>rw [hx] at hj;cases hj
  | some x=>rw [hx] at hj;cases hj;exact PH.at_le hJ (hat j x hx)
 have hHf:∀ (m' K:PH) (v:Value),m'.le K→OwnP m' 3 1 v (h.length+1) (h.flatMap ivC ++ [nv 0])→NumR K v (h ++ [0]):=fun m' K v hm hO=>(OwnP.num (e:=3) (l:=h ++ [0]) (by rw [List.length_append,List.length_singleton,List.flatMap_append];exact hO)).le hm
 have HHl:=Lib.hid hHl
 have HHo:=Lib.hid hHo
 have HHc:=Lib.hid hHc
 have HHf:=Lib.hid hHf
 have hkl:k<os.length:=by omega
 clear hcs hbs hul hoo ho hp hp0 hLv hHx hHy hld hlow hhit hX hY hx hy hon hT hh hBt hHl hHo hHc hHf hjl
 rw [hlen] at HHl HHc HHf ⊢
 generalize hjt:G.joinT v X Y=jt at *
 have Hkx:=Lib.hid hrx
 have Hky:=Lib.hid hry
 clear hjt hlen hrx hry
 generalize hhv:h.flatMap ivC=hs at *
 clear hhv
 generalize os.length=q0 at *
 by_cases hP:X=Y
 case pos =>
  have HPp:=Lib.hid hP
  have hdec:decide (X=Y)=true:=decide_eq_true hP
  rw [hdec] at HSa
  clear hdec hP
  generalize l.length=q1 at *
  go_enter Tryz.func33,Tryz.ntmps33
  go_wp2_with (first
   | (go_at_call 68;(with_reducible refine Calls.mono (HLv.out _ _ _ _ _ _ _ hS) ?_);clear hS;rintro e w ⟨rfl,hS⟩;try simp only [hk])
   | ((with_reducible refine atList ?_);first|((with_reducible refine isBoxD 4 ?_);refine bx hS rfl rfl rfl ?_;clear hS;intro X4 w hS;(try simp only [Act.eval,zD,zC,zB,zJ,Value.cells] at hS);(try simp only [Act.put,zE,zF,zG]))|((with_reducible refine isAllocD 8 ?_);(refine' al (z:=_) hS rfl rfl ?ha ?_);(case ha=>exact ty_z31);clear hS;intro R8 w hS;(try simp only [Value.cells] at hS);(try simp only [Act.put,zE,zF,zG]))|((with_reducible refine isLoad ?_);( (refine ldN 1 hS rfl rfl ?ha rfl rfl ?hb ?_;(case ha=>exact ty_agg31);(case hb=>exact ty_sz31)) );(try simp only [Act.put,zE,zF,zG])) ))
  clear hk
  go_loopw [12] (fun v12 wr=>∃ i:Nat,i≤k+1∧v12=.int .i64 (i:Int)∧Sat E I (PH.one R8 (.cells #[.int .i64 0,.int .i64 0,.slice none 0 0,.slice none 0 0,.slice none 0 0] 31)::PH.one X4 (.cells #[nv a,nv room,.slice oA q0 oC,.slice A q1 c,.slice B q1 d] 31)::ms) wr) (fun v12 _=>(k+1 - intOf v12).toNat)
  case atStart=>exact ⟨0,Nat.zero_le _,rfl,hS⟩
  clear hS
  obtain ⟨i,hi,rfl,hS⟩:=hrel
  by_cases hlt:i<k+1
  case pos =>
   obtain ⟨O,u,rfl,hu,iO,hun⟩:=Hld.out i (by omega)
   have ik:(i:Int)≤(k:Int):=by omega
   have iq:(i:Int)<(q0:Int):=by omega
   have HA:=Lib.hid (fun (w':World) (ms':List PH) (h9:Sat E I ms' w')=>HHx.out u hun w' ms' h9)
   have HB:=Lib.hid (fun (w':World) (ms':List PH) (h9:Sat E I ms' w')=>HHy.out u hun w' ms' h9)
   rw [Hlow.out X i u (by have:=Hkx.out;omega) hu] at HA
   rw [Hlow.out Y i u (by have:=Hky.out;omega) hu] at HB
   clear hu hun
   go_wp2_with (first
    | (go_at_call 64;first|((with_reducible refine Calls.mono (HA.out _ _ hS) ?_);clear hS;rintro e w ⟨rfl,hS⟩)|((with_reducible refine Calls.mono (HB.out _ _ hS) ?_);clear hS;rintro e w ⟨rfl,hS⟩))
    | ((with_reducible refine atList ?_);first|((with_reducible refine isGuard ?_);  ((with_reducible refine guarded_yes ?hw ?_);case hw=>(simp only [Region.wanted,yielded,zC,zA,zB,zK,beq_self_eq_true];done)) )|((with_reducible refine isLoad ?_);(first|(refine ld1 1 hS rfl rfl ?ha rfl rfl rfl ?_;(case ha =>  exact ty_agg28))|((refine' ldI1 (v:=_) hS rfl rfl ?ha rfl ?hb ?_);(case ha =>  exact ty_agg3 );(case hb=>assumption)));(try simp only [Act.put,zE,zF,zG])) ))
   exact ⟨⟨i+1,by omega,by go_num,hS⟩,by simp [intOf];omega⟩
  have hie:i=k+1:=by omega
  subst hie
  have ik:¬ ((k+1:Nat):Int)≤(k:Int):=by omega
  clear hi hlt
  go_upto_region 11 with (first
   | (go_at_call 69;(with_reducible refine Calls.mono (HJn.out _ _ hS) ?_);clear hS;rintro e w ⟨z,J1,rfl,hJ1,hz,hS⟩;have HJ1:=Lib.hid hJ1;have HZ:=Lib.hid hz;clear hJ1 hz)
   | (go_at_call 62;(with_reducible refine Calls.mono (HNo.out _ _ _ _ HZ.out hS) ?_);clear hS;rintro e w ⟨u2,J2,rfl,hJ2,hu2,hS⟩;have HJ2:=Lib.hid hJ2;have HU2:=Lib.hid hu2;have HJ12:=Lib.hid (PH.le.trans HJ1.out hJ2);clear hJ2 hu2)
   )
  go_wp2_with (first
   | (go_at_call 17;(with_reducible refine Calls.mono (HSa.out _ _ _ HJ12.out hS) ?_);clear hS;rintro e w ⟨rfl,hS⟩)
   | ((with_reducible refine atList ?_);first|((with_reducible refine isGuard ?_);  go_skip )|((with_reducible refine isLoad ?_);( (refine ldN 1 hS rfl rfl ?ha rfl rfl ?hb ?_;(case ha=>exact ty_agg31);(case hb=>exact ty_sz31)) );(try simp only [Act.put,zE,zF,zG]))|((with_reducible refine isStore ?_);( (refine stN 0 hS rfl rfl rfl rfl rfl ?ha rfl rfl ?_;(case ha=>exact ty_sz31)) );clear hS;intro w hS;(try simp only [zG,Act.eval,zD,zC,zA,zB,zJ,Value.cells] at hS);(try simp only [Act.put])) ))
  refine bodyPost_ret (res3 rfl (rvN 0 hS rfl rfl ty_agg31 ty_sz31) (rvt rfl) (rvt rfl)) rfl ?_
  exact ⟨_,_,z,J2,0,rfl,HJ12.out,hS.drop.drop,.inl ⟨rfl,rfl,rfl,HZ.out.le HJ2.out,.inl HPp.out⟩⟩
 case neg =>
  have HPp:=Lib.hid hP
  have hdec:decide (X=Y)=false:=decide_eq_false hP
  rw [hdec] at HSa
  clear hdec hP
  by_cases hM:G.normT jt ∈ l
  case pos =>
   have HM:=Lib.hid hM
   have hi:idxI l (G.normT jt)=(l.idxOf (G.normT jt):Int):=by unfold idxI;rw [if_pos hM]
   rw [hi] at HIn
   generalize l.idxOf (G.normT jt)=iz at *
   clear hM hi
   generalize l.length=q1 at *
   go_enter Tryz.func33,Tryz.ntmps33
   go_wp2_with (first
    | (go_at_call 68;(with_reducible refine Calls.mono (HLv.out _ _ _ _ _ _ _ hS) ?_);clear hS;rintro e w ⟨rfl,hS⟩;try simp only [hk])
    | ((with_reducible refine atList ?_);first|((with_reducible refine isBoxD 4 ?_);refine bx hS rfl rfl rfl ?_;clear hS;intro X4 w hS;(try simp only [Act.eval,zD,zC,zB,zJ,Value.cells] at hS);(try simp only [Act.put,zE,zF,zG]))|((with_reducible refine isAllocD 8 ?_);(refine' al (z:=_) hS rfl rfl ?ha ?_);(case ha=>exact ty_z31);clear hS;intro R8 w hS;(try simp only [Value.cells] at hS);(try simp only [Act.put,zE,zF,zG]))|((with_reducible refine isLoad ?_);( (refine ldN 1 hS rfl rfl ?ha rfl rfl ?hb ?_;(case ha=>exact ty_agg31);(case hb=>exact ty_sz31)) );(try simp only [Act.put,zE,zF,zG])) ))
   clear hk
   go_loopw [12] (fun v12 wr=>∃ i:Nat,i≤k+1∧v12=.int .i64 (i:Int)∧Sat E I (PH.one R8 (.cells #[.int .i64 0,.int .i64 0,.slice none 0 0,.slice none 0 0,.slice none 0 0] 31)::PH.one X4 (.cells #[nv a,nv room,.slice oA q0 oC,.slice A q1 c,.slice B q1 d] 31)::ms) wr) (fun v12 _=>(k+1 - intOf v12).toNat)
   case atStart=>exact ⟨0,Nat.zero_le _,rfl,hS⟩
   clear hS
   obtain ⟨i,hi,rfl,hS⟩:=hrel
   by_cases hlt:i<k+1
   case pos =>
    obtain ⟨O,u,rfl,hu,iO,hun⟩:=Hld.out i (by omega)
    have ik:(i:Int)≤(k:Int):=by omega
    have iq:(i:Int)<(q0:Int):=by omega
    have HA:=Lib.hid (fun (w':World) (ms':List PH) (h9:Sat E I ms' w')=>HHx.out u hun w' ms' h9)
    have HB:=Lib.hid (fun (w':World) (ms':List PH) (h9:Sat E I ms' w')=>HHy.out u hun w' ms' h9)
    rw [Hlow.out X i u (by have:=Hkx.out;omega) hu] at HA
    rw [Hlow.out Y i u (by have:=Hky.out;omega) hu] at HB
    clear hu hun
    go_wp2_with (first
     | (go_at_call 64;first|((with_reducible refine Calls.mono (HA.out _ _ hS) ?_);clear hS;rintro e w ⟨rfl,hS⟩)|((with_reducible refine Calls.mono (HB.out _ _ hS) ?_);clear hS;rintro e w ⟨rfl,hS⟩))
     | ((with_reducible refine atList ?_);first|((with_reducible refine isGuard ?_);  ((with_reducible refine guarded_yes ?hw ?_);case hw=>(simp only [Region.wanted,yielded,zC,zA,zB,zK,beq_self_eq_true];done)) )|((with_reducible refine isLoad ?_);(first|(refine ld1 1 hS rfl rfl ?ha rfl rfl rfl ?_;(case ha =>  exact ty_agg28))|((refine' ldI1 (v:=_) hS rfl rfl ?ha rfl ?hb ?_);(case ha =>  exact ty_agg3 );(case hb=>assumption)));(try simp only [Act.put,zE,zF,zG])) ))
    exact ⟨⟨i+1,by omega,by go_num,hS⟩,by simp [intOf];omega⟩
   have hie:i=k+1:=by omega
   subst hie
   have ik:¬ ((k+1:Nat):Int)≤(k:Int):=by omega
   clear hi hlt
   go_upto_region 11 with (first
    | (go_at_call 69;(with_reducible refine Calls.mono (HJn.out _ _ hS) ?_);clear hS;rintro e w ⟨z,J1,rfl,hJ1,hz,hS⟩;have HJ1:=Lib.hid hJ1;have HZ:=Lib.hid hz;clear hJ1 hz)
    | (go_at_call 62;(with_reducible refine Calls.mono (HNo.out _ _ _ _ HZ.out hS) ?_);clear hS;rintro e w ⟨u2,J2,rfl,hJ2,hu2,hS⟩;have HJ2:=Lib.hid hJ2;have HU2:=Lib.hid hu2;have HJ12:=Lib.hid (PH.le.trans HJ1.out hJ2);clear hJ2 hu2)
    )
   go_wp2_with (first
    | (go_at_call 17;(with_reducible refine Calls.mono (HSa.out _ _ _ HJ12.out hS) ?_);clear hS;rintro e w ⟨rfl,hS⟩)
    | (go_at_call 63;(with_reducible refine Calls.mono (HIn.out _ _ _ _ HJ12.out HU2.out hS) ?_);clear hS;rintro e w ⟨rfl,hS⟩)
    | ((with_reducible refine atList ?_);first|((with_reducible refine isGuard ?_);  ((with_reducible refine guarded_yes ?hw ?_);case hw=>(simp only [Region.wanted,yielded,zC,zA,zB,zK,beq_self_eq_true];done)) )|((with_reducible refine isLoad ?_);(first|(refine ld1 1 hS rfl rfl ?ha rfl rfl rfl ?_;(case ha=>exact ty_agg29))|(refine ldN 1 hS rfl rfl ?ha rfl rfl ?hb ?_;(case ha=>exact ty_agg31);(case hb=>exact ty_sz31)) );(try simp only [Act.put,zE,zF,zG]))|((with_reducible refine isStore ?_);( (refine stN 0 hS rfl rfl rfl rfl rfl ?ha rfl rfl ?_;(case ha=>exact ty_sz31)) );clear hS;intro w hS;(try simp only [zG,Act.eval,zD,zC,zA,zB,zJ,Value.cells] at hS);(try simp only [Act.put])) ))
   refine bodyPost_ret (res3 rfl (rvN 0 hS rfl rfl ty_agg31 ty_sz31) (rvt rfl) (rvt rfl)) rfl ?_
   exact ⟨_,_,z,J2,0,rfl,HJ12.out,hS.drop.drop,.inl ⟨rfl,rfl,rfl,HZ.out.le HJ2.out,.inr HM.out⟩⟩
  case neg =>
   have HM:=Lib.hid hM
   rw [idxI_no hM] at HIn
   clear hM
   generalize l.length=q1 at *
   go_enter Tryz.func33,Tryz.ntmps33
   go_wp2_with (first
    | (go_at_call 68;(with_reducible refine Calls.mono (HLv.out _ _ _ _ _ _ _ hS) ?_);clear hS;rintro e w ⟨rfl,hS⟩;try simp only [hk])
    | ((with_reducible refine atList ?_);first|((with_reducible refine isBoxD 4 ?_);refine bx hS rfl rfl rfl ?_;clear hS;intro X4 w hS;(try simp only [Act.eval,zD,zC,zB,zJ,Value.cells] at hS);(try simp only [Act.put,zE,zF,zG]))|((with_reducible refine isAllocD 8 ?_);(refine' al (z:=_) hS rfl rfl ?ha ?_);(case ha=>exact ty_z31);clear hS;intro R8 w hS;(try simp only [Value.cells] at hS);(try simp only [Act.put,zE,zF,zG]))|((with_reducible refine isLoad ?_);( (refine ldN 1 hS rfl rfl ?ha rfl rfl ?hb ?_;(case ha=>exact ty_agg31);(case hb=>exact ty_sz31)) );(try simp only [Act.put,zE,zF,zG])) ))
   clear hk
   go_loopw [12] (fun v12 wr=>∃ i:Nat,i≤k+1∧v12=.int .i64 (i:Int)∧Sat E I (PH.one R8 (.cells #[.int .i64 0,.int .i64 0,.slice none 0 0,.slice none 0 0,.slice none 0 0] 31)::PH.one X4 (.cells #[nv a,nv room,.slice oA q0 oC,.slice A q1 c,.slice B q1 d] 31)::ms) wr) (fun v12 _=>(k+1 - intOf v12).toNat)
   case atStart=>exact ⟨0,Nat.zero_le _,rfl,hS⟩
   clear hS
   obtain ⟨i,hi,rfl,hS⟩:=hrel
   by_cases hlt:i<k+1
   case pos =>
    obtain ⟨O,u,rfl,hu,iO,hun⟩:=Hld.out i (by omega)
    have ik:(i:Int)≤(k:Int):=by omega
    have iq:(i:Int)<(q0:Int):=by omega
    have HA:=Lib.hid (fun (w':World) (ms':List PH) (h9:Sat E I ms' w')=>HHx.out u hun w' ms' h9)
    have HB:=Lib.hid (fun (w':World) (ms':List PH) (h9:Sat E I ms' w')=>HHy.out u hun w' ms' h9)
    rw [Hlow.out X i u (by have:=Hkx.out;omega) hu] at HA
    rw [Hlow.out Y i u (by have:=Hky.out;omega) hu] at HB
    clear hu hun
    go_wp2_with (first
     | (go_at_call 64;first|((with_reducible refine Calls.mono (HA.out _ _ hS) ?_);clear hS;rintro e w ⟨rfl,hS⟩)|((with_reducible refine Calls.mono (HB.out _ _ hS) ?_);clear hS;rintro e w ⟨rfl,hS⟩))
     | ((with_reducible refine atList ?_);first|((with_reducible refine isGuard ?_);  ((with_reducible refine guarded_yes ?hw ?_);case hw=>(simp only [Region.wanted,yielded,zC,zA,zB,zK,beq_self_eq_true];done)) )|((with_reducible refine isLoad ?_);(first|(refine ld1 1 hS rfl rfl ?ha rfl rfl rfl ?_;(case ha =>  exact ty_agg28))|((refine' ldI1 (v:=_) hS rfl rfl ?ha rfl ?hb ?_);(case ha =>  exact ty_agg3 );(case hb=>assumption)));(try simp only [Act.put,zE,zF,zG])) ))
    exact ⟨⟨i+1,by omega,by go_num,hS⟩,by simp [intOf];omega⟩
   have hie:i=k+1:=by omega
   subst hie
   have ik:¬ ((k+1:Nat):Int)≤(k:Int):=by omega
   clear hi hlt
   go_upto_region 11 with (first
    | (go_at_call 69;(with_reducible refine Calls.mono (HJn.out _ _ hS) ?_);clear hS;rintro e w ⟨z,J1,rfl,hJ1,hz,hS⟩;refine Veil.out ?_;have hz2:=hz;obtain ⟨⟨Az,cz,rfl⟩,_⟩:=hz2;refine ⟨?_⟩;have HJ1:=Lib.hid hJ1;have HZ:=Lib.hid hz;clear hJ1 hz)
    | (go_at_call 62;(with_reducible refine Calls.mono (HNo.out _ _ _ _ HZ.out hS) ?_);clear hS;rintro e w ⟨u2,J2,rfl,hJ2,hu2,hS⟩;refine Veil.out ?_;have hu3:=hu2;obtain ⟨⟨Au,cu,rfl⟩,_⟩:=hu3;refine ⟨?_⟩;have HJ2:=Lib.hid hJ2;have HU2:=Lib.hid hu2;have HJ12:=Lib.hid (PH.le.trans HJ1.out hJ2);clear hJ2 hu2)
    )
   by_cases hroom:q1<room
   case neg =>
    have hri:(room:Int)≤(q1:Int):=by omega
    go_wp2_with (first
     | (go_at_call 17;(with_reducible refine Calls.mono (HSa.out _ _ _ HJ12.out hS) ?_);clear hS;rintro e w ⟨rfl,hS⟩)
     | (go_at_call 63;(with_reducible refine Calls.mono (HIn.out _ _ _ _ HJ12.out HU2.out hS) ?_);clear hS;rintro e w ⟨rfl,hS⟩)
     | ((with_reducible refine atList ?_);first|((with_reducible refine isGuard ?_);  ((with_reducible refine guarded_yes ?hw ?_);case hw=>(simp only [Region.wanted,yielded,zC,zA,zB,zK,beq_self_eq_true];done)) )|((with_reducible refine isLoad ?_);(first|(refine ld1 1 hS rfl rfl ?ha rfl rfl rfl ?_;(case ha=>first|exact ty_agg3|exact ty_agg29))|(refine ldN 1 hS rfl rfl ?ha rfl rfl ?hb ?_;(case ha=>exact ty_agg31);(case hb=>exact ty_sz31)) );(try simp only [Act.put,zE,zF,zG]))|((with_reducible refine isStore ?_);( (refine stN 0 hS rfl rfl rfl rfl rfl ?ha rfl rfl ?_;(case ha=>exact ty_sz31)) );clear hS;intro w hS;(try simp only [zG,Act.eval,zD,zC,zA,zB,zJ,Value.cells] at hS);(try simp only [Act.put])) ))
    refine bodyPost_ret (res3 rfl (rvN 0 hS rfl rfl ty_agg31 ty_sz31) (rvt rfl) (rvt rfl)) rfl ?_
    exact ⟨_,_,_,J2,7,rfl,HJ12.out,hS.drop.drop,.inr ⟨fun h=>h.elim HPp.out HM.out,.inl ⟨rfl,rfl,rfl,by omega⟩⟩⟩
   case pos =>
    have hri:¬ (room:Int)≤(q1:Int):=by omega
    go_upto_region 16 with (first
     | (go_at_call 17;(with_reducible refine Calls.mono (HSa.out _ _ _ HJ12.out hS) ?_);clear hS;rintro e w ⟨rfl,hS⟩)
     | (go_at_call 63;(with_reducible refine Calls.mono (HIn.out _ _ _ _ HJ12.out HU2.out hS) ?_);clear hS;rintro e w ⟨rfl,hS⟩)
     | ((with_reducible refine isBuildSlice ?_);(refine' bsl hS ?hr ?_);(case hr=>(intro w0;go_simp;rfl));clear hS;intro XS w hS;(try simp only [zF,zG,zE,Act.eval,zD,zC,zA,zB,zJ,Value.cells] at hS);(try simp only [Act.put,zE,zF,zG]))
     | ((with_reducible refine isAppend ?_);(refine' apS (p:=_) (m:=_) (v:=_) (n:=_) (xs:=_) (news:=us) 0 (.inl (PH.le.refl _)) hS rfl rfl rfl Tryz.underlying29 rows_info rfl (by decide) rfl ?hown rfl HL.out (HC1.out _ HJ12.out) H1.out ?h63 ?hby ?_);(case hown=>exact OwnP.lit _ _ 1 0 #[] (by decide) rfl);(case h63=>(unfold maxLen;omega));(case hby=>omega);clear hS;intro v1 m1 w1 hO hS;(try simp only [zG] at hS);(try simp only [Act.put,zE,zF,zG]))
     | (at_builtin;(refine' apP (p:=_) (m:=_) (v:=_) (n:=_) (xs:=_) (news:=_) 1 (.inr (List.Mem.head _)) hS rfl rfl rfl Tryz.underlying29 rows_info rfl (by decide) rfl ?hown rfl ?hl ?hcl ?h1 ?h63 ?hby ?_);(case hown=>assumption);(case hcl=>exact Cells.one _ _ _ _);(case hl=>rfl);(case h1=>rfl);(case h63=>go_light;unfold maxLen;omega);(case hby=>go_light;omega);clear hS hO;intro v1 m1 w hO hS;(try simp only [zF,zG] at hS);refine Veil.out ?_;obtain ⟨A7,c7,rfl,_⟩:=hO.shape;refine ⟨?_⟩;(try simp only [Act.put,zE,zF,zG]))
     | ((with_reducible refine atList ?_);first|((with_reducible refine isGuard ?_);  ((with_reducible refine guarded_yes ?hw ?_);case hw=>(simp only [Region.wanted,yielded,zC,zA,zB,zK,beq_self_eq_true];done)) )|((with_reducible refine isLoad ?_);(first|(refine ld1 1 hS rfl rfl ?ha rfl rfl rfl ?_;(case ha=>first|exact ty_agg3|exact ty_agg29))|(refine ld1 2 hS rfl rfl ?ha rfl rfl rfl ?_;(case ha =>  exact ty_agg29)) );(try simp only [Act.put,zE,zF,zG]))|((with_reducible refine isStore ?_);( (refine st1 3 hS rfl rfl rfl rfl rfl ?ha rfl rfl ?hb ?_;(case ha=>exact ty_sz29);(case hb=>(simp;done))));clear hS;intro w hS;(try simp only [zF,zG,zE,Act.eval,zD,zC,zA,zB,zJ] at hS);(try simp only [Act.put])) ))
    have HOr:=Lib.hid hO
    clear hO
    go_wp2_with (first
     | ((with_reducible refine isBuildSlice ?_);(refine' bsl hS ?hr ?_);(case hr=>(intro w0;go_simp;rfl));clear hS;intro XS w hS;(try simp only [zF,zG,zE,Act.eval,zD,zC,zA,zB,zJ,Value.cells] at hS);(try simp only [Act.put,zE,zF,zG]))
     | ((with_reducible refine isAppend ?_);(refine' apS (p:=_) (m:=_) (v:=_) (n:=_) (xs:=_) (news:=hs) 0 (.inl (PH.le.refl _)) hS rfl rfl rfl Tryz.underlying28 int_info rfl (by decide) rfl ?hown rfl HHl.out (HHc.out _ HJ12.out) HHo.out ?h63 ?hby ?_);(case hown=>exact OwnP.lit _ _ 1 0 #[] (by decide) rfl);(case h63=>(unfold maxLen;omega));(case hby=>omega);clear hS;intro v1 m1 w1 hO hS;(try simp only [zG] at hS);(try simp only [Act.put,zE,zF,zG]))
     | (at_builtin;(refine' apP (p:=_) (m:=_) (v:=_) (n:=_) (xs:=_) (news:=_) 1 (.inr (List.Mem.head _)) hS rfl rfl rfl Tryz.underlying28 int_info rfl (by decide) rfl ?hown rfl ?hl ?hcl ?h1 ?h63 ?hby ?_);(case hown=>assumption);(case hcl=>exact Cells.one _ _ _ _);(case hl=>rfl);(case h1=>rfl);(case h63=>go_light;unfold maxLen;omega);(case hby=>go_light;omega);clear hS hO;intro v1 m1 w hO hS;(try simp only [zF,zG] at hS);refine Veil.out ?_;obtain ⟨A7,c7,rfl,_⟩:=hO.shape;refine ⟨?_⟩;(try simp only [Act.put,zE,zF,zG]))
     | ((with_reducible refine atList ?_);first|((with_reducible refine isLoad ?_);(first|(refine ld1 4 hS rfl rfl ?ha rfl rfl rfl ?_;(case ha=>exact ty_agg28))|(refine ldN 5 hS rfl rfl ?ha rfl rfl ?hb ?_;(case ha=>exact ty_agg31);(case hb=>exact ty_sz31)) );(try simp only [Act.put,zE,zF,zG]))|((with_reducible refine isStore ?_);(first|(refine st1 5 hS rfl rfl rfl rfl rfl ?ha rfl rfl ?hb ?_;(case ha=>exact ty_sz28);(case hb=>(simp;done)))|(refine stN 4 hS rfl rfl rfl rfl rfl ?ha rfl rfl ?_;(case ha=>exact ty_sz31)) );clear hS;intro w hS;(try simp only [zF,zG,zE,Act.eval,zD,zC,zA,zB,zJ,Value.cells] at hS);(try simp only [Act.put])) ))
    refine bodyPost_ret (res3 rfl (rvN 4 hS rfl rfl ty_agg31 ty_sz31) (rvt rfl) (rvt rfl)) rfl ?_
    obtain ⟨K1,a1,e1,hS1,_⟩:=hS.drop.ice
    obtain ⟨K2,a2,e2,hS2,_⟩:=hS1.drop.ice
    have hz:q1+1=0+q1+1:=by omega
    refine ⟨_,_,_,K2,0,rfl,PH.le.trans HJ12.out (PH.le.trans a1 a2),hS2.drop.drop,.inr ⟨⟨HPp.out,HM.out⟩,rfl,?_,?_,HZ.out.le (PH.le.trans HJ2.out (PH.le.trans a1 a2))⟩⟩
    · refine Hsn.out J2 K2 _ _ _ HJ12.out HU2.out (PH.le.trans a1 a2) e2 ?_
      rw [hz]
      exact HOr.out
    · refine HHf.out _ K2 _ (PH.le.trans e1 a2) ?_
      rw [hz]
      exact hO
end Go.Proofs.YtdhkkkhnjooioaaGreat
