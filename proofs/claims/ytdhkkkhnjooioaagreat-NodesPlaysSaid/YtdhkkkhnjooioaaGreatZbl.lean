import Derived.Test.YtdhkkkhnjooioaaGreatZbk
import Derived.Deep.CutRange
set_option linter.unusedSimpArgs false
set_option linter.unusedVariables false
namespace Go.Proofs.YtdhkkkhnjooioaaGreat
open Go.RowKit
theorem atBsl {P:Program} {dst:Option Tmp} {type:TypeId} {pos:String} {after:Array Edge} {g:Option (Nat × Bool)} {a:Act} {w:World} {K:Act→World→Prop} {Q:Exit→Act→World→Prop} {T:TypeId} {n:Nat} {parts:Array (Nat × Operand)}
 (h:Oper.wp P ⟨dst,.buildSlice T n parts,type,pos,after,g⟩ a w K Q):Oper.wp P ⟨dst,.buildSlice T n parts,type,pos,after,g⟩ a w K Q:=h
theorem wp_bslF {P:Program} {a:Act} {w E:World} {K:Act→World→Prop} {Q:Exit→Act→World→Prop} {I:PH} {ms:List PH} {dst:Option Tmp} {type:TypeId} {pos:String} {after:Array Edge} {g:Option (Nat × Bool)} {T:TypeId} {n:Nat} {parts:Array (Nat × Operand)}
 (hS:Sat E I ms w) {cs:Array Value} {e:TypeId} (hr:∀ w:World,(Instr.buildSlice T n (parts.map fun (i,x)=>(i,a.eval x))).run P w=.ok (.slice (some ⟨w.heap.size,0,none⟩) n n) (w.alloc (.cells cs e)))
 (h:∀ X J w',I.le J→J X=some (.cells cs e (0,0))→Sat E J ms w'→K (a.put dst (.slice (some ⟨X,0,none⟩) n n)) w'):Oper.wp P ⟨dst,.buildSlice T n parts,type,pos,after,g⟩ a w K Q :=
 wp_bsl hS hr fun X w' hS'=>by
  obtain ⟨J,hJ,hm,hS2,_⟩:=hS'.ice
  exact h X J w' hJ (hm X _ (PH.one_self _ _)) hS2
def rowS (T:TypeId) (size:Nat) (c:List Nat) (n:Nat) (xs:List Value) (ms:List PH) (s:Nat) (vals:Nat→Value) (_:PH) (ns:List PH):Prop :=
 match s with
 | 0=>ns=ms
 | s+1=>s<c.length∧∃ m',OwnP m' T size (vals (c.getD s 0)) n xs∧ns=ms.set 0 m'
theorem rowS.gst {T:TypeId} {size:Nat} {c:List Nat} {n:Nat} {xs:List Value} {ms:List PH} (s:Nat) (vals vals':Nat→Value) (J:PH) (ns:List PH) (h:∀ j ∈ c.take s,vals j=vals' j) (hg:rowS T size c n xs ms s vals J ns):rowS T size c n xs ms s vals' J ns:=by
 cases s with
 | zero=>exact hg
 | succ s =>
   obtain ⟨h1,m,h2,h3⟩:=hg
   refine ⟨h1,m,?_,h3⟩
   rw [← h (c.getD s 0)]
   · exact h2
   · rw [List.getD_eq_getElem?_getD,List.getElem?_eq_getElem h1]
     exact List.mem_take_iff_getElem.2 ⟨s,by omega,rfl⟩
theorem rowS.gle {T:TypeId} {size:Nat} {c:List Nat} {n:Nat} {xs:List Value} {ms:List PH} (s:Nat) (vals:Nat→Value) (J J':PH) (ns:List PH) (_:PH.le J J') (hg:rowS T size c n xs ms s vals J ns):rowS T size c n xs ms s vals J' ns:=hg
set_option maxRecDepth 100000 in
set_option maxHeartbeats 8000000 in
theorem rcollect_any {E w:World} {I:PH} {ms:List PH} {a b oN oC:Nat} {oA:Option Addr} {lv hv oo:Value} {l:List G.Tb} {h os:List Nat} {n:Nat} (hl:RowsR I lv l) (hh:NumR I hv h) (hlen:h.length=l.length) (hoo:NumR I oo os) (ho:G.Ordr n os) (hon:os.length=n) (hn:n≤4) (hT:∀ y ∈ l,G.IsT n y) (hb:l.length≤1500) (hS:Sat E I ms w) :
 Calls Tryz.prog 26 #[.agg #[nv a,nv b,.slice oA oN oC,lv,hv],oo] w fun e w'=>∃ cv gv J,e=.returned (.agg #[nv a,nv b,oo,cv,gv])∧I.le J∧RowsR J cv (G.cntU (n+1) os l h l.length)∧NumR J gv ((G.cntU (n+1) os l h l.length).map fun y=>G.heldT l h (G.normT y))∧Sat E J ms w':=by
 have hp:2 ^ n≤16:=Nat.le_trans (Nat.pow_le_pow_right (show (2:Nat) > 0 by decide) hn) (by decide)
 have hcf:=cntU_few (k:=n+1) (o:=os) (l:=l) (h:=h) (by omega) l.length hb
 have hcT:∀ y ∈ G.cntU (n+1) os l h l.length,G.IsT n y:=G.cntU_T ho hT (by omega) l.length (Nat.le_refl _)
 have HC:=Lib.hid (fun (w':World) (ms':List PH) (J:PH) (hJ:I.le J) (h9:Sat E J ms' w')=>rcounting_any (a:=a) (b:=b) (oN:=oN) (oC:=oC) (oA:=oA) (hl.le hJ) (hh.le hJ) hlen (hoo.le hJ) ho hon hn hT hb h9)
 have HH:=Lib.hid (fun (w':World) (ms':List PH) (J:PH) (x:Value) (t:G.Tb) (hJ:I.le J) (hx:BoolR J x t) (ht:G.IsT n t) (h9:Sat E J ms' w')=>rheld_any (a:=nv a) (b:=nv b) (o:=.slice oA oN oC) (hl.le hJ) (hh.le hJ) hlen (fun y hy=>by rw [show y.length=2 ^ n from hT y hy];omega) hx ht (by omega) (by omega) h9)
 obtain ⟨⟨A,c,rfl⟩,_⟩:=hl.get
 have hh2:=hh
 obtain ⟨⟨B,d,rfl⟩,_⟩:=hh2
 have hoo2:=hoo
 obtain ⟨⟨oA2,oC2,rfl⟩,_⟩:=hoo2
 clear hl hh hlen hoo ho hT hp hb hon
 generalize h.length=q1 at *
 generalize os.length=q0 at *
 generalize hcl:G.cntU (n+1) os l h l.length=cl at *
 clear hcl
 have HCT:=Lib.hid hcT
 have hr:∀ i y,cl[i]?=some y→((cl.take (i+1)).map fun y=>G.heldT l h (G.normT y)).flatMap ivC=((cl.take i).map fun y=>G.heldT l h (G.normT y)).flatMap ivC ++ [nv (G.heldT l h (G.normT y))]:=fun i y hy=>by
  rw [List.take_add_one,hy,List.map_append,List.flatMap_append];rfl
 have Hr:=Lib.hid hr
 have hfin:∀ (m' J:PH) (u:Value) (N:Nat),cl.length=N→m'.le J→OwnP m' 3 1 u N (((cl.take N).map fun y=>G.heldT l h (G.normT y)).flatMap ivC)→NumR J u (cl.map fun y=>G.heldT l h (G.normT y)):=fun m' J u N hN hm hO=>by
  subst hN
  rw [List.take_length] at hO
  exact (OwnP.num (e:=3) (by rw [List.length_map];exact hO)).le hm
 have HF:=Lib.hid hfin
 clear hcT hr hfin
 generalize l.length=q2 at *
 go_enter Tryz.func26,Tryz.ntmps26
 go_wp2_with (first
  | (go_at_call 34;(with_reducible refine Calls.mono (HC.out _ _ _ (PH.le.refl _) hS) ?_);clear hS;rintro e w ⟨cv,J,rfl,hJ,hr,hS⟩;refine Veil.out ?_;obtain ⟨⟨A3,c3,rfl⟩,_⟩:=hr.get;refine ⟨?_⟩;have HJ:=Lib.hid hJ;have HR:=Lib.hid hr;clear hJ hr)
  | ((with_reducible refine isBuildSlice ?_);(refine' bsl hS ?hr ?_);(case hr=>(intro w0;go_simp;rfl));clear hS;intro XS w hS;(try simp only [zF,zG,zE,Act.eval,zD,zC,zA,zB,zJ,Value.cells] at hS);(try simp only [Act.put,zE,zF,zG]))
  | ((with_reducible refine atList ?_);first|((with_reducible refine isBoxD 2 ?_);refine bx hS rfl rfl rfl ?_;clear hS;intro X2 w hS;(try simp only [Act.eval,zD,zC,zB,zJ,Value.cells] at hS);(try simp only [Act.put,zE,zF,zG]))|((with_reducible refine isAllocD 4 ?_);(refine' al (z:=_) hS rfl rfl ?ha ?_);(case ha=>exact ty_z31);clear hS;intro R4 w hS;(try simp only [Value.cells] at hS);(try simp only [Act.put,zE,zF,zG]))|((with_reducible refine isLoad ?_);( (refine ldN 1 hS rfl rfl ?ha rfl rfl ?hb ?_;(case ha=>exact ty_agg31);(case hb=>exact ty_sz31)) );(try simp only [Act.put,zE,zF,zG])) ))
 have hSp:=hS.perm (perm_front 2 rfl)
 simp only [List.eraseIdx_cons_succ,List.eraseIdx_cons_zero] at hSp
 obtain ⟨I1,a1,e1,hS1,_⟩:=hSp.ice
 have ix:Cells I1 X2 0 [nv a,nv b,.slice oA oN oC,.slice A q2 c,.slice B q1 d]:=(Cells.one X2 #[nv a,nv b,.slice oA oN oC,.slice A q2 c,.slice B q1 d] 31 (0,0)).le e1
 have HIx:=Lib.hid ix
 have HJ1:=Lib.hid (PH.le.trans HJ.out a1)
 have hat:∀ i,i<cl.length→∃ X u t,A3=some ⟨X,0,none⟩∧cl[i]?=some t∧I1.at X i=some u∧BoolR I1 u t:=fun i hi=>by
  have ht:=List.getElem?_eq_getElem hi
  obtain ⟨X,c',u,h1,h2,h3⟩:=HR.out.get.2 i _ ht
  injection h1 with h1
  exact ⟨X,u,_,h1,ht,PH.at_le a1 h2,h3.le a1⟩
 have HAt:=Lib.hid hat
 have HR1:=Lib.hid (HR.out.le a1)
 clear hS hSp e1 ix hat a1 HR HJ
 have hS:=hS1
 clear hS1
 generalize hN:cl.length=N at *
 have HN:=Lib.hid hN
 clear hN
 go_loopw [6,7] (fun v6 v7 wr=>∃ (i:Nat) (m J:PH),i≤N∧v7=.int .i64 (i:Int)∧I1.le J∧OwnP m 3 1 v6 i (((cl.take i).map fun y=>G.heldT l h (G.normT y)).flatMap ivC)∧Sat E J (m::PH.one R4 (.cells #[.int .i64 0,.int .i64 0,.slice none 0 0,.slice none 0 0,.slice none 0 0] 31)::ms) wr) (fun _ v7 _=>(N - intOf v7).toNat)
 case atStart=>exact ⟨0,_,I1,Nat.zero_le _,rfl,PH.le.refl _,OwnP.lit XS 3 1 0 #[] (by decide) rfl,hS⟩
 case round =>
  clear hS
  obtain ⟨i,m,J,hi,rfl,hJ,hO,hS⟩:=hrel
  have HO:=Lib.hid hO
  obtain ⟨A6,c6,rfl,_⟩:=hO.shape
  have HJ:=Lib.hid hJ
  clear hO
  by_cases hlt:i<N
  · obtain ⟨X,u,t,rfl,hct,hX,hu⟩:=HAt.out i hlt
    have ii:(i:Int)<(N:Int):=by omega
    have iX:=PH.at_le hJ hX
    have iS:=HIx.out.le hJ
    have Htk:=Lib.hid (Hr.out i t hct)
    have hHt:=HCT.out t (List.mem_of_getElem? hct)
    have HHc:=Lib.hid (fun (w':World) (ms':List PH) (K:PH) (hK:J.le K) (h9:Sat E K ms' w')=>HH.out w' ms' K u t (PH.le.trans (PH.le.trans HJ1.out hJ) hK) (hu.le (PH.le.trans hJ hK)) hHt h9)
    clear hct hX hJ hu hHt
    generalize G.heldT l h (G.normT t)=q at *
    go_upto_region 6 with fail
    refine region_c1 [[],[],[],[],[2,3],[2,3,4],[1,2,3,4,5],[1,2,3,4,5,6],[0,1,2,3,4,5,6,7],[0,1,2,3,4,5,6,7,8]] E J _
     [fun v _=>v=.slice A6 i c6,fun v _=>v=.agg #[nv a,nv b,.slice oA oN oC,.slice A q2 c,.slice B q1 d],fun v _=>v=.slice (some ⟨X,0,none⟩) N c3,fun v _=>v=nv i,fun v _=>v=.pointer (some ⟨X,i,none⟩),fun v _=>v=u,fun v _=>v=nv q,fun v J=>∃ Z,v=.slice (some ⟨Z,0,none⟩) 1 1∧J.at Z 0=some (nv q),fun _ _=>True,fun _ _=>True] [8,9]
     (rowS 3 1 [8,9] (i+1) (((cl.take (i+1)).map fun y=>G.heldT l h (G.normT y)).flatMap ivC) _) (by kernel_rfl) (by kernel_rfl) (by decide) hS rfl ?last rowS.gst rowS.gle ?plain ?step ?fin
    case last =>
     repeat (first|exact Lasting.nil|refine Lasting.cons (fun _ _ _ _ h=>h) ?_|refine Lasting.cons (fun v I9 J9 h9 h=>by obtain ⟨Z,e,hz⟩:=h;exact ⟨Z,e,PH.at_le h9 hz⟩) ?_)
    case plain =>
     repeat' (first|exact trivial|apply And.intro)
     all_goals first|exact .inl rfl|skip
     all_goals
      refine .inr ?_
      intro s vals J9 bs w hstop hg hJ9 hS hG
      clear hG
      simp only [zH,zI,Given,Facts] at hg;simp only [textL,actL,dstAt,opAt,zH,zI,zA,zB,zK,if_true,Act.put,zE,zF,zG,hg];refine ⟨?_⟩;refine wpStep_of (fun K hK=>?_);have HK:=Lib.hid hK;clear hK;rw [if_pos (by rfl)]
      first
       | ((with_reducible refine atBsl ?_);(refine' wp_bslF hS ?hr ?_);(case hr=>(intro w0;go_simp;try rfl));clear hS;intro Z J2 w hJ2 hX2 hS;(try simp only [Act.put]);refine HK.out _ _ ⟨rfl,J2,hJ2,hS,?_⟩;clear HK;simp only [Facts];simp only [outOf,zH,zI,zE,zF,zG,zD,zC,zA,zB,zJ];exact ⟨Z,rfl,by simp only [PH.at,hX2];rfl⟩)
       | ((first
           | ((with_reducible refine atLoad ?_);first|((refine' wp_ldi1 (v:=_) hS hJ9 ?ha rfl ?hc ?_);(case ha=>exact ty_agg35);(case hc=>assumption))|((refine' wp_ldiN (vs:=_) hS hJ9 ?ha rfl ?hc ?hb ?_);(case ha=>exact ty_agg31);(case hc=>exact iS);(case hb=>exact ty_sz31)))
           | (go_wp2_with (first|(go_at_call 40;(with_reducible refine Calls.mono (HHc.out _ _ _ hJ9 hS) ?_);clear hS;rintro e w ⟨rfl,hS⟩))))
          refine HK.out _ _ ⟨rfl,J9,PH.le.refl _,hS,?_⟩
          clear HK
          simp only [Facts]
          simp only [outOf,zH,zI,Act.put,zE,zF,zG,zD,zC,zA,zB,zJ])
    case step =>
     refine ⟨⟨trivial,?_⟩,?_⟩
     · intro vals J9 bs w hg hJ9 hS hG
       have hG:bs=_:=hG
       subst hG
       simp only [zH,zI,Given,Facts,and_true] at hg
       obtain ⟨e0,_,_,_,_,_,_,Z,e7,h7⟩:=hg
       have hg:=And.intro e0 e7
       simp only [textL,actL,dstAt,opAt,zH,zI,zA,zB,zK,if_true,Act.put,zE,zF,zG,hg]
       refine ⟨?_⟩
       refine wpStep_of (fun K hK=>?_)
       have HK:=Lib.hid hK
       clear hK
       rw [if_pos (by rfl)]
       refine wp_apS hS 0 rfl (p:=J9) (.inl (PH.le.refl _)) rfl Tryz.underlying28 int_info rfl (by decide) rfl HO.out rfl (news:=[nv q]) rfl (fun _=>?_) (fun u hu=>by rw [List.mem_singleton] at hu;rw [hu];rfl) (by unfold maxLen;omega) (by omega) fun v' m' w2 hO2 hS2=>?_
       · refine ⟨Z,0,rfl,fun j v hj=>?_⟩
         cases j with
         | zero=>simp only [zB,Option.some.injEq] at hj;rw [← hj];exact h7
         | succ j=>simp at hj
       · refine HK.out _ _ ⟨rfl,J9,_,PH.le.refl _,hS2,trivial,by decide,m',?_,rfl⟩
         simp only [outOf,zI,Act.put,zE,zF,zG,zD,zC,zA,zB,zJ]
         rw [upd_self,Htk.out]
         exact hO2
     · intro vals J9 bs w hg hJ9 hS hG
       obtain ⟨_,m',hO2,rfl⟩:=hG
       simp only [zI] at hO2
       simp only [zH,zI,Given,Facts] at hg;simp only [textL,actL,dstAt,opAt,zH,zI,zA,zB,zK,if_true,Act.put,zE,zF,zG,hg];refine ⟨?_⟩;refine wpStep_of (fun K hK=>?_);have HK:=Lib.hid hK;clear hK;rw [if_pos (by rfl)]
       refine wp_as ?_
       refine HK.out _ _ ⟨rfl,J9,_,PH.le.refl _,hS,trivial,by decide,m',?_,rfl⟩
       simp only [outOf,zH,zI,Act.put,zE,zF,zG,zD,zC,zA,zB,zJ]
       rw [upd_self]
       exact hO2
    case fin =>
     intro vals J9 bs w hJ9 hg hS hG
     obtain ⟨_,m',hO2,rfl⟩:=hG
     simp only [zG] at hS
     simp only [zH,zI] at hO2
     have HO2:=Lib.hid hO2
     have HJ9:=Lib.hid hJ9
     clear hO2 hJ9
     simp only [List.length_cons,List.length_nil,Nat.reduceAdd,Below_,Facts,zH,zI,true_and,and_true] at hg
     obtain ⟨⟨⟨⟨⟨⟨⟨e0,e1⟩,e2⟩,e3⟩,e4⟩,e5⟩,e6⟩,Z,e7,h7⟩:=hg
     have hg:=And.intro e0 (And.intro e1 (And.intro e2 (And.intro e3 (And.intro e4 (And.intro e5 (And.intro e6 e7))))))
     simp only [List.length_cons,List.length_nil,Nat.reduceAdd,textL,actL,dstAt,zA,zB,zK,if_true,Act.put,zE,zF,zG,hg]
     refine ⟨?_⟩
     clear hg e0 e1 e2 e3 e4 e5 e6 e7 h7
     go_wp2_with fail
     exact ⟨⟨i+1,m',J9,by omega,by go_num,PH.le.trans HJ.out HJ9.out,HO2.out,hS⟩,by simp [intOf];omega⟩
  · have hie:i=N:=by omega
    subst hie
    have iS:=HIx.out.le hJ
    have s0:J.at X2 0=some (nv a):=iS 0 _ rfl
    have s1:J.at X2 1=some (nv b):=iS 1 _ rfl
    clear hJ iS
    go_wp2_with (first|((with_reducible refine atList ?_);first|((with_reducible refine isLoad ?_);( ((refine' ldI1 (v:=_) hS rfl rfl ?ha rfl ?hb ?_);(case ha=>exact ty_agg3);(case hb=>assumption)) );(try simp only [Act.put,zE,zF,zG]))|((with_reducible refine isStore ?_);( (refine stN 1 hS rfl rfl rfl rfl rfl ?ha rfl rfl ?_;(case ha=>exact ty_sz31)));clear hS;intro w hS;(try simp only [zF,zG,Act.eval,zD,zC,zA,zB,zJ,Value.cells] at hS);(try simp only [Act.put])) ))
    obtain ⟨J2,a2,e2,hS2,_⟩:=hS.ice
    refine bodyPost_ret (res1 rfl (rvN 1 hS rfl rfl ty_agg31 ty_sz31)) rfl ?_
    exact ⟨_,_,J2,rfl,PH.le.trans (PH.le.trans HJ1.out HJ.out) a2,(HR1.out.le HJ.out).le a2,HF.out m J2 _ _ rfl e2 HO.out,hS2.drop⟩
end Go.Proofs.YtdhkkkhnjooioaaGreat
namespace Go.Proofs.YtdhkkkhnjooioaaGreat
open Go.RowKit
set_option maxRecDepth 100000 in
set_option maxHeartbeats 4000000 in
theorem rmk_9 {E w:World} {I:PH} {ms:List PH} {a room:Nat} {ov lv hv x y:Value} {l:List G.Tb} {h os:List Nat} {v:Int} (hl:RowsR I lv l) (hh:NumR I hv h) (hoo:NumR I ov os) (hol:os.length≤4) (hk:lvlOf os v<0) (hS:Sat E I ms w) :
 Calls Tryz.prog 33 #[.agg #[nv a,nv room,ov,lv,hv],.int .i64 v,x,y] w fun e w'=>e=.returned (.tuple #[.agg #[nv a,nv room,ov,lv,hv],.slice none 0 0,.int .i64 9])∧Sat E I ms w':=by
 have hk1:lvlOf os v = -1:=by
  unfold lvlOf at hk ⊢
  cases hq:os.findIdx? (fun u:Nat=>(u:Int) == v) with
  | none=>rfl
  | some i=>rw [hq] at hk;exact absurd hk (by show ¬ (i:Int)<0;omega)
 have hLv:=fun (a b z1 z2:Value) (w':World) (ms':List PH) (h9:Sat E I ms' w')=>rlevel_any (a:=a) (b:=b) (y:=z1) (z:=z2) (v:=v) hoo (by omega) h9
 rw [hk1] at hLv
 have HLv:=Lib.hid hLv
 clear hLv hk hk1
 obtain ⟨⟨oA,oC,rfl⟩,_⟩:=hoo
 obtain ⟨⟨A,c,rfl⟩,_⟩:=hl.get
 obtain ⟨⟨B,d,rfl⟩,_⟩:=hh
 clear hl hol
 generalize os.length=q0 at *
 generalize l.length=q1 at *
 generalize h.length=q2 at *
 go_enter Tryz.func33,Tryz.ntmps33
 go_wp2_with (first
  | (go_at_call 68;(with_reducible refine Calls.mono (HLv.out _ _ _ _ _ _ hS) ?_);clear hS;rintro e w ⟨rfl,hS⟩)
  | ((with_reducible refine atList ?_);first|((with_reducible refine isBoxD 4 ?_);refine bx hS rfl rfl rfl ?_;clear hS;intro X4 w hS;(try simp only [Act.eval,zD,zC,zB,zJ,Value.cells] at hS);(try simp only [Act.put,zE,zF,zG]))|((with_reducible refine isAllocD 8 ?_);(refine' al (z:=_) hS rfl rfl ?ha ?_);(case ha=>exact ty_z31);clear hS;intro R8 w hS;(try simp only [Value.cells] at hS);(try simp only [Act.put,zE,zF,zG]))|((with_reducible refine isLoad ?_);( (refine ldN 1 hS rfl rfl ?ha rfl rfl ?hb ?_;(case ha=>exact ty_agg31);(case hb=>exact ty_sz31)) );(try simp only [Act.put,zE,zF,zG]))|((with_reducible refine isStore ?_);( (refine stN 0 hS rfl rfl rfl rfl rfl ?ha rfl rfl ?_;(case ha=>exact ty_sz31)) );clear hS;intro w hS;(try simp only [zG,Act.eval,zD,zC,zA,zB,zJ,Value.cells] at hS);(try simp only [Act.put])) ))
 refine bodyPost_ret (res3 rfl (rvN 0 hS rfl rfl ty_agg31 ty_sz31) (rvt rfl) (rvt rfl)) rfl ?_
 exact ⟨rfl,hS.drop.drop⟩
set_option maxRecDepth 100000 in
set_option maxHeartbeats 8000000 in
theorem rmk_10 {E w:World} {I:PH} {ms:List PH} {a room n k:Nat} {ov lv hv x y:Value} {l:List G.Tb} {h os:List Nat} {X Y:G.Tb} {v:Int} (hl:RowsR I lv l) (hh:NumR I hv h) (hoo:NumR I ov os) (ho:G.Ordr n os) (hon:os.length=n) (hn:n≤4) (hx:BoolR I x X) (hy:BoolR I y Y) (hX:G.IsT n X) (hY:G.IsT n Y) (hk:lvlOf os v=(k:Int)) (hkn:k<n) (hbad:¬ (k<G.rkT os X∧k<G.rkT os Y)) (hS:Sat E I ms w) :
 Calls Tryz.prog 33 #[.agg #[nv a,nv room,ov,lv,hv],.int .i64 v,x,y] w fun e w'=>e=.returned (.tuple #[.agg #[nv a,nv room,ov,lv,hv],.slice none 0 0,.int .i64 10])∧Sat E I ms w':=by
 have hp:2 ^ n≤16:=Nat.le_trans (Nat.pow_le_pow_right (show (2:Nat) > 0 by decide) hn) (by decide)
 have hp0:=Nat.two_pow_pos n
 have hLv:=fun (vv:Int) (a b z1 z2:Value) (w':World) (ms':List PH) (h9:Sat E I ms' w')=>rlevel_any (a:=a) (b:=b) (y:=z1) (z:=z2) (v:=vv) hoo (by omega) h9
 have HLv:=Lib.hid hLv
 have hHx:=fun (u:Nat) (hu:u<n) (w':World) (ms':List PH) (h9:Sat E I ms' w')=>rhangs_any hx (show X.length=2 ^ n from hX) hu (by omega) h9
 have hHy:=fun (u:Nat) (hu:u<n) (w':World) (ms':List PH) (h9:Sat E I ms' w')=>rhangs_any hy (show Y.length=2 ^ n from hY) hu (by omega) h9
 have hoo2:=hoo
 obtain ⟨⟨oA,oC,rfl⟩,_⟩:=hoo2
 have hld:∀ i,i<os.length→∃ O u,oA=some ⟨O,0,none⟩∧os[i]?=some u∧I.at O i=some (nv u)∧u<n:=fun i hi=>by
  obtain ⟨O,d,h1,h2⟩:=hoo.2 (by omega)
  injection h1 with h1
  have hu:=List.getElem?_eq_getElem hi
  exact ⟨O,_,h1,hu,h2 i _ hu,ho.lt _ (List.getElem_mem hi)⟩
 have hlow:∀ (Z:G.Tb) (i u:Nat),i<G.rkT os Z→os[i]?=some u→G.hangsT Z u=false:=fun Z i u hi hu=>by
  obtain ⟨h1,h2⟩:=List.getElem?_eq_some_iff.1 hu
  have:=List.not_of_lt_findIdx (show i<os.findIdx (G.hangsT Z) from hi)
  rw [h2] at this
  simpa using this
 have hhit:∀ (Z:G.Tb) (i u:Nat),i=G.rkT os Z→os[i]?=some u→G.hangsT Z u=true:=fun Z i u hi hu=>by
  obtain ⟨h1,h2⟩:=List.getElem?_eq_some_iff.1 hu
  have h3:os.findIdx (G.hangsT Z)<os.length:=by have:i=os.findIdx (G.hangsT Z):=hi;omega
  have hi2:i=os.findIdx (G.hangsT Z):=hi
  subst hi2
  rw [← h2]
  exact List.findIdx_getElem
 have HHx:=Lib.hid hHx
 have HHy:=Lib.hid hHy
 have Hld:=Lib.hid hld
 have Hlow:=Lib.hid hlow
 have Hhit:=Lib.hid hhit
 obtain ⟨⟨A,c,rfl⟩,_⟩:=hl.get
 obtain ⟨⟨B,d,rfl⟩,_⟩:=hh
 obtain ⟨P,hP1,hP2,hPk,hPc⟩:∃ P,P≤G.rkT os X∧P≤G.rkT os Y∧P≤k∧(P=G.rkT os X∨(P<G.rkT os X∧P=G.rkT os Y)):=by
  by_cases h1:G.rkT os X≤G.rkT os Y
  · exact ⟨G.rkT os X,by omega,h1,by omega,.inl rfl⟩
  · exact ⟨G.rkT os Y,by omega,by omega,by omega,.inr ⟨by omega,rfl⟩⟩
 have hkl:k<os.length:=by omega
 clear hl hoo ho hbad hp hp0 hLv hHx hHy hld hlow hhit hX hY hx hy hon
 generalize os.length=q0 at *
 generalize l.length=q1 at *
 generalize h.length=q2 at *
 go_enter Tryz.func33,Tryz.ntmps33
 go_wp2_with (first
  | (go_at_call 68;(with_reducible refine Calls.mono (HLv.out _ _ _ _ _ _ _ hS) ?_);clear hS;rintro e w ⟨rfl,hS⟩;try simp only [hk])
  | ((with_reducible refine atList ?_);first|((with_reducible refine isBoxD 4 ?_);refine bx hS rfl rfl rfl ?_;clear hS;intro X4 w hS;(try simp only [Act.eval,zD,zC,zB,zJ,Value.cells] at hS);(try simp only [Act.put,zE,zF,zG]))|((with_reducible refine isAllocD 8 ?_);(refine' al (z:=_) hS rfl rfl ?ha ?_);(case ha=>exact ty_z31);clear hS;intro R8 w hS;(try simp only [Value.cells] at hS);(try simp only [Act.put,zE,zF,zG]))|((with_reducible refine isLoad ?_);( (refine ldN 1 hS rfl rfl ?ha rfl rfl ?hb ?_;(case ha=>exact ty_agg31);(case hb=>exact ty_sz31)) );(try simp only [Act.put,zE,zF,zG])) ))
 clear hk
 go_loopw [12] (fun v12 wr=>∃ i:Nat,i≤P∧v12=.int .i64 (i:Int)∧Sat E I (PH.one R8 (.cells #[.int .i64 0,.int .i64 0,.slice none 0 0,.slice none 0 0,.slice none 0 0] 31)::PH.one X4 (.cells #[nv a,nv room,.slice oA q0 oC,.slice A q1 c,.slice B q2 d] 31)::ms) wr) (fun v12 _=>(P+1 - intOf v12).toNat)
 case atStart=>exact ⟨0,Nat.zero_le _,rfl,hS⟩
 case round =>
  clear hS
  obtain ⟨i,hi,rfl,hS⟩:=hrel
  obtain ⟨O,u,rfl,hu,iO,hun⟩:=Hld.out i (by omega)
  have ik:(i:Int)≤(k:Int):=by omega
  have iq:(i:Int)<(q0:Int):=by omega
  by_cases hlt:i<P
  · have HA:=Lib.hid (fun (w':World) (ms':List PH) (h9:Sat E I ms' w')=>HHx.out u hun w' ms' h9)
    have HB:=Lib.hid (fun (w':World) (ms':List PH) (h9:Sat E I ms' w')=>HHy.out u hun w' ms' h9)
    rw [Hlow.out X i u (by omega) hu] at HA
    rw [Hlow.out Y i u (by omega) hu] at HB
    clear hu hun hP1 hP2 hPc
    go_wp2_with (first
     | (go_at_call 64;first|((with_reducible refine Calls.mono (HA.out _ _ hS) ?_);clear hS;rintro e w ⟨rfl,hS⟩)|((with_reducible refine Calls.mono (HB.out _ _ hS) ?_);clear hS;rintro e w ⟨rfl,hS⟩))
     | ((with_reducible refine atList ?_);first|((with_reducible refine isGuard ?_);  ((with_reducible refine guarded_yes ?hw ?_);case hw=>(simp only [Region.wanted,yielded,zC,zA,zB,zK,beq_self_eq_true];done)) )|((with_reducible refine isLoad ?_);(first|(refine ld1 1 hS rfl rfl ?ha rfl rfl rfl ?_;(case ha =>  exact ty_agg28))|((refine' ldI1 (v:=_) hS rfl rfl ?ha rfl ?hb ?_);(case ha =>  exact ty_agg3 );(case hb=>assumption)));(try simp only [Act.put,zE,zF,zG])) ))
    exact ⟨⟨i+1,by omega,by go_num,hS⟩,by simp [intOf];omega⟩
  · obtain rfl:i=P:=by omega
    have HA:=Lib.hid (fun (w':World) (ms':List PH) (h9:Sat E I ms' w')=>HHx.out u hun w' ms' h9)
    have HB:=Lib.hid (fun (w':World) (ms':List PH) (h9:Sat E I ms' w')=>HHy.out u hun w' ms' h9)
    rcases hPc with hPc|⟨hPc,hPd⟩
    · rw [Hhit.out X i u hPc hu] at HA
      clear hu hun hP1 hP2 hPc
      go_wp2_with (first
       | (go_at_call 64;((with_reducible refine Calls.mono (HA.out _ _ hS) ?_);clear hS;rintro e w ⟨rfl,hS⟩))
       | ((with_reducible refine atList ?_);first|((with_reducible refine isLoad ?_);(first|(refine ld1 1 hS rfl rfl ?ha rfl rfl rfl ?_;(case ha =>  exact ty_agg28))|(refine ldN 1 hS rfl rfl ?ha rfl rfl ?hb ?_;(case ha=>exact ty_agg31);(case hb=>exact ty_sz31))|((refine' ldI1 (v:=_) hS rfl rfl ?ha rfl ?hb ?_);(case ha =>  exact ty_agg3 );(case hb=>assumption)) );(try simp only [Act.put,zE,zF,zG]))|((with_reducible refine isStore ?_);( (refine stN 0 hS rfl rfl rfl rfl rfl ?ha rfl rfl ?_;(case ha=>exact ty_sz31)) );clear hS;intro w hS;(try simp only [zG,Act.eval,zD,zC,zA,zB,zJ,Value.cells] at hS);(try simp only [Act.put])) ))
      refine bodyPost_ret (res3 rfl (rvN 0 hS rfl rfl ty_agg31 ty_sz31) (rvt rfl) (rvt rfl)) rfl ?_
      exact ⟨rfl,hS.drop.drop⟩
    · rw [Hlow.out X i u hPc hu] at HA
      rw [Hhit.out Y i u hPd hu] at HB
      clear hu hun hP1 hP2 hPc hPd
      go_wp2_with (first
       | (go_at_call 64;first|((with_reducible refine Calls.mono (HA.out _ _ hS) ?_);clear hS;rintro e w ⟨rfl,hS⟩)|((with_reducible refine Calls.mono (HB.out _ _ hS) ?_);clear hS;rintro e w ⟨rfl,hS⟩))
       | ((with_reducible refine atList ?_);first|((with_reducible refine isGuard ?_);  ((with_reducible refine guarded_yes ?hw ?_);case hw=>(simp only [Region.wanted,yielded,zC,zA,zB,zK,beq_self_eq_true];done)) )|((with_reducible refine isLoad ?_);(first|(refine ld1 1 hS rfl rfl ?ha rfl rfl rfl ?_;(case ha =>  exact ty_agg28))|(refine ldN 1 hS rfl rfl ?ha rfl rfl ?hb ?_;(case ha=>exact ty_agg31);(case hb=>exact ty_sz31))|((refine' ldI1 (v:=_) hS rfl rfl ?ha rfl ?hb ?_);(case ha =>  exact ty_agg3 );(case hb=>assumption)) );(try simp only [Act.put,zE,zF,zG]))|((with_reducible refine isStore ?_);( (refine stN 0 hS rfl rfl rfl rfl rfl ?ha rfl rfl ?_;(case ha=>exact ty_sz31)) );clear hS;intro w hS;(try simp only [zG,Act.eval,zD,zC,zA,zB,zJ,Value.cells] at hS);(try simp only [Act.put])) ))
      refine bodyPost_ret (res3 rfl (rvN 0 hS rfl rfl ty_agg31 ty_sz31) (rvt rfl) (rvt rfl)) rfl ?_
      exact ⟨rfl,hS.drop.drop⟩
end Go.Proofs.YtdhkkkhnjooioaaGreat
