import Derived.Test.YtdhkkkhnjooioaaGreatZbm
set_option linter.unusedSimpArgs false
set_option linter.unusedVariables false
namespace Go.Proofs.YtdhkkkhnjooioaaGreat
open Go.RowKit
theorem kn_info:(Tryz.prog.info? 38).map (fun i=>(i.zero,i.size,i.bytes))=some (some (.agg #[.int .i64 0,.slice none 0 0]),2,32):=by kernel_rfl
def knC (p:Nat × Value):List Value:=[nv p.1,p.2]
theorem knC_len (p:Nat × Value):(knC p).length=2:=rfl
def KnVs (J:PH) (us:List (Nat × Value)) (ks:List (Nat × G.Tb)):Prop:=us.length=ks.length∧∀ (i:Nat) (k:Nat × G.Tb),ks[i]?=some k→∃ x,us[i]?=some (k.1,x)∧BoolR J x k.2
theorem KnVs.le {J K:PH} {us:List (Nat × Value)} {ks:List (Nat × G.Tb)} (h:KnVs J us ks) (hJ:J.le K):KnVs K us ks:=⟨h.1,fun i k hk=>by obtain ⟨x,h1,h2⟩:=h.2 i k hk;exact ⟨x,h1,h2.le hJ⟩⟩
theorem KnVs.snoc {J:PH} {us:List (Nat × Value)} {ks:List (Nat × G.Tb)} {x:Value} {k:Nat × G.Tb} (h:KnVs J us ks) (hx:BoolR J x k.2):KnVs J (us ++ [(k.1,x)]) (ks ++ [k]):=by
 refine ⟨by rw [List.length_append,List.length_append,h.1];rfl,fun i k' hk=>?_⟩
 by_cases hlt:i<ks.length
 · rw [List.getElem?_append_left hlt] at hk
   obtain ⟨y,h1,h2⟩:=h.2 i k' hk
   exact ⟨y,by rw [List.getElem?_append_left (by rw [h.1];exact hlt)];exact h1,h2⟩
 · have hle:=(List.getElem?_eq_some_iff.1 hk).1
   rw [List.length_append,List.length_singleton] at hle
   obtain rfl:i=ks.length:=by omega
   rw [List.getElem?_append_right (Nat.le_refl _),Nat.sub_self] at hk
   injection hk with hk
   subst hk
   exact ⟨x,by rw [List.getElem?_append_right (by rw [h.1];exact Nat.le_refl _),h.1,Nat.sub_self];rfl,hx⟩
def KnRd (J K:PH) (v:Value) (ks:List (Nat × G.Tb)):Prop:=(∃ A c,v=.slice A ks.length c)∧∀ (i:Nat) (k:Nat × G.Tb),ks[i]?=some k→∃ X c x,v=.slice (some ⟨X,0,none⟩) ks.length c∧K.at X (i * 2)=some (nv k.1)∧K.at X (i * 2+1)=some x∧BoolR J x k.2∧Cells K X (i * 2) [nv k.1,x]
def KnAt (J m:PH) (v:Value) (ks:List (Nat × G.Tb)):Prop:=∃ us,KnVs J us ks∧OwnP m 38 2 v ks.length (us.flatMap knC)
theorem KnAt.le {J K m:PH} {v:Value} {ks:List (Nat × G.Tb)} (h:KnAt J m v ks) (hJ:J.le K):KnAt K m v ks:=by
 obtain ⟨us,h1,h2⟩:=h
 exact ⟨us,h1.le hJ,h2⟩
theorem KnAt.rd {J K m:PH} {v:Value} {ks:List (Nat × G.Tb)} (h:KnAt J m v ks) (hm:m.le K):KnRd J K v ks:=by
 obtain ⟨us,h1,h2⟩:=h
 obtain ⟨A,c,rfl,_⟩:=h2.shape
 refine ⟨⟨A,c,rfl⟩,fun i k hk=>?_⟩
 obtain ⟨x,hu,hx⟩:=h1.2 i k hk
 have hlt:=(List.getElem?_eq_some_iff.1 hk).1
 obtain ⟨X,c',e,_⟩:=h2.ptr (by omega)
 injection e with e1 e2 e3
 subst e1 e3
 have hc:=(flat_cells knC_len h2 hu).le hm
 exact ⟨X,c,x,rfl,hc.at 0 rfl,hc 1 _ rfl,hx,hc⟩
theorem KnAt.snoc {J m:PH} {v x:Value} {us:List (Nat × Value)} {ks:List (Nat × G.Tb)} {k:Nat × G.Tb} (h:KnVs J us ks) (hx:BoolR J x k.2) (hO:OwnP m 38 2 v (ks.length+1) (us.flatMap knC ++ [nv k.1,x])):KnAt J m v (ks ++ [k]) :=
 ⟨us ++ [(k.1,x)],h.snoc hx,by rw [List.flatMap_append,List.length_append];exact hO⟩
set_option maxRecDepth 100000 in
set_option maxHeartbeats 4000000 in
theorem counting_any {E w:World} {I0 I:PH} {ms:List PH} {a b n:Nat} {ov lv hv kv:Value} {l:List G.Tb} {h os:List Nat} {ks:List (Nat × G.Tb)} (hl:RowsR I lv l) (hh:NumR I hv h) (hlen:h.length=l.length) (hoo:NumR I ov os) (ho:G.Ordr n os) (hon:os.length=n) (hn:n≤4) (hT:∀ y ∈ l,G.IsT n y) (hb:l.length≤1500) (hk:KnRd I0 I kv ks) (hI0:I0.le I) (hkT:∀ k ∈ ks,G.IsT n k.2) (hkl:ks.length≤100) (hS:Sat E I ms w) :
 Calls Tryz.prog 27 #[.agg #[nv a,nv b,ov,lv,hv],kv] w fun e w'=>∃ v m,e=.returned v∧KnAt I0 m v (ks.filter fun k=>decide (G.topT os k.2=none∨G.normT k.2 ∈ G.cntU (n+1) os l h l.length))∧Sat E I (m::ms) w':=by
 have HC:=Lib.hid (fun (w':World) (ms':List PH) (J:PH) (x:Value) (t:G.Tb) (hJ:I.le J) (hx:BoolR J x t) (ht:G.IsT n t) (h9:Sat E J ms' w')=>rcounts_any (a:=a) (b:=b) (hl.le hJ) (hh.le hJ) hlen (hoo.le hJ) ho hon hn hT hb hx ht h9)
 generalize hpp:(fun k:Nat × G.Tb=>decide (G.topT os k.2=none∨G.normT k.2 ∈ G.cntU (n+1) os l h l.length))=pp
 have hpe:∀ k,decide (G.topT os k.2=none∨G.normT k.2 ∈ G.cntU (n+1) os l h l.length)=pp k:=fun k=>by rw [← hpp]
 have hld:∀ i,i<ks.length→∃ k X c x,ks[i]?=some k∧kv=.slice (some ⟨X,0,none⟩) ks.length c∧I.at X (i * 2)=some (nv k.1)∧I.at X (i * 2+1)=some x∧BoolR I0 x k.2∧Cells I X (i * 2) [nv k.1,x]∧(ks.take (i+1)).filter pp=(ks.take i).filter pp ++ (if pp k then [k] else []) ∧
  (∀ (w':World) (ms':List PH) (J:PH),I.le J→Sat E J ms' w'→Calls Tryz.prog 65 #[.agg #[nv a,nv b,ov,lv,hv],x] w' fun e w''=>e=.returned (.bool (pp k))∧Sat E J ms' w''):=fun i hi=>by
  have h1:=List.getElem?_eq_getElem hi
  obtain ⟨X,c,x,h2,h3,h4,h5,h6⟩:=hk.2 i _ h1
  refine ⟨_,X,c,x,h1,h2,h3,h4,h5,h6,?_,fun w' ms' J hJ h9=>?_⟩
  · rw [List.take_add_one,h1,List.filter_append]
    congr 1
    show List.filter pp [ks[i]]=_
    rw [List.filter_cons]
    rfl
  · rw [← hpe]
    exact HC.out w' ms' J x _ hJ (h5.le (PH.le.trans hI0 hJ)) (hkT _ (List.getElem_mem hi)) h9
 obtain ⟨⟨A,c,rfl⟩,_⟩:=hl.get
 obtain ⟨⟨B,d,rfl⟩,_⟩:=hh
 obtain ⟨⟨oA,oC,rfl⟩,_⟩:=hoo
 obtain ⟨⟨K,kc,rfl⟩,_⟩:=hk
 clear hI0
 have Hld:=Lib.hid hld
 clear hl hpp hpe HC hlen ho hon hT hb hkT hld
 have hfl:∀ i,((ks.take i).filter pp).length≤100:=fun i=>by
  have h1:=List.length_filter_le pp (ks.take i)
  have h2:=List.length_take_le' i ks
  omega
 have Hfl:=Lib.hid hfl
 have hfull:ks.filter pp=(ks.take ks.length).filter pp:=by rw [List.take_length]
 rw [hfull]
 clear hfl hfull
 generalize ks.length=N at *
 generalize l.length=q2 at *
 generalize h.length=q1 at *
 generalize os.length=q0 at *
 go_enter Tryz.func27,Tryz.ntmps27
 go_wp2_with (first|((with_reducible refine isBuildSlice ?_);(refine' bsl hS ?hr ?_);(case hr=>(intro w0;go_simp;rfl));clear hS;intro XS w hS;(try simp only [zF,zG,zE,Act.eval,zD,zC,zA,zB,zJ,Value.cells] at hS);(try simp only [Act.put,zE,zF,zG]))|((with_reducible refine atList ?_);  ((with_reducible refine isBoxD 2 ?_);refine bx hS rfl rfl rfl ?_;clear hS;intro X2 w hS;(try simp only [Act.eval,zD,zC,zB,zJ,Value.cells] at hS);(try simp only [Act.put,zE,zF,zG])) ))
 have hSp:=hS.perm (perm_front 1 rfl)
 simp only [List.eraseIdx_cons_succ,List.eraseIdx_cons_zero] at hSp
 obtain ⟨I1,a1,e1,hS1,_⟩:=hSp.ice
 have ix:Cells I1 X2 0 [nv a,nv b,.slice oA q0 oC,.slice A q2 c,.slice B q1 d]:=(Cells.one X2 #[nv a,nv b,.slice oA q0 oC,.slice A q2 c,.slice B q1 d] 31 (0,0)).le e1
 have A1:=Lib.hid a1
 clear hS hSp e1
 have hS:=hS1
 clear hS1
 go_loopw [5,6] (fun v5 v6 wr=>∃ (i:Nat) (m:PH),i≤N∧v6=.int .i64 (i:Int)∧KnAt I0 m v5 ((ks.take i).filter pp)∧Sat E I1 (m::ms) wr) (fun _ v6 _=>(N - intOf v6).toNat)
 case atStart=>exact ⟨0,_,Nat.zero_le _,rfl,⟨[],⟨rfl,fun i k h=>by simp at h⟩,OwnP.lit XS 38 2 0 #[] (by decide) rfl⟩,hS⟩
 case round =>
  clear hS
  obtain ⟨i,m,hi,rfl,hK,hS⟩:=hrel
  by_cases hlt:i<N
  · obtain ⟨k,X,c',x,hki,e,i0,i1,hx,hcell,hf,hcs⟩:=Hld.out i hlt
    injection e with e1 e2 e3
    subst e1 e3
    clear e2
    obtain ⟨us,hus,hO⟩:=hK
    have HO:=Lib.hid hO
    have Hus:=Lib.hid hus
    obtain ⟨A5,c5,rfl,_⟩:=hO.shape
    have hx9:=hx
    obtain ⟨⟨Ax,cx,rfl⟩,_⟩:=hx9
    have Hx:=Lib.hid hx
    have j1:=PH.at_le a1 i1
    have jc:=hcell.le a1
    have HCs:=Lib.hid hcs
    have Hf:=Lib.hid hf
    have ii:(i:Int)<(N:Int):=by omega
    have hfi:=Hfl.out i
    have Hki:=Lib.hid hki
    clear hO hus hx i0 i1 hcell hcs hf a1 hki
    generalize hfn:((ks.take i).filter pp).length=fn at *
    have Hfn:=Lib.hid hfn
    clear hfn
    go_upto_region 5 with fail
    refine region_f0 [[],[],[],[1,2],[1,2,3],[1,2,3,4],[0,1,2,3,4,5]] E I1 _
     [fun v _=>v=.agg #[nv a,nv b,.slice oA q0 oC,.slice A q2 c,.slice B q1 d],fun v _=>v=.slice (some ⟨X,0,none⟩) N kc,fun v _=>v=nv i,fun v _=>v=.pointer (some ⟨X,i * 2,none⟩),fun v _=>v=.pointer (some ⟨X,i * 2+1,none⟩),fun v _=>v=.slice Ax k.2.length cx,fun v _=>v=.bool (pp k)] (by kernel_rfl) (by kernel_rfl) hS ?_ ?plain ?fin
    · repeat (first|exact Lasting.nil|refine Lasting.cons (fun _ _ _ _ h=>h) ?_)
    case plain =>
     repeat' (first|exact trivial|apply And.intro)
     all_goals  ((refine .inr ?_;intro vals J bs w hg hJ hS;simp only [zH,zI,Given,Facts] at hg;simp only [textL,actL,dstAt,opAt,zH,zI,zA,zB,zK,if_true,Act.put,zE,zF,zG,hg];refine ⟨?_⟩;refine wpStep_of (fun K hK=>?_);have HK:=Lib.hid hK;clear hK;rw [if_pos (by rfl)];(first|((with_reducible refine atLoad ?_);first|((refine' wp_ldi1 (v:=_) hS hJ ?ha rfl ?hc ?_);(case ha=>first|exact ty_agg35);(case hc=>assumption))|((refine' wp_ldiN (vs:=_) hS hJ ?ha rfl ?hc ?hb ?_);(case ha=>first|exact ty_agg31);(case hc=>assumption);(case hb=>first|exact ty_sz31)))|(go_wp2_with (first|(go_at_call 65;((with_reducible refine Calls.mono (HCs.out _ _ _ (PH.le.trans A1.out hJ) hS) ?_);clear hS;rintro e w2 ⟨rfl,hS⟩)))));( refine HK.out _ _ ⟨rfl,J,PH.le.refl _,hS,?_⟩ );clear HK;simp only [Facts,outOf,zH,zI,Act.put,zE,zF,zG,zD,zC,zA,zB,zJ]);  done )
    case fin =>
     clear hS
     intro vals J w hJ hg hS
     simp only [List.length_cons,List.length_nil,Nat.reduceAdd,Below_,Facts,zH,zI,true_and] at hg;simp only [List.length_cons,List.length_nil,Nat.reduceAdd,textL,actL,dstAt,zA,zB,zK,if_true,Act.put,zE,zF,zG,hg];refine ⟨?_⟩
     have hS:=hS.less hJ
     clear hg hJ
     cases hpk:pp k with
     | true =>
       rw [hpk] at Hf
       clear hpk
       go_wp2_with (first|((with_reducible refine isAppend ?_);(refine' apP (p:=_) (m:=_) (v:=_) (n:=_) (xs:=_) (news:=_) 1 (.inr (List.Mem.head _)) hS rfl rfl rfl Tryz.underlying39 kn_info rfl (by decide) rfl HO.out rfl ?hl ?hcl ?h1 ?h63 ?hby ?_);(case hcl=>exact Cells.one _ _ _ _);(case hl=>rfl);(case h1=>rfl);(case h63=>(unfold maxLen;omega));(case hby=>omega);clear hS;intro v1 m1 w hO1 hS;have HO1:=Lib.hid hO1;clear hO1;(try simp only [zF,zG] at hS);(try simp only [Act.put,zE,zF,zG]))|((with_reducible refine isLoad ?_);(refine' ldIN (vs:=_) hS rfl rfl ty_agg38 rfl ?hc ?hb ?_);(case hc=>exact jc);(case hb=>exact ty_sz38);(try simp only [Act.put,zE,zF,zG]))|((with_reducible refine isBuildSlice ?_);(refine' bsl hS ?hr ?_);(case hr=>(intro w0;go_simp;rfl));clear hS;intro XS w hS;(try simp only [zF,zG,zE,Act.eval,zD,zC,zA,zB,zJ,Value.cells] at hS);(try simp only [Act.put,zE,zF,zG])))
       refine ⟨⟨i+1,m1,by omega,by go_num,?_,hS.drop⟩,by simp [intOf];omega⟩
       rw [Hf.out]
       exact KnAt.snoc Hus.out Hx.out (by rw [Hfn.out];exact HO1.out)
     | false =>
       rw [hpk] at Hf
       clear hpk
       go_wp2_with fail
       refine ⟨⟨i+1,m,by omega,by go_num,?_,hS⟩,by simp [intOf];omega⟩
       rw [Hf.out]
       simp only [Bool.false_eq_true,if_false,List.append_nil]
       exact ⟨us,Hus.out,by rw [Hfn.out];exact HO.out⟩
  · have hie:i=N:=by omega
    subst hie
    go_wp2_with fail
    go_ret
    exact ⟨_,m,rfl,hK,hS.less a1⟩
theorem counting_own {E w:World} {I0 I mk:PH} {ms:List PH} {a b n:Nat} {ov lv hv kv:Value} {l:List G.Tb} {h os:List Nat} {ks:List (Nat × G.Tb)} (hl:RowsR I lv l) (hh:NumR I hv h) (hlen:h.length=l.length) (hoo:NumR I ov os) (ho:G.Ordr n os) (hon:os.length=n) (hn:n≤4) (hT:∀ y ∈ l,G.IsT n y) (hb:l.length≤1500) (hk:KnAt I0 mk kv ks) (hI0:I0.le I) (hkT:∀ k ∈ ks,G.IsT n k.2) (hkl:ks.length≤100) (hS:Sat E I (mk::ms) w) :
 Calls Tryz.prog 27 #[.agg #[nv a,nv b,ov,lv,hv],kv] w fun e w'=>∃ v m,e=.returned v∧KnAt I0 m v (ks.filter fun k=>decide (G.topT os k.2=none∨G.normT k.2 ∈ G.cntU (n+1) os l h l.length))∧Sat E I (m::mk::ms) w':=by
 obtain ⟨J,a1,e1,hS1,bk⟩:=hS.ice
 refine (counting_any (hl.le a1) (hh.le a1) hlen (hoo.le a1) ho hon hn hT hb (hk.rd e1) (PH.le.trans hI0 a1) hkT hkl hS1).mono ?_
 rintro e w' ⟨v,m,rfl,h1,h2⟩
 exact ⟨v,m,rfl,h1,(bk _ _ h2).perm (List.Perm.swap _ _ _)⟩
theorem ldPN {P:Program} {o:Oper} {a:Act} {w:World} {Q:Exit→Act→World→Prop} {ops:Array Oper} {rest:List Oper} {p:PH} (hp:p.le (heapOf w)) (hg:o.guard=none) {T:TypeId} {x:Operand} (ho:o.op=.load T x) (hT:aggB P T=some true) {X off:Nat} {vs:List Value} (hx:a.eval x=.pointer (some ⟨X,off,none⟩)) (hc:Cells p X off vs) (hs:sizeB P T=some vs.length) (h:wpList P ops Q rest (a.put o.dst (.agg vs.toArray)) w):wpList P ops Q (o::rest) a w :=
 wpList_plain hg fun _ hK=>wp_ldN hp ho hT hx hc hs (hK _ _ h)
end Go.Proofs.YtdhkkkhnjooioaaGreat
