import Derived.Test.YtidamcdklgfogaaGreatZab
import Derived.Test.YtidamcdklgfogaaGreatZaz
set_option linter.unusedSimpArgs false
set_option linter.unusedVariables false
set_option maxRecDepth 100000
set_option maxHeartbeats 8000000
namespace Go.Proofs.YtidamcdklgfogaaGreat
section
open Go.RowKit
def RowT (I:PH) (v:Value) (T:List G.Td):Prop:=(∃ A c,v=.slice A T.length c)∧∀ (i:Nat) t,T[i]?=some t→∃ A c,v=.slice (some ⟨A,0,none⟩) T.length c∧Cells I A (i * 9) (tdC t)
theorem RowT.le {I J:PH} {v:Value} {T:List G.Td} (h:RowT I v T) (hJ:I.le J):RowT J v T:=⟨h.1,fun i t ht=>by
 obtain ⟨A,c,h1,h2⟩:=h.2 i t ht
 exact ⟨A,c,h1,h2.le hJ⟩⟩
theorem OwnP.rowT {m:PH} {v:Value} {T:List G.Td} {e:TypeId} (h:OwnP m e 9 v T.length (T.flatMap tdC)):RowT m v T:=by
 refine ⟨?_,fun i t ht=>?_⟩
 · obtain ⟨A,c,h1,_⟩:=h.shape
   exact ⟨A,c,h1⟩
 · obtain ⟨A,c,rfl,_⟩:=h.ptr (by have:=(yE.1 ht).1;omega)
   exact ⟨A,c,rfl,Ke tdC_len h ht⟩
def SeenR (rs:List (Rw (Int × Int))) (q:List (Nat × Nat)):Prop:=rs.map (·.k)=q.map (fun p=>((p.1:Int),(p.2:Int)))∧∀ r ∈ rs,r.v=.bool true
theorem SeenR.get:∀ {rs:List (Rw (Int × Int))} {q:List (Nat × Nat)},SeenR rs q→∀ a b:Nat,getR rs ((a:Int),(b:Int))=if q.contains (a,b)=true then some (.bool true) else none
 | [],q,h,a,b=>by
   have:q=[]:=by
    have:=h.1
    cases q with
    | nil=>rfl
    | cons x q=>cases this
   subst this
   rfl
 | r::rs,q,h,a,b=>by
   obtain ⟨h1,h2⟩:=h
   cases q with
   | nil=>cases h1
   | cons x q =>
     rw [List.map_cons,List.map_cons] at h1
     injection h1 with h1 h3
     have ih:=SeenR.get (rs:=rs) (q:=q) ⟨h3,fun r' hr=>h2 r' (List.mem_cons_of_mem _ hr)⟩ a b
     unfold getR at ih ⊢
     rw [List.find?_cons]
     by_cases hx:x=(a,b)
     · have:decide (r.k=((a:Int),(b:Int)))=true:=by rw [decide_eq_true_eq,h1,hx]
       rw [this,List.contains_cons,hx]
       simp [h2 r List.mem_cons_self]
     · have:decide (r.k=((a:Int),(b:Int)))=false:=by
         rw [decide_eq_false_iff_not,h1]
         intro e
         injection e with e1 e2
         exact hx (Prod.ext (by omega) (by omega))
       have h4:((a,b) == x)=false:=by rw [beq_eq_false_iff_ne];exact fun e=>hx e.symm
       rw [this,List.contains_cons,h4,Bool.false_or]
       exact ih
theorem SeenR.push {rs:List (Rw (Int × Int))} {q:List (Nat × Nat)} (h:SeenR rs q) (a b c:Nat):SeenR (rs ++ [⟨((a:Int),(b:Int)),.bool true,c⟩]) (q ++ [(a,b)]):=by
 refine ⟨by rw [List.map_append,List.map_append,h.1];rfl,fun r hr=>?_⟩
 rcases List.mem_append.1 hr with hr|hr
 · exact h.2 r hr
 · rw [List.mem_singleton] at hr;rw [hr]
def keysOf (t:G.Td):List (Nat × Nat):=[(t.ll,t.hl),(t.lh,t.hh)]
theorem wants_fold (s:G.St) (x:Nat) (T:List G.Td):s.wants x T=(T.foldl (fun q t=>(keysOf t).foldl (G.wish (s.tab x)) q) ([],0)).2:=rfl
theorem wish_eq (t:List G.Ent) (q:List (Nat × Nat) × Nat) (k0 k1:Nat):G.wish t q (k0,k1)=if G.flipIf k0 (k1 % 2 == 1)=G.flipIf k1 (k1 % 2 == 1)∨(G.findT t (G.flipIf k0 (k1 % 2 == 1)) (G.flipIf k1 (k1 % 2 == 1))).isSome=true∨(q.1.contains (G.flipIf k0 (k1 % 2 == 1),G.flipIf k1 (k1 % 2 == 1)))=true then q else (q.1 ++ [(G.flipIf k0 (k1 % 2 == 1),G.flipIf k1 (k1 % 2 == 1))],q.2+1):=by
 unfold G.wish
 rw [norm_eq]
theorem swants_any {E w:World} {I:PH} {ms:List PH} {S x:Nat} {s:G.St} {v:Value} {T:List G.Td} (hx:x<s.tabs.length) (hR:StR I S s) (hT:RowT I v T) (hlen:T.length≤1048577) (hB:∀ t ∈ T,t.ll<4611686018427387904∧t.lh<4611686018427387904∧t.hl<4611686018427387904∧t.hh<4611686018427387904) (hS:Sat E I ms w) :
  Calls Tryz.prog 141 #[vPt S,nv x,v] w fun e w'=>e=.returned (nv (s.wants x T))∧Sat E I ms w':=by
 obtain ⟨h0,L,P,vV,vL,vT,vC,gs,h1,iS1,i3,h4,h5,h6,h7,h8,h9,hP,h11,hgs,h13,h14⟩:=hR
 obtain ⟨TT,cT,rfl,hgt⟩:=h13 (by omega)
 have hg:=yA (l:=gs) (i:=x) (by omega)
 have htt:=yA (l:=s.tabs) (i:=x) hx
 have htb:s.tabs[x]=s.tab x:=by unfold G.St.tab;rw [yD,htt];rfl
 have iT:=hgt x _ hg
 have hTab:=h14 x _ _ hg htt
 rw [htb] at hTab
 generalize gs[x]=g at *
 have hxi:(x:Int)<(s.tabs.length:Int):=by omega
 have hx64:s.tabs.length≤64:=h0.tabs
 have hwf:=wants_fold s x T
 obtain ⟨A0,c0,rfl⟩:=hT.1
 have HRow:=yH hT.2
 have HB:=yH hB
 have HTab:=yH hTab
 have Hwf:=yH hwf
 have hl1:(T.length:Int)≤1048577:=by omega
 clear h0 h1 iS1 h4 h5 h6 h7 h8 h9 hP h11 hgs h13 h14 hgt hg htt htb hT hB hTab hwf
 generalize htx:s.tab x=tb at *
 generalize hn:T.length=n at *
 go_enter Tryz.func141,Tryz.ntmps141
 go_wp2_with ( ((with_reducible refine isMakeMap ?_);refine mkM ekey hS rfl rfl ?_;clear hS;intro M w hS;(try simp only [Act.put,zE,zF,zG])) )
 go_loopw [8,22] (fun v8 v22 wr=>∃ (i:Nat) (q:List (Nat × Nat) × Nat) (rs:List (Rw (Int × Int))) (c:Nat),i≤n∧v22=.int .i64 (i:Int)∧v8=.int .i64 (q.2:Int)∧q.2≤2 * i∧q=(T.take i).foldl (fun q t=>(keysOf t).foldl (G.wish tb) q) ([],0)∧SeenR rs q.1∧MapOk rs c∧Sat E I (PH.one M (Qu ekey rs c)::ms) wr) (fun _ v22 _=>(n - intOf v22).toNat)
 case atStart=>exact ⟨0,([],0),[],0,Nat.zero_le _,rfl,rfl,Nat.le_refl _,rfl,⟨rfl,fun r hr=>by cases hr⟩,MapOk.nil,hS⟩
 case round =>
  clear hS
  obtain ⟨i,q0,rs0,c1,hin,rfl,rfl,hq2,hq,hsn,hok,hS⟩:=hrel
  have Hq:=yH hq
  have Hsn:=yH hsn
  have Hok:=yH hok
  clear hq hsn hok
  by_cases hlt:i<n
  · obtain ⟨t,ht⟩:∃ t,T[i]?=some t:=⟨_,yA (by omega)⟩
    obtain ⟨A,c9,hv,hcell⟩:=HRow.out i t ht
    injection hv with hv _ hc
    subst hv hc
    have hcell:Cells I A (i * 9) [nv t.id,nv t.n.v,nv t.n.lo,nv t.n.hi,nv t.n.refs,nv t.ll,nv t.lh,nv t.hl,nv t.hh]:=hcell
    have htk:T.take (i+1)=T.take i ++ [t]:=by rw [List.take_add_one,ht];rfl
    have htB:=HB.out t (List.mem_of_getElem? ht)
    have Ht:=yH htk
    have HtB:=yH htB
    have ii:(i:Int)<(n:Int):=by omega
    clear ht htk htB
    go_wp2_with (first|((with_reducible refine Kq ?_);(refine' bsl hS ?hr ?_);(case hr=>(intro w0;go_simp;rfl));clear hS;intro XS w hS;(try simp only [zF,zG,zE,Act.eval,zD,zC,zA,zB,zJ,Value.cells] at hS);(try simp only [Act.put,zE,zF,zG]))|((with_reducible refine Qc ?_);first|((with_reducible refine Ql 10 ?_);(refine' al (z:=_) hS rfl rfl ?ha ?_);(case ha=>exact ty_z225);clear hS;intro X10 w hS;(try simp only [Value.cells] at hS);(try simp only [Act.put,zE,zF,zG]))|((with_reducible refine Qb ?_);(first|(refine ld1 0 hS rfl rfl ?ha rfl rfl rfl ?_;(case ha=>exact Ki))|((refine' ldIN (vs:=_) hS rfl rfl ?ha rfl ?hc ?hb ?_);(case ha=>exact ty_agg225);(case hc=>assumption);(case hb=>exact Xz)));(try simp only [Act.put,zE,zF,zG]))|((with_reducible refine Qn ?_);(first|(refine stN 0 hS rfl rfl rfl rfl rfl ?ha rfl rfl ?_;(case ha=>exact Xz)));clear hS;intro w hS;(try simp only [zG,Act.eval,zD,zC,zA,zB,zJ,Value.cells] at hS);(try simp only [Act.put])) ))
    obtain ⟨J,lJ,lXS,hS2,bXS⟩:=hS.ice
    have hS:=hS2.drop
    have jA:Cells J XS 0 [nv t.ll,nv t.hl,nv t.lh,nv t.hh]:=(Cells.one XS #[nv t.ll,nv t.hl,nv t.lh,nv t.hh] 204 (0,0)).le lXS
    have jk:∀ j:Nat,j<2→∃ k0 k1,(keysOf t)[j]?=some (k0,k1)∧Cells J XS (j * 2) [nv k0,nv k1]∧k0<4611686018427387904∧k1<4611686018427387904:=fun j hj=>by
     have hb:=HtB.out
     rcases (show j=0∨j=1 by omega) with rfl|rfl
     · exact ⟨t.ll,t.hl,rfl,fun k u hk=>by
        refine jA k u ?_
        match k,hk with
        | 0,hk=>exact hk
        | 1,hk=>exact hk
        | k+2,hk=>simp at hk,hb.1,hb.2.2.1⟩
     · exact ⟨t.lh,t.hh,rfl,fun k u hk=>by
        have:=jA (2+k) u (by
         match k,hk with
         | 0,hk=>exact hk
         | 1,hk=>exact hk
         | k+2,hk=>simp at hk)
        rw [Nat.zero_add] at this
        rw [show 1 * 2+k=2+k by omega]
        exact this,hb.2.1,hb.2.2.2⟩
    have Hjk:=yH jk
    have j3:J.at S 2=some (.slice (some ⟨TT,0,none⟩) s.tabs.length cT):=PH.at_le lJ i3
    have jT:J.at TT x=some (vPt g):=PH.at_le lJ iT
    have HTJ:=yH (HTab.out.le lJ)
    have HlJ:=yH lJ
    clear hS2 bXS lXS jA jk hcell lJ
    go_loopw [8,38] (fun v8 v38 wr=>∃ (j:Nat) (q:List (Nat × Nat) × Nat) (rs:List (Rw (Int × Int))) (c:Nat),j≤2∧v38=.int .i64 (j:Int)∧v8=.int .i64 (q.2:Int)∧q.2≤2 * i+j∧q=((keysOf t).take j).foldl (G.wish tb) q0∧SeenR rs q.1∧MapOk rs c∧Sat E J (PH.one M (Qu ekey rs c)::ms) wr) (fun _ v38 _=>(2 - intOf v38).toNat)
    case atStart=>exact ⟨0,q0,rs0,c1,by omega,rfl,rfl,hq2,rfl,Hsn.out,Hok.out,hS⟩
    case round =>
     clear hS Hsn Hok
     obtain ⟨j,q,rs,c,hj2,rfl,rfl,hqn,hq,hsn,hok,hS⟩:=hrel
     have Hqj:=yH hq
     have Hsn:=yH hsn
     have Hok:=yH hok
     clear hq hsn hok
     by_cases hjl:j<2
     · obtain ⟨k0,k1,hk,hkc,hb0,hb1⟩:=Hjk.out j hjl
       have htk2:(keysOf t).take (j+1)=(keysOf t).take j ++ [(k0,k1)]:=by rw [List.take_add_one,hk];rfl
       have hstep:((keysOf t).take (j+1)).foldl (G.wish tb) q0=G.wish tb q (k0,k1):=by rw [htk2,List.foldl_append,← Hqj.out];rfl
       rw [wish_eq] at hstep
       have hno:=fun w'=>enorm_any w' k0 k1 hb0 hb1
       have hF:=fun (w':World) (hle:J.le (Qa w'))=>tfind_any (HTJ.out.le hle) (G.flipIf k0 (k1 % 2 == 1)) (G.flipIf k1 (k1 % 2 == 1))
       generalize hga:G.flipIf k0 (k1 % 2 == 1)=a at *
       generalize hgb:G.flipIf k1 (k1 % 2 == 1)=b at *
       have HNo:=yH hno
       have Hstep:=yH hstep
       have hget:=Hsn.out.get a b
       have jj:(j:Int)<2:=by omega
       have hn2:q.2≤2097156:=by omega
       clear hk htk2 hno hstep hb0 hb1
       by_cases hab:a=b
       · subst hab
         have HF:=yH hF
         have hw:a=a∨(G.findT tb a a).isSome=true∨(q.1.contains (a,a))=true:=.inl rfl
         have Hw:=yH hw
         clear hF hget hw
         go_wp2_with (first|(go_at_call 133;(with_reducible refine yI (HNo.out _) ?_);rintro e w ⟨rfl,rfl⟩)|(go_at_call 134;(with_reducible refine yI (HF.out _ hS.ile) ?_);rintro e w ⟨rfl,rfl⟩)|((with_reducible refine Qc ?_);first|((with_reducible refine Ql 12 ?_);(refine' al (z:=_) hS rfl rfl ?ha ?_);(case ha=>exact ty_z204);clear hS;intro X12 w hS;(try simp only [Value.cells] at hS);(try simp only [Act.put,zE,zF,zG]))|((with_reducible refine Ql 18 ?_);(refine' al (z:=_) hS rfl rfl ?ha ?_);(case ha=>exact ty_z204);clear hS;intro X18 w hS;(try simp only [Value.cells] at hS);(try simp only [Act.put,zE,zF,zG]))|((with_reducible refine Qb ?_);(first|(refine ld1 0 hS rfl rfl ?ha rfl rfl rfl ?_;(case ha =>  exact Ki))|((refine' Ka (v:=_) hS rfl rfl ?ha rfl ?hb ?_);(case ha=>first|exact Zi|exact Kx );(case hb=>assumption))|((refine' ldIN (vs:=_) hS rfl rfl ?ha rfl ?hc ?hb ?_);(case ha=>exact Yt);(case hc=>assumption);(case hb=>exact Zu)));(try simp only [Act.put,zE,zF,zG]))|((with_reducible refine Qn ?_);( (refine stN 0 hS rfl rfl rfl rfl rfl ?ha rfl rfl ?_;(case ha=>exact Zu)) );clear hS;intro w hS;(try simp only [zG,Act.eval,zD,zC,zA,zB,zJ,Value.cells] at hS);(try simp only [Act.put])) ))
         refine ⟨⟨j+1,q,rs,c,by omega,by go_num,rfl,by omega,?_,Hsn.out,Hok.out,hS.drop.drop⟩,by simp [intOf];omega⟩
         rw [Hstep.out,if_pos Hw.out]
       · have habi:¬ (a:Int)=(b:Int):=by omega
         have habb:((a:Int) == (b:Int))=false:=by simpa using habi
         cases hf:G.findT tb a b with
         | some id =>
           rw [hf] at hF
           have HF:=yH hF
           have hw:a=b∨(G.findT tb a b).isSome=true∨(q.1.contains (a,b))=true:=.inr (.inl (by rw [hf];rfl))
           have Hw:=yH hw
           clear hF hget hw hf
           go_wp2_with (first|(go_at_call 133;(with_reducible refine yI (HNo.out _) ?_);rintro e w ⟨rfl,rfl⟩)|(go_at_call 134;(with_reducible refine yI (HF.out _ hS.ile) ?_);rintro e w ⟨rfl,rfl⟩)|((with_reducible refine Qc ?_);first|((with_reducible refine Ql 12 ?_);(refine' al (z:=_) hS rfl rfl ?ha ?_);(case ha=>exact ty_z204);clear hS;intro X12 w hS;(try simp only [Value.cells] at hS);(try simp only [Act.put,zE,zF,zG]))|((with_reducible refine Ql 18 ?_);(refine' al (z:=_) hS rfl rfl ?ha ?_);(case ha=>exact ty_z204);clear hS;intro X18 w hS;(try simp only [Value.cells] at hS);(try simp only [Act.put,zE,zF,zG]))|((with_reducible refine Qb ?_);(first|(refine ld1 0 hS rfl rfl ?ha rfl rfl rfl ?_;(case ha =>  exact Ki))|((refine' Ka (v:=_) hS rfl rfl ?ha rfl ?hb ?_);(case ha=>first|exact Zi|exact Kx );(case hb=>assumption))|((refine' ldIN (vs:=_) hS rfl rfl ?ha rfl ?hc ?hb ?_);(case ha=>exact Yt);(case hc=>assumption);(case hb=>exact Zu)));(try simp only [Act.put,zE,zF,zG]))|((with_reducible refine Qn ?_);( (refine stN 0 hS rfl rfl rfl rfl rfl ?ha rfl rfl ?_;(case ha=>exact Zu)) );clear hS;intro w hS;(try simp only [zG,Act.eval,zD,zC,zA,zB,zJ,Value.cells] at hS);(try simp only [Act.put])) ))
           refine ⟨⟨j+1,q,rs,c,by omega,by go_num,rfl,by omega,?_,Hsn.out,Hok.out,hS.drop.drop⟩,by simp [intOf];omega⟩
           rw [Hstep.out,if_pos Hw.out]
         | none =>
           rw [hf] at hF
           have HF:=yH hF
           cases hct:q.1.contains (a,b) with
           | true =>
             rw [hct,if_pos rfl] at hget
             have Hget:=yH hget
             have hw:a=b∨(G.findT tb a b).isSome=true∨(q.1.contains (a,b))=true:=.inr (.inr hct)
             have Hw:=yH hw
             clear hF hget hw hf hct
             go_wp2_with (first|(go_at_call 133;(with_reducible refine yI (HNo.out _) ?_);rintro e w ⟨rfl,rfl⟩)|(go_at_call 134;(with_reducible refine yI (HF.out _ hS.ile) ?_);rintro e w ⟨rfl,rfl⟩)|((with_reducible refine Zo ?_);refine lk1 (x:=((a:Int),(b:Int))) (p:=PH.one M (Qu ekey rs c)) hS (.inr (List.mem_of_getElem? (i:=2) rfl)) (PH.one_self _ _) kE Tryz.underlying237 ty_z4 rfl rfl rfl rfl Hget.out ?_;simp only [zJ];(try simp only [Act.put,zE,zF,zG]))|((with_reducible refine Qc ?_);first|((with_reducible refine Ql 12 ?_);(refine' al (z:=_) hS rfl rfl ?ha ?_);(case ha=>exact ty_z204);clear hS;intro X12 w hS;(try simp only [Value.cells] at hS);(try simp only [Act.put,zE,zF,zG]))|((with_reducible refine Ql 18 ?_);(refine' al (z:=_) hS rfl rfl ?ha ?_);(case ha=>exact ty_z204);clear hS;intro X18 w hS;(try simp only [Value.cells] at hS);(try simp only [Act.put,zE,zF,zG]))|((with_reducible refine Qp ?_);  ((with_reducible refine Qi ?hw ?_);case hw=>(simp only [Region.wanted,yielded,zC,zA,zB,zK,beq_self_eq_true];done)) )|((with_reducible refine Qb ?_);(first|(refine ld1 0 hS rfl rfl ?ha rfl rfl rfl ?_;(case ha =>  exact Ki))|(refine ldN 0 hS rfl rfl ?ha rfl rfl ?hb ?_;(case ha=>exact Yt);(case hb=>exact Zu))|((refine' Ka (v:=_) hS rfl rfl ?ha rfl ?hb ?_);(case ha=>first|exact Zi|exact Kx );(case hb=>assumption))|((refine' ldIN (vs:=_) hS rfl rfl ?ha rfl ?hc ?hb ?_);(case ha=>exact Yt);(case hc=>assumption);(case hb=>exact Zu)));(try simp only [Act.put,zE,zF,zG]))|((with_reducible refine Qn ?_);( (refine stN 0 hS rfl rfl rfl rfl rfl ?ha rfl rfl ?_;(case ha=>exact Zu)) );clear hS;intro w hS;(try simp only [zG,Act.eval,zD,zC,zA,zB,zJ,Value.cells] at hS);(try simp only [Act.put])) ))
             refine ⟨⟨j+1,q,rs,c,by omega,by go_num,rfl,by omega,?_,Hsn.out,Hok.out,hS.drop.drop⟩,by simp [intOf];omega⟩
             rw [Hstep.out,if_pos Hw.out]
           | false =>
             rw [hct,if_neg (by simp)] at hget
             have Hget:=yH hget
             have hw:¬ (a=b∨(G.findT tb a b).isSome=true∨(q.1.contains (a,b))=true):=by rw [hf,hct];simp [hab]
             have Hw:=yH hw
             clear hF hget hw hf hct
             go_wp2_with (first|(go_at_call 133;(with_reducible refine yI (HNo.out _) ?_);rintro e w ⟨rfl,rfl⟩)|(go_at_call 134;(with_reducible refine yI (HF.out _ hS.ile) ?_);rintro e w ⟨rfl,rfl⟩)|((with_reducible refine Zo ?_);refine lk1 (x:=((a:Int),(b:Int))) (p:=PH.one M (Qu ekey rs c)) hS (.inr (List.mem_of_getElem? (i:=2) rfl)) (PH.one_self _ _) kE Tryz.underlying237 ty_z4 rfl rfl rfl rfl Hget.out ?_;simp only [Option.getD_none];(try simp only [Act.put,zE,zF,zG]))|((with_reducible refine isUpdate ?_);refine muNew (x:=((a:Int),(b:Int))) hS 2 rfl kE Tryz.underlying237 rfl rfl rfl rfl rfl Hok.out Hget.out ?_;clear hS;intro w hS;(try simp only [zF,zG] at hS);(try simp only [Act.put]))|((with_reducible refine Qc ?_);first|((with_reducible refine Ql 12 ?_);(refine' al (z:=_) hS rfl rfl ?ha ?_);(case ha=>exact ty_z204);clear hS;intro X12 w hS;(try simp only [Value.cells] at hS);(try simp only [Act.put,zE,zF,zG]))|((with_reducible refine Ql 18 ?_);(refine' al (z:=_) hS rfl rfl ?ha ?_);(case ha=>exact ty_z204);clear hS;intro X18 w hS;(try simp only [Value.cells] at hS);(try simp only [Act.put,zE,zF,zG]))|((with_reducible refine Qp ?_);  ((with_reducible refine Qi ?hw ?_);case hw=>(simp only [Region.wanted,yielded,zC,zA,zB,zK,beq_self_eq_true];done)) )|((with_reducible refine Qb ?_);(first|(refine ld1 0 hS rfl rfl ?ha rfl rfl rfl ?_;(case ha =>  exact Ki))|(refine ldN 0 hS rfl rfl ?ha rfl rfl ?hb ?_;(case ha=>exact Yt);(case hb=>exact Zu))|((refine' Ka (v:=_) hS rfl rfl ?ha rfl ?hb ?_);(case ha=>first|exact Zi|exact Kx );(case hb=>assumption))|((refine' ldIN (vs:=_) hS rfl rfl ?ha rfl ?hc ?hb ?_);(case ha=>exact Yt);(case hc=>assumption);(case hb=>exact Zu)));(try simp only [Act.put,zE,zF,zG]))|((with_reducible refine Qn ?_);( (refine stN 0 hS rfl rfl rfl rfl rfl ?ha rfl rfl ?_;(case ha=>exact Zu)) );clear hS;intro w hS;(try simp only [zG,Act.eval,zD,zC,zA,zB,zJ,Value.cells] at hS);(try simp only [Act.put])) ))
             refine ⟨⟨j+1,(q.1 ++ [(a,b)],q.2+1),rs ++ [⟨((a:Int),(b:Int)),.bool true,c⟩],c+1,by omega,by go_num,by go_num,by show q.2+1≤_;omega,?_,Hsn.out.push a b c,Hok.out.push Hget.out _,hS.drop.drop⟩,by simp [intOf];omega⟩
             rw [Hstep.out,if_neg Hw.out]
     · have hje:j=2:=by omega
       subst hje
       go_wp2_with fail
       refine ⟨⟨i+1,q,rs,c,by omega,by go_num,rfl,by omega,?_,Hsn.out,Hok.out,hS.less HlJ.out⟩,by simp [intOf];omega⟩
       rw [Ht.out,List.foldl_append,← Hq.out,Hqj.out]
       rfl
  · have hin2:i=n:=by omega
    subst hin2
    go_wp2_with fail
    go_ret
    refine ⟨?_,hS.drop⟩
    have:=Hq.out
    rw [List.take_of_length_le (by omega)] at this
    show Ending.returned (.int .i64 (q0.2:Int))=_
    rw [Hwf.out,← this]
end
end Go.Proofs.YtidamcdklgfogaaGreat
