import Derived.Test.YtidamcdklgfogaaGreatZab
import Derived.Test.YtidamcdklgfogaaGreatZbo
set_option linter.unusedSimpArgs false
set_option linter.unusedVariables false
set_option maxRecDepth 100000
set_option maxHeartbeats 8000000
namespace Go.Proofs.YtidamcdklgfogaaGreat
section
open Go.RowKit
theorem ty_agg100:Kz Tryz.prog 100=some false:=by kernel_rfl
theorem ty_sz100:Ko Tryz.prog 100=some 1:=by kernel_rfl
theorem ty_z100:Xb Tryz.prog 100=some (.map none):=by kernel_rfl
theorem ty_agg22:Kz Tryz.prog 22=some false:=by kernel_rfl
theorem ty_sz22:Ko Tryz.prog 22=some 1:=by kernel_rfl
theorem ty_z22:Xb Tryz.prog 22=some (.slice none 0 0):=by kernel_rfl
theorem Kt:Kz Tryz.prog 62=some true:=by kernel_rfl
theorem Qw:Ko Tryz.prog 62=some 3:=by kernel_rfl
theorem Zz:Xb Tryz.prog 62=some (.agg #[.int .i64 0,.int .i64 0,.int .i64 0]):=by kernel_rfl
theorem ty_agg99:Kz Tryz.prog 99=some false:=by kernel_rfl
theorem ty_agg101:Kz Tryz.prog 101=some false:=by kernel_rfl
theorem ty_sz101:Ko Tryz.prog 101=some 1:=by kernel_rfl
theorem ty_z101:Xb Tryz.prog 101=some (.nilFunc):=by kernel_rfl
def rowC (r:G.Rw3):List Value:=[.int .i64 r.v,.int .i64 r.lo,.int .i64 r.hi]
theorem rowC_len (r:G.Rw3):(rowC r).length=3:=rfl
theorem row3_info:(Tryz.prog.info? 62).map (fun i=>(i.zero,i.size,i.bytes))=some (some (.agg #[.int .i64 0,.int .i64 0,.int .i64 0]),3,24):=by kernel_rfl
def MtR (l:List (Rw Int)) (q:List (Nat × Nat)):Prop:=l.map (fun r=>(r.k,r.v))=q.map (fun p=>(((p.1:Nat):Int),nv p.2))
theorem MtR.get {l:List (Rw Int)} {q:List (Nat × Nat)} (h:MtR l q) (x:Nat):getR l (x:Int)=((q.find? fun p=>p.1 == x).map (·.2)).map nv:=by
 unfold MtR at h
 induction l generalizing q with
 | nil =>
   cases q with
   | nil=>rfl
   | cons p q=>cases h
 | cons r l ih =>
   cases q with
   | nil=>cases h
   | cons p q =>
     simp only [List.map_cons,List.cons.injEq,Prod.mk.injEq] at h
     obtain ⟨⟨h1,h2⟩,h3⟩:=h
     have ih:=ih h3
     unfold getR at ih ⊢
     by_cases e:p.1=x
     · rw [List.find?_cons_of_pos (by simp [h1,e]),List.find?_cons_of_pos (by simpa using e)];simp [h2]
     · rw [List.find?_cons_of_neg (by simp [h1];omega),List.find?_cons_of_neg (by simpa using e)];exact ih
theorem MtR.push {l:List (Rw Int)} {q:List (Nat × Nat)} (h:MtR l q) (i n c:Nat):MtR (l ++ [⟨(i:Int),nv n,c⟩]) (q ++ [(i,n)]):=by
 unfold MtR at h ⊢
 rw [List.map_append,List.map_append,h];rfl
def DwP (H X1:Nat) (q:G.RS) (ms ns:List PH):Prop:=∃ l clock vR mR,MapOk l clock∧MtR l q.at_∧OwnP mR 62 3 vR q.rows.length (q.rows.flatMap rowC)∧ns=PH.one H (Qu ikey l clock)::PH.one X1 (.cells #[vR] 22)::mR::ms
theorem atLookupB {P:Program} {a:Act} {w:World} {K:Act→World→Prop} {Q:Exit→Act→World→Prop} {dst:Option Tmp} {type:TypeId} {pos:String} {after:Array Edge} {g:Option (Nat × Bool)} {T:TypeId} {m y:Operand} {c:Bool} (h:Oper.wp P ⟨dst,.lookup T m y c,type,pos,after,g⟩ a w K Q):Oper.wp P ⟨dst,.lookup T m y c,type,pos,after,g⟩ a w K Q:=h
theorem NumR.one {I:PH} {X:Nat} {x:Nat} (h:(PH.one X (.cells #[nv x] 102)).le I):NumR I (.slice (some ⟨X,0,none⟩) 1 1) [x] :=
 (OwnP.num (l:=[x]) (OwnP.lit X 102 1 1 #[nv x] (by decide) rfl)).le h
structure DwI (I:PH) (D X H X1 X4 X5 X6:Nat) (m:G.Mg):Prop where
 i5:I.at X5 0=some (.map (some H))
 i4:I.at X4 0=some (vPt X)
 iX:I.at X 0=some (vPt D)
 i6:I.at X6 0=some (.func (.func 48) #[] #[vPt X5,vPt X4,vPt X6,vPt X1])
 hM:MgR I D m
theorem DwI.le {I J:PH} {D X H X1 X4 X5 X6:Nat} {m:G.Mg} (h:DwI I D X H X1 X4 X5 X6 m) (hJ:I.le J):DwI J D X H X1 X4 X5 X6 m:=⟨PH.at_le hJ h.i5,PH.at_le hJ h.i4,PH.at_le hJ h.iX,PH.at_le hJ h.i6,h.hM.le hJ⟩
def DownC (D X H X1 X4 X5 X6:Nat) (m:G.Mg) (k:Nat):Prop:=∀ (I:PH) (q q':G.RS) (f e:Nat),DwI I D X H X1 X4 X5 X6 m→G.downR k m.s q f=some (q',e)→(q.get 0).isSome=true→(∀ i n,q.get i=some n→n<4194303)→q'.rows.length<4000000→f<4611686018427387904 →
 ∀ (E:World) (ms ns:List PH) (w:World),DwP H X1 q ms ns→Sat E I ns w →
   Calls Tryz.prog 48 #[nv f,vPt X5,vPt X4,vPt X6,vPt X1] w fun e' w'=>e'=.returned (nv e)∧∃ ns',DwP H X1 q' ms ns'∧Sat E I ns' w'
theorem ddown_step {D X H X1 X4 X5 X6:Nat} {m:G.Mg} {rk:Nat→Nat} (hac:G.Acyc m.s.nd rk) (k:Nat) (ih:DownC D X H X1 X4 X5 X6 m k):DownC D X H X1 X4 X5 X6 m (k+1):=by
 intro I q q' f e hI hd h0 hb hlen hf E ms ns w hP hS
 obtain ⟨l,clock,vR,mR,hok,hmt,hO,rfl⟩:=hP
 rw [G.down_succ] at hd
 have HIj:=yH (fun (J:PH) (h:I.le J)=>hI.le h)
 obtain ⟨i5,i4,iX,i6,hM⟩:=hI
 have hq:=hmt.get (f / 2)
 have hg:q.get (f / 2)=(q.at_.find? fun p=>p.1 == f / 2).map (·.2):=rfl
 rw [← hg] at hq
 have HNd:=yH (fun w:World=>Yd (w:=w) f (by omega))
 have HNg:=yH (fun w:World=>eneg_any (w:=w) f)
 clear hg
 cases hgq:q.get (f / 2) with
 | some n =>
   rw [hgq] at hd hq
   have hn:=hb _ _ hgq
   cases hd
   have HQ:=yH hq
   have HOf:=yH (fun w:World=>eof_any (w:=w) n (f % 2 == 1) (by omega))
   have HPk:=yH (And.intro hok (And.intro hmt hO))
   clear hq hgq hok hmt hO hb ih hac hM
   go_enter Tryz.func48,Tryz.ntmps48
   go_wp2_with fail
   refine Zc (fun _ _=>False) [[],[],[1],[0,1,2],[0,1,2,3],[0,1,2,3,4],[0,1,2,3,4],[0,1,2,3,4,5],[0,1,2,3,4,5,6,7]] E I _
    [fun v _=>v=.map (some H),fun v _=>v=nv f,fun v _=>v=nv (f / 2),fun v _=>v=.tuple #[nv n,.bool true],fun v _=>v=.tuple #[nv n,.bool true],fun v _=>v=nv n,fun v _=>v=.bool true,fun v _=>v=nv n,fun v _=>v=.bool true] []
    (fun _ _ _ ns=>ns=PH.one H (Qu ikey l clock)::PH.one X1 (.cells #[vR] 22)::mR::ms) (by kernel_rfl) (by kernel_rfl) (by decide) hS rfl ?last (fun _ _ _ _ _ _ h=>h) (fun _ _ _ _ _ _ h=>h) ?plain ?step ?hZ ?fin
   case last=>repeat (first|exact Lasting.nil|refine Lasting.cons (fun _ _ _ _ h=>h) ?_)
   case plain=>(repeat' (first|exact trivial|apply And.intro)) <;>  (refine .inr ?_;intro s vals J bs w hstop hg hJ hS hG;( (have h0:s≤0:=hstop;obtain rfl:s=0:=Nat.le_zero.1 h0;have hG:bs=_:=hG;subst hG) );simp only [zH,zI,Given,Facts] at hg;simp only [Qd,Qh,Qe,Qj,zH,zI,zA,zB,zK,if_true,Act.put,zE,zF,zG,hg];refine ⟨?_⟩;refine Qm (fun K hK=>?_);have HK:=yH hK;clear hK;rw [if_pos (by rfl)];(first|((with_reducible refine Qs ?_);  ((refine' Qq (v:=_) hS hJ ?ha rfl ?hc ?_);(case ha=>first|exact ty_agg100);(case hc=>assumption)) )|((with_reducible refine atLookupB ?_);(refine wp_lk (x:=((f / 2:Nat):Int)) (hS.mle (k:=0) rfl) (PH.one_self _ _) kI Tryz.underlying100 ty_z3 rfl rfl rfl ?_;simp only [if_true];rw [HQ.out];simp only [Option.map_some,zJ,Option.isSome_some]))|(go_wp2_with (first|(go_at_call 49;(with_reducible refine yI (HNd.out _) ?_);rintro e w2 ⟨rfl,rfl⟩))));refine HK.out _ _ ⟨rfl,J,PH.le.refl _,hS,?_⟩;clear HK;simp only [Facts];simp only [Qo,zH,zI,Act.put,zE,zF,zG,zD,zC,zA,zB,zJ])
   case step=>trivial
   case hZ=>exact fun _ _ _ _ h=>h.elim
   case fin =>
    intro vals J9 bs w hJ hg hS hG
    have hG:bs=_:=hG
    subst hG
    have hS:=hS.less hJ
    clear hJ
    simp only [yB,yC,Nat.reduceAdd,Below_,Facts,zH,zI,true_and] at hg;simp only [yB,yC,Nat.reduceAdd,Qd,Qh,Qe,zA,zB,zK,if_true,Act.put,zE,zF,zG,hg];refine ⟨?_⟩
    clear hg
    go_wp2_with (first|(go_at_call 51;(with_reducible refine yI (HNg.out _) ?_);rintro e w2 ⟨rfl,rfl⟩)|(go_at_call 54;(with_reducible refine yI (HOf.out _) ?_);rintro e w2 ⟨rfl,rfl⟩))
    go_ret
    exact ⟨rfl,_,⟨l,clock,vR,mR,HPk.out.1,HPk.out.2.1,HPk.out.2.2,rfl⟩,hS⟩
 | none =>
   rw [hgq] at hd hq
   simp only at hd
   have HQ:=yH hq
   have HFl:=yH (fun w:World=>Xg (w:=w) f (f % 2 == 1) hf)
   have hp:=Kw hf (f % 2 == 1)
   have hfresh:=fun q1 q2 e1 e2=>G.down_fresh (k:=k) (q1:=q1) (q2:=q2) (e1:=e1) (e2:=e2) hac h0 hgq
   have hkeys:=fun (q q':G.RS) (f e:Nat)=>G.down_keys hac k q q' f e
   have hfit:PlFit m.s.pl:=by obtain ⟨_,S,M,H,wv,_,_,_,_,_,_,h7,_⟩:=hM;obtain ⟨_,_,P,_,_,_,_,_,_,_,_,_,_,_,_,_,_,hP,_⟩:=h7;exact hP.1
   generalize hpp:G.flipIf f (f % 2 == 1)=p at *
   have HTop:=yH (fun (w':World) (hX':(Qa w').at X 0=some (vPt D)) (hR:MgR (Qa w') D m) (vl:Value) (hl:NumR (Qa w') vl [p])=>xtop_any hX' hR [p] vl hl (fun x hx=>by simp only [List.mem_cons,List.not_mem_nil,or_false] at hx;subst hx;exact hp) (by simp))
   generalize (m.s.topE [p]).1=tv at *
   have HSp:=yH (fun (w':World) (hX':(Qa w').at X 0=some (vPt D)) (hR:MgR (Qa w') D m)=>xsplit_any hX' hR p tv hp)
   obtain ⟨bl,bh⟩:=splitI_lt hfit hp tv
   generalize (m.s.splitI p tv).1=lo at *
   generalize (m.s.splitI p tv).2=hi at *
   cases hd1:G.downR k m.s q lo with
   | none=>rw [hd1] at hd;cases hd
   | some x1 =>
     obtain ⟨q1,e1⟩:=x1
     rw [hd1] at hd
     simp only [zK] at hd
     cases hd2:G.downR k m.s q1 hi with
     | none=>rw [hd2] at hd;cases hd
     | some x2 =>
       obtain ⟨q2,e2⟩:=x2
       rw [hd2] at hd
       simp only [zK,Option.some.injEq,Prod.mk.injEq] at hd
       obtain ⟨rfl,rfl⟩:=hd
       simp only [yG,yB,yC] at hlen
       obtain ⟨_,a2,a3,a4⟩:=hkeys _ _ _ _ h0 hd1
       have h01:(q1.get 0).isSome=true:=by
        obtain ⟨z,hz⟩:=yF.1 h0
        rw [a2 _ _ hz];rfl
       obtain ⟨_,b2,b3,b4⟩:=hkeys _ _ _ _ h01 hd2
       have hb1:∀ i n,q1.get i=some n→n<4194303:=fun i n hin=>by
        rcases a4 i n hin with h|h
        · exact hb i n h
        · omega
       have hnone:q2.get (f / 2)=none:=hfresh _ _ _ _ hd1 hd2
       have H1:=yH (fun (J:PH) (E:World) (ns:List PH) (w:World) (hJ:I.le J) (hP:DwP H X1 q ms ns) (h:Sat E J ns w)=>ih J q q1 lo e1 (HIj.out J hJ) hd1 h0 hb (by omega) bl E ms ns w hP h)
       have H2:=yH (fun (J:PH) (E:World) (ns:List PH) (w:World) (hJ:I.le J) (hP:DwP H X1 q1 ms ns) (h:Sat E J ns w)=>ih J q1 q2 hi e2 (HIj.out J hJ) hd2 h01 hb1 (by omega) bh E ms ns w hP h)
       have HPk:=yH (And.intro hok (And.intro hmt hO))
       have HNn:=yH hnone
       have hl2:q2.rows.length<4000000:=by omega
       have HOf:Hid (∀ w:World,Calls Tryz.prog 54 #[.int .i64 ((q2.rows.length:Int)+1),.bool (f % 2 == 1)] w fun e w'=>e=.returned (nv (G.edge (q2.rows.length+1) (f % 2 == 1)))∧w=w'):=yH fun w=>eof_any (w:=w) (q2.rows.length+1) (f % 2 == 1) (by omega)
       clear hq hgq hok hmt hO hb ih hac hfresh hkeys hfit a2 a3 a4 b2 b3 b4 h0 h01 hb1 hnone hd1 hd2 hpp bl bh hlen
       go_enter Tryz.func48,Tryz.ntmps48
       go_wp2_with fail
       refine Zc (fun _ _=>False) [[],[],[1],[0,1,2],[0,1,2,3],[0,1,2,3,4],[0,1,2,3,4],[0,1,2,3,4,5],[0,1,2,3,4,5,6,7]] E I _
        [fun v _=>v=.map (some H),fun v _=>v=nv f,fun v _=>v=nv (f / 2),fun v _=>v=.tuple #[.int .i64 0,.bool false],fun v _=>v=.tuple #[.int .i64 0,.bool false],fun v _=>v=.int .i64 0,fun v _=>v=.bool false,fun v _=>v=.int .i64 0,fun v _=>v=.bool false] []
        (fun _ _ _ ns=>ns=PH.one H (Qu ikey l clock)::PH.one X1 (.cells #[vR] 22)::mR::ms) (by kernel_rfl) (by kernel_rfl) (by decide) hS rfl ?last (fun _ _ _ _ _ _ h=>h) (fun _ _ _ _ _ _ h=>h) ?plain ?step ?hZ ?fin
       case last=>repeat (first|exact Lasting.nil|refine Lasting.cons (fun _ _ _ _ h=>h) ?_)
       case plain=>(repeat' (first|exact trivial|apply And.intro)) <;>  (refine .inr ?_;intro s vals J bs w hstop hg hJ hS hG;( (have h0:s≤0:=hstop;obtain rfl:s=0:=Nat.le_zero.1 h0;have hG:bs=_:=hG;subst hG) );simp only [zH,zI,Given,Facts] at hg;simp only [Qd,Qh,Qe,Qj,zH,zI,zA,zB,zK,if_true,Act.put,zE,zF,zG,hg];refine ⟨?_⟩;refine Qm (fun K hK=>?_);have HK:=yH hK;clear hK;rw [if_pos (by rfl)];(first|((with_reducible refine Qs ?_);  ((refine' Qq (v:=_) hS hJ ?ha rfl ?hc ?_);(case ha=>first|exact ty_agg100);(case hc=>assumption)) )|((with_reducible refine atLookupB ?_);(refine wp_lk (x:=((f / 2:Nat):Int)) (hS.mle (k:=0) rfl) (PH.one_self _ _) kI Tryz.underlying100 ty_z3 rfl rfl rfl ?_;simp only [if_true];rw [HQ.out];simp only [Option.map_none,Option.getD_none,Option.isSome_none]))|(go_wp2_with (first|(go_at_call 49;(with_reducible refine yI (HNd.out _) ?_);rintro e w2 ⟨rfl,rfl⟩))));refine HK.out _ _ ⟨rfl,J,PH.le.refl _,hS,?_⟩;clear HK;simp only [Facts];simp only [Qo,zH,zI,Act.put,zE,zF,zG,zD,zC,zA,zB,zJ])
       case step=>trivial
       case hZ=>exact fun _ _ _ _ h=>h.elim
       case fin =>
        intro vals J9 bs w hJ hg hS hG
        have hG:bs=_:=hG
        subst hG
        have hS:=hS.less hJ
        clear hJ
        simp only [yB,yC,Nat.reduceAdd,Below_,Facts,zH,zI,true_and] at hg;simp only [yB,yC,Nat.reduceAdd,Qd,Qh,Qe,zA,zB,zK,if_true,Act.put,zE,zF,zG,hg];refine ⟨?_⟩
        clear hg HQ
        go_wp2_with (first|(go_at_call 51;(with_reducible refine yI (HNg.out _) ?_);rintro e w2 ⟨rfl,rfl⟩)|(go_at_call 50;(with_reducible refine yI (HFl.out _) ?_);rintro e w2 ⟨rfl,rfl⟩)|(go_at_call 52;(with_reducible refine yI (HTop.out _ (PH.at_le hS.ile iX) (hM.le hS.ile) _ (NumR.one (hS.mle (k:=0) rfl))) ?_);rintro e w9 ⟨rfl,hb⟩;replace hS:=(hS.below_ hb).drop;clear hb)|(go_at_call 53;(with_reducible refine yI (HSp.out _ (PH.at_le hS.ile iX) (hM.le hS.ile)) ?_);rintro e w9 ⟨rfl,hb⟩;replace hS:=hS.below_ hb;clear hb)|((with_reducible refine Qc ?_);first|((with_reducible refine Qb ?_);( ((refine' Ka (v:=_) hS rfl rfl ?ha rfl ?hb ?_);(case ha=>exact ty_agg99);(case hb=>assumption)));(try simp only [Act.put,zE,zF,zG]))|((with_reducible refine Kq ?_);(refine' bsl hS ?hr ?_);(case hr=>(intro w0;go_simp;rfl));clear hS;intro XS w hS;(try simp only [Act.eval,zD,zC,zA,zB,zJ,Value.cells] at hS);(try simp only [Act.put,zE,zF,zG]))))
        refine Zc (fun _ _=>False) [[],[],[0,1],[],[],[0,1,2,3,4],[0,1,2,3,4,5],[0,1,2,3,4,5,6]] E I _
         [fun v _=>v=.func (.func 48) #[] #[vPt X5,vPt X4,vPt X6,vPt X1],fun v _=>v=nv lo,fun v _=>v=nv e1,fun v _=>v=.func (.func 48) #[] #[vPt X5,vPt X4,vPt X6,vPt X1],fun v _=>v=nv hi,fun v _=>v=nv e2,fun v _=>v=nv e1,fun v _=>v=nv e2] [2,5]
         (fun s _ _ ns=>DwP H X1 (if s=0 then q else if s=1 then q1 else q2) ms ns) (by kernel_rfl) (by kernel_rfl) (by decide) hS ⟨l,clock,vR,mR,HPk.out.1,HPk.out.2.1,HPk.out.2.2,rfl⟩ ?last (fun _ _ _ _ _ _ h=>h) (fun _ _ _ _ _ _ h=>h) ?plain ?step ?hZ ?fin
        case last=>repeat (first|exact Lasting.nil|refine Lasting.cons (fun _ _ _ _ h=>h) ?_)
        case plain=>(repeat' (first|exact trivial|apply And.intro)) <;> first|exact .inl rfl|(refine .inr ?_;intro s vals J bs w hstop hg hJ hS hG;clear hG;simp only [zH,zI,Given,Facts] at hg;simp only [Qd,Qh,Qe,Qj,zH,zI,zA,zB,zK,if_true,Act.put,zE,zF,zG,hg];refine ⟨?_⟩;refine Qm (fun K hK=>?_);have HK:=yH hK;clear hK;rw [if_pos (by rfl)];(first|((with_reducible refine Qs ?_);  ((refine' Qq (v:=_) hS hJ ?ha rfl ?hc ?_);(case ha=>first|exact ty_agg101);(case hc=>assumption)) )|(go_wp2_with (fail)));refine HK.out _ _ ⟨rfl,J,PH.le.refl _,hS,?_⟩;clear HK;simp only [Facts];simp only [Qo,zH,zI,Act.put,zE,zF,zG,zD,zC,zA,zB,zJ])
        case step =>
         refine ⟨⟨trivial,?_⟩,?_⟩
         · intro vals J bs w hg hJ hS hG
           have HG:=yH (show DwP H X1 q ms bs from hG)
           clear hG
           simp only [zH,zI,Given,Facts] at hg;simp only [Qd,Qh,Qe,Qj,zH,zI,zA,zB,zK,if_true,Act.put,zE,zF,zG,hg];refine ⟨?_⟩;refine Qm (fun K hK=>?_);have HK:=yH hK;clear hK;rw [if_pos (by rfl)]
           go_wp2_with (first|(go_at_call 48;(with_reducible refine yI (H1.out _ _ _ _ hJ HG.out hS) ?_);clear hS;rintro e w ⟨rfl,ns1,hP1,hS⟩;have HP1:=yH hP1;clear hP1))
           exact HK.out _ _ ⟨rfl,J,_,PH.le.refl _,hS,rfl,HP1.out⟩
         · intro vals J bs w hg hJ hS hG
           have HG:=yH (show DwP H X1 q1 ms bs from hG)
           clear hG
           simp only [zH,zI,Given,Facts] at hg;simp only [Qd,Qh,Qe,Qj,zH,zI,zA,zB,zK,if_true,Act.put,zE,zF,zG,hg];refine ⟨?_⟩;refine Qm (fun K hK=>?_);have HK:=yH hK;clear hK;rw [if_pos (by rfl)]
           go_wp2_with (first|(go_at_call 48;(with_reducible refine yI (H2.out _ _ _ _ hJ HG.out hS) ?_);clear hS;rintro e w ⟨rfl,ns1,hP1,hS⟩;have HP1:=yH hP1;clear hP1))
           exact HK.out _ _ ⟨rfl,J,_,PH.le.refl _,hS,rfl,HP1.out⟩
        case hZ=>exact fun _ _ _ _ h=>h.elim
        case fin =>
         intro vals J9 bs w hJ hg hS hG
         have hG:DwP H X1 q2 ms bs:=hG
         have hS:=hS.less hJ
         obtain ⟨l2,clock2,vR2,mR2,hok2,hmt2,hO2,rfl⟩:=hG
         have hq2:=hmt2.get (f / 2)
         have hg2:q2.get (f / 2)=(q2.at_.find? fun p=>p.1 == f / 2).map (·.2):=rfl
         rw [← hg2,HNn.out] at hq2
         have HQ2:=yH hq2
         have HOk2:=yH hok2
         have HMt2:=yH hmt2
         have HO2:=yH hO2
         clear hJ hq2 hg2 hok2 hmt2 hO2 H1 H2 HPk
         simp only [yB,yC,Nat.reduceAdd,Below_,Facts,zH,zI,true_and] at hg;simp only [yB,yC,Nat.reduceAdd,Qd,Qh,Qe,zA,zB,zK,if_true,Act.put,zE,zF,zG,hg];refine ⟨?_⟩
         clear hg
         go_wp2_with (first|((with_reducible refine isAppend ?_);(refine' apP (p:=_) (m:=_) (v:=_) (n:=_) (xs:=_) (news:=_) 3 (.inr (List.Mem.head _)) hS rfl rfl rfl Tryz.underlying22 row3_info rfl (by decide) rfl HO2.out rfl ?hl ?hcl ?h1 ?h63 ?hby ?_);(case hcl=>exact Cells.one _ _ _ _);(case hl=>rfl);(case h1=>rfl);(case h63=>(unfold maxLen;omega));(case hby=>omega);clear hS;intro v1 m4 w hO4 hS;refine Veil.out ?_;obtain ⟨A4,c4,rfl,_⟩:=OwnP.shape hO4;refine ⟨?_⟩;have HO4:=yH hO4;clear hO4;(try simp only [zF,zG] at hS);(try simp only [Act.put,zE,zF,zG]))|((with_reducible refine Qc ?_);first|((with_reducible refine Qb ?_);(first|(refine ld1 1 hS rfl rfl ?ha rfl rfl rfl ?_;(case ha=>exact ty_agg22))|(refine ld1 2 hS rfl rfl ?ha rfl rfl rfl ?_;(case ha=>exact ty_agg22)) );(try simp only [Act.put,zE,zF,zG]))|((with_reducible refine Qn ?_);( (refine st1 2 hS rfl rfl rfl rfl rfl ?ha rfl rfl ?hb ?_;(case ha=>exact ty_sz22);(case hb=>(simp;done))));clear hS;intro w hS;(try simp only [zF,zG,zE,Act.eval,zD,zC,zA,zB,zJ] at hS);(try simp only [Act.put]))|((with_reducible refine Kq ?_);(refine' bsl hS ?hr ?_);(case hr=>(intro w0;go_simp;rfl));clear hS;intro XS w hS;(try simp only [Act.eval,zD,zC,zA,zB,zJ,Value.cells] at hS);(try simp only [Act.put,zE,zF,zG]))))
         replace hS:=hS.drop
         refine Zc (fun _ _=>False) [[],[],[1],[],[0,1,2,3]] E I _
          [fun v _=>v=.map (some H),fun v _=>v=nv f,fun v _=>v=nv (f / 2),fun v _=>v=.int .i64 ((q2.rows.length:Int)+1),fun _ _=>True] [4]
          (set1G _ 0 (fun m'=>m'=PH.one H (Qu ikey (l2 ++ [⟨((f / 2:Nat):Int),.int .i64 ((q2.rows.length:Int)+1),clock2⟩]) (clock2+1)))) (by kernel_rfl) (by kernel_rfl) (by decide) hS rfl ?last (fun _ _ _ _ _ _ h=>h) (fun _ _ _ _ _ _ h=>h) ?plain ?step ?hZ ?fin
         case last=>repeat (first|exact Lasting.nil|refine Lasting.cons (fun _ _ _ _ h=>h) ?_)
         case plain=>(repeat' (first|exact trivial|apply And.intro)) <;> first|exact .inl rfl|(refine .inr ?_;intro s vals J bs w hstop hg hJ hS hG;clear hG;simp only [zH,zI,Given,Facts] at hg;simp only [Qd,Qh,Qe,Qj,zH,zI,zA,zB,zK,if_true,Act.put,zE,zF,zG,hg];refine ⟨?_⟩;refine Qm (fun K hK=>?_);have HK:=yH hK;clear hK;rw [if_pos (by rfl)];(first|((with_reducible refine Qs ?_);  ((refine' Qq (v:=_) hS hJ ?ha rfl ?hc ?_);(case ha=>first|exact ty_agg100);(case hc=>assumption)) )|(go_wp2_with (first|(go_at_call 49;(with_reducible refine yI (HNd.out _) ?_);rintro e w2 ⟨rfl,rfl⟩))));refine HK.out _ _ ⟨rfl,J,PH.le.refl _,hS,?_⟩;clear HK;simp only [Facts];simp only [Qo,zH,zI,Act.put,zE,zF,zG,zD,zC,zA,zB,zJ])
         case step =>
          refine ⟨trivial,?_⟩
          intro vals J bs w hg hJ hS hG
          have hG:bs=_:=hG
          subst hG
          simp only [zH,zI,Given,Facts] at hg;simp only [Qd,Qh,Qe,Qj,zH,zI,zA,zB,zK,if_true,Act.put,zE,zF,zG,hg];refine ⟨?_⟩;refine Qm (fun K hK=>?_);have HK:=yH hK;clear hK;rw [if_pos (by rfl)]
          refine wp_mu (x:=((f / 2:Nat):Int)) hS 0 rfl kI Tryz.underlying100 rfl rfl rfl rfl HOk2.out fun w' hS'=>?_
          rw [HQ2.out] at hS'
          simp only [Option.map_none,Option.isSome_none,Bool.false_eq_true,if_false] at hS'
          exact HK.out _ _ ⟨rfl,J,_,PH.le.refl _,hS',trivial,_,rfl,rfl⟩
         case hZ=>exact fun _ _ _ _ h=>h.elim
         case fin =>
          intro vals J9 bs w hJ hg hS hG
          obtain ⟨mH,rfl,hns⟩:=hG
          subst hns
          have hS:=hS.less hJ
          simp only [zG] at hS
          clear hJ
          simp only [yB,yC,Nat.reduceAdd,Below_,Facts,zH,zI,true_and,and_true] at hg;simp only [yB,yC,Nat.reduceAdd,Qd,Qh,Qe,zA,zB,zK,if_true,Act.put,zE,zF,zG,hg];refine ⟨?_⟩
          clear hg
          go_wp2_with (first|(go_at_call 51;(with_reducible refine yI (HNg.out _) ?_);rintro e w2 ⟨rfl,rfl⟩)|(go_at_call 54;(with_reducible refine yI (HOf.out _) ?_);rintro e w2 ⟨rfl,rfl⟩))
          go_ret
          refine ⟨rfl,_,⟨_,_,_,m4,HOk2.out.push HQ2.out _,HMt2.out.push _ _ _,?_,rfl⟩,hS⟩
          simp only [yG,yB,yC,List.flatMap_append,List.flatMap_cons,List.flatMap_nil,List.append_nil]
          exact HO4.out
theorem ddown_any {D X H X1 X4 X5 X6:Nat} {m:G.Mg} {rk:Nat→Nat} (hac:G.Acyc m.s.nd rk):∀ k,DownC D X H X1 X4 X5 X6 m k
 | 0=>fun I q q' f e _ h=>by cases h
 | k+1=>ddown_step hac k (ddown_any hac k)
end
end Go.Proofs.YtidamcdklgfogaaGreat
