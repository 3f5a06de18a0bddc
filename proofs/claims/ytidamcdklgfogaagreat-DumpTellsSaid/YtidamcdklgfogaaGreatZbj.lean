import Derived.Test.YtidamcdklgfogaaGreatZab
import Derived.Test.YtidamcdklgfogaaGreatZbi
set_option linter.unusedSimpArgs false
set_option linter.unusedVariables false
set_option maxRecDepth 100000
set_option maxHeartbeats 8000000
namespace Go.Proofs.YtidamcdklgfogaaGreat
section
open Go.RowKit
theorem ty_agg122:Kz Tryz.prog 122=some false:=by kernel_rfl
theorem run_inv {α:Type} {Inv:G.Mg→Prop} {F:G.Mg→G.Step α} (hK:KeepsM Inv) (hstep:∀ m m' rs,Inv m→F m=some (m',rs)→Inv m'):∀ (k:Nat) (room:Bool) (m m':G.Mg) (res:α ⊕ Nat),Inv m→G.Mg.run F k room m=some (m',res) →
  Inv m'∧(∀ f,res=.inl f→∃ m0,Inv m0∧F m0=some (m',.ok f))∧∀ e,res=.inr e→∃ m0,Inv m0∧F m0=some (m',.stop (.err e))
 | 0,room,m,m',res,hI,h=>by cases h
 | k+1,room,m,m',res,hI,h=>by
   rw [run_succ] at h
   cases hF:F m with
   | none=>rw [hF] at h;cases h
   | some x =>
     obtain ⟨m2,rs⟩:=x
     rw [hF] at h
     have hI2:=hstep _ _ _ hI hF
     cases rs with
     | ok a=>cases h;exact ⟨hI2,fun f e=>by cases e;exact ⟨m,hI,hF⟩,fun e h=>by cases h⟩
     | stop st =>
       cases st with
       | event ev =>
         simp only at h
         cases hh:m2.happen ev with
         | none=>rw [hh] at h;cases h
         | some m3 =>
           rw [hh] at h
           exact run_inv hK hstep k false m3 m' res (hK.happen hI2 hh) h
       | err er =>
         simp only at h
         split at h
         · cases hh:m2.collect with
           | none=>rw [hh] at h;cases h
           | some x =>
             obtain ⟨m3,kk⟩:=x
             rw [hh] at h
             have hI3:Inv m3:=by
              unfold G.Mg.collect at hh
              cases hc:m2.s.collect with
              | none=>rw [hc] at hh;cases hh
              | some y=>rw [hc] at hh;cases hh;exact hK.coll _ _ _ hI2 hc
             exact run_inv hK hstep k true m3 m' res hI3 h
         · cases h;exact ⟨hI2,(fun f e=>by cases e),fun e h=>by cases h;exact ⟨m,hI,hF⟩⟩
def doP (X:Nat) (P:PH→Prop) (q':PH):Prop:=∃ q v,Bd q' [PH.one X (.cells #[v] 102),q]∧P q
def doQ (X:Nat) (Q:Nat→PH→Prop) (f:Nat) (q':PH):Prop:=∃ q,Bd q' [PH.one X (.cells #[nv f] 102),q]∧Q f q
theorem perm_a (a b c:PH) (ms:List PH):List.Perm (a::b::c::ms) (c::b::a::ms):=by
 have h1:List.Perm (a::b::c::ms) (b::a::c::ms):=List.Perm.swap _ _ _
 have h2:List.Perm (b::a::c::ms) (b::c::a::ms):=List.Perm.cons _ (List.Perm.swap _ _ _)
 have h3:List.Perm (b::c::a::ms) (c::b::a::ms):=List.Perm.swap _ _ _
 exact (h1.trans h2).trans h3
theorem do1_op {fid D X3 X6:Nat} {cs:Array Value} {J0 J1:PH} {Inv:G.Mg→Prop} {F:G.Mg→G.Step Nat} {P:PH→Prop} {Q:Nat→PH→Prop} (hop:OpC fid cs D J0 Inv F nv P Q) (hJ:J0.le J1) (h3:J1.at X3 0=some (.func (.func fid) #[] cs)) :
  OpC 102 #[vPt X3,vPt X6] D J1 Inv F (fun _=>.tuple #[]) (doP X6 P) (doQ X6 Q) where
 enter:=fun args w=>by kernel_rfl
 run:=by
  intro E I p q' ms w m m' rs X hJ1 hI hF hX hA hP' hS
  obtain ⟨q,v,hb,hq⟩:=hP'
  have hS1:=Sat.unpack hb (hS.pick 1 rfl)
  simp only [List.cons_append,List.nil_append,List.eraseIdx_cons_succ,List.eraseIdx_cons_zero] at hS1
  have hent:=hop.enter
  have HO:=yH (fun (w:World) (h:Sat E I (p::q::PH.one X6 (.cells #[v] 102)::ms) w)=>hop.run E I p q _ w m m' rs X (hJ.trans hJ1) hI hF hX hA hq h)
  have i3:I.at X3 0=some (.func (.func fid) #[] cs):=PH.at_le hJ1 h3
  have hS2:=hS1.perm (perm_a _ _ _ _)
  clear hS hS1 hb hq hJ hJ1 hI hF hA h3 hop hX
  have hS:=hS2
  clear hS2
  show Calls _ _ #[vPt X,vPt X3,vPt X6] _ _
  cases rs with
  | ok a =>
    simp only [endE] at HO
    go_enter Tryz.func102,Tryz.ntmps102
    go_wp2_with (first|((with_reducible refine yI (HO.out _ hS) ?_);clear hS;rintro e w ⟨rfl,p1,q1,hA1,hQ1,hS⟩;have HA1:=yH hA1;have HQ1:=yH hQ1;clear hA1 hQ1)|((with_reducible refine Qc ?_);first|((with_reducible refine Qb ?_);( ((refine' Ka (v:=_) hS rfl rfl ?ha rfl ?hb ?_);(case ha=>exact ty_agg122);(case hb=>assumption)));(try simp only [Act.put,zE,zF,zG]))|((with_reducible refine Qn ?_);( (refine st1 2 hS rfl rfl rfl rfl rfl ?ha rfl rfl ?hb ?_;(case ha=>exact ty_sz102);(case hb=>(simp;done))));clear hS;intro w hS;(try simp only [zF,zG,zE,Act.eval,zD,zC,zA,zB,zJ] at hS);(try simp only [Act.put]))))
    go_end0
    obtain ⟨q2,hb2,hS2⟩:=Sat.pack [PH.one X6 (.cells #[nv a] 102),q1] (hS.perm (perm_a _ _ _ _))
    exact ⟨rfl,p1,q2,HA1.out,⟨q1,hb2,HQ1.out⟩,hS2.perm (List.Perm.swap _ _ _)⟩
  | stop st =>
    simp only [endE] at HO
    go_enter Tryz.func102,Tryz.ntmps102
    go_wp2_with (first|((with_reducible refine yI (HO.out _ hS) ?_);clear hS;rintro e w ⟨rfl,p1,q1,hA1,hQ1,hS⟩;have HA1:=yH hA1;have HQ1:=yH hQ1;clear hA1 hQ1)|((with_reducible refine Qc ?_);  ((with_reducible refine Qb ?_);( ((refine' Ka (v:=_) hS rfl rfl ?ha rfl ?hb ?_);(case ha=>exact ty_agg122);(case hb=>assumption)));(try simp only [Act.put,zE,zF,zG])) ))
    refine ⟨rfl,?_⟩
    obtain ⟨q2,hb2,hS2⟩:=Sat.pack [PH.one X6 (.cells #[v] 102),q1] (hS.perm (perm_a _ _ _ _))
    exact And.intro rfl ⟨p1,q2,HA1.out,⟨q1,v,hb2,HQ1.out⟩,hS2.perm (List.Perm.swap _ _ _)⟩
theorem mdo_any {fid D:Nat} {cs:Array Value} {J0:PH} {Inv:G.Mg→Prop} {F:G.Mg→G.Step Nat} {P:PH→Prop} {Q:Nat→PH→Prop} (hop:OpC fid cs D J0 Inv F nv P Q) (hK:KeepsM Inv) (hstep:∀ m m' rs,Inv m→F m=some (m',rs)→Inv m') (hlt:∀ m m' f,Inv m→F m=some (m',.ok f)→f<4611686018427387904) (hne:∀ m m',Inv m→F m≠some (m',.stop (.err 0)))
  {E w:World} {I p q:PH} {ms:List PH} {m m':G.Mg} {h er:Nat} (hJ0:J0.le I) (hI:Inv m) (hm:m.do_ F=some (m',h,er)) (hA:MgAt D m p) (hq:P q) (hS:Sat E I (p::q::ms) w) :
  Calls Tryz.prog 60 #[vPt D,.func (.func fid) #[] cs] w fun e w'=>e=.returned (.tuple #[nv h,nv er])∧∃ p',MgAt D m' p'∧Sat E I (p'::ms) w':=by
 have hnf:∀ W:World,(binOp .eql 122 (.func (.func fid) #[] cs) .nilFunc).run Tryz.prog W=.ok (.bool false) W:=fun _=>by kernel_rfl
 have hmf:∀ (fn:Fn) (first cap:Array Value) (w:World),(Instr.makeFunc fn first cap).run Tryz.prog w=.ok (.func fn first cap) w:=fun _ _ _ _=>rfl
 unfold G.Mg.do_ at hm
 cases hr:G.Mg.run F G.fuel false m with
 | none=>rw [hr] at hm;cases hm
 | some x =>
   obtain ⟨m1,res⟩:=x
   rw [hr] at hm
   obtain ⟨hI1,hres,herr⟩:=run_inv hK hstep _ _ _ _ _ hI hr
   have HR:Hid (∀ (w:World) (X3 X6:Nat),Sat E I (PH.one X6 (.cells #[.int .i64 0] 102)::PH.one X3 (.cells #[.func (.func fid) #[] cs] 122)::p::q::ms) w →
     Calls Tryz.prog 92 #[vPt D,.func (.func 102) #[] #[vPt X3,vPt X6]] w fun e w'=>e=.returned (runE res)∧∃ p1 v,MgAt D m1 p1∧(∀ f,res=.inl f→v=nv f)∧Sat E I (PH.one X6 (.cells #[v] 102)::PH.one X3 (.cells #[.func (.func fid) #[] cs] 122)::p1::ms) w'):=by
    refine yH fun w X3 X6 h=>?_
    obtain ⟨J,lJ,mJ,h2,back⟩:=(h.perm (List.Perm.swap _ _ _)).ice
    obtain ⟨q',hb,h3⟩:=Sat.pack [PH.one X6 (.cells #[.int .i64 0] 102),q] (h2.perm (List.Perm.cons _ (List.Perm.swap _ _ _)))
    refine (mrun_any (do1_op (X3:=X3) (X6:=X6) hop (hJ0.trans lJ) (PH.at_le mJ (Qk rfl))) hK hstep (PH.le.refl J) hI hr hA ⟨q,_,hb,hq⟩ (h3.perm (List.Perm.swap _ _ _))).mono ?_
    rintro e w' ⟨rfl,p1,q1,hA1,hQ1,h4⟩
    have h5:=h4.perm (List.Perm.swap _ _ _)
    cases res with
    | inl f =>
      obtain ⟨q2,hb2,_⟩:=hQ1
      have h6:=Sat.unpack hb2 h5
      simp only [List.cons_append,List.nil_append] at h6
      exact ⟨rfl,p1,_,hA1,(fun f' e=>by cases e;rfl),(back _ _ (h6.perm (List.Perm.swap _ _ _)).drop).perm (List.Perm.swap _ _ _)⟩
    | inr e2 =>
      obtain ⟨q2,v,hb2,_⟩:=hQ1
      have h6:=Sat.unpack hb2 h5
      simp only [List.cons_append,List.nil_append] at h6
      exact ⟨rfl,p1,v,hA1,(fun f' e=>by cases e),(back _ _ (h6.perm (List.Perm.swap _ _ _)).drop).perm (List.Perm.swap _ _ _)⟩
   clear hop hJ0 hq hA hr
   cases res with
   | inr e2 =>
     cases hm
     simp only [runE] at HR
     by_cases he:er=0
     · obtain ⟨m0,hI0,hF0⟩:=herr _ rfl
       rw [he] at hF0
       exact absurd hF0 (hne _ _ hI0)
     have d1:((er:Int) != 0)=true:=by simp;omega
     clear hres herr hne hI1 hK hstep hlt hI he
     go_enter Tryz.func60,Tryz.ntmps60
     go_wp2_with (first|(go_at_call 92;(with_reducible refine yI (HR.out _ _ _ hS) ?_);clear hS;rintro e w ⟨rfl,p1,v1,hA1,hv1,hS⟩;have HA1:=yH hA1;clear hA1 hv1)|((with_reducible refine Qc ?_);first|((with_reducible refine Za 3 ?_);refine bx hS rfl rfl rfl ?_;clear hS;intro X3 w hS;(try simp only [Act.eval,zD,zC,zA,zB,zJ,Value.cells] at hS);(try simp only [Act.put,zE,zF,zG]))|((with_reducible refine Ql 6 ?_);(refine' al (z:=_) hS rfl rfl ?ha ?_);(case ha=>exact Xu);clear hS;intro X6 w hS;(try simp only [Value.cells] at hS);(try simp only [Act.put,zE,zF,zG]))|((with_reducible refine Qb ?_);( (refine ld1 0 hS rfl rfl ?ha rfl rfl rfl ?_;(case ha =>  exact ty_agg122 )) );(try simp only [Act.put,zE,zF,zG])) ))
     go_ret2
     exact ⟨rfl,p1,HA1.out,hS.drop.drop⟩
   | inl f =>
     obtain ⟨m0,hI0,hF0⟩:=hres f rfl
     have hfl:=hlt _ _ _ hI0 hF0
     have hnew:=hK.new _ hI1
     simp only [runE] at HR
     simp only at hm
     clear hres herr hne hI1 hK hstep hlt hI hI0 hF0
     cases his:m1.s.is (f:Int) with
     | false =>
       rw [his] at hm
       simp only [Bool.false_eq_true,if_false,Option.some.injEq,Prod.mk.injEq] at hm
       obtain ⟨rfl,rfl,rfl⟩:=hm
       go_enter Tryz.func60,Tryz.ntmps60
       go_wp2_with (first|(go_at_call 92;(with_reducible refine yI (HR.out _ _ _ hS) ?_);clear hS;rintro e w ⟨rfl,p1,v1,hA1,hv1,hS⟩;have HA1:=yH hA1;have HV1:=yH (hv1 f rfl);clear hA1 hv1)|((with_reducible refine Qc ?_);first|((with_reducible refine Za 3 ?_);refine bx hS rfl rfl rfl ?_;clear hS;intro X3 w hS;(try simp only [Act.eval,zD,zC,zA,zB,zJ,Value.cells] at hS);(try simp only [Act.put,zE,zF,zG]))|((with_reducible refine Ql 6 ?_);(refine' al (z:=_) hS rfl rfl ?ha ?_);(case ha=>exact Xu);clear hS;intro X6 w hS;(try simp only [Value.cells] at hS);(try simp only [Act.put,zE,zF,zG]))|((with_reducible refine Qb ?_);( (refine ld1 0 hS rfl rfl ?ha rfl rfl rfl ?_;(case ha =>  exact ty_agg122 )) );(try simp only [Act.put,zE,zF,zG])) ))
       rw [HV1.out] at hS
       obtain ⟨I1,_,lX,hS1,bX⟩:=hS.ice
       obtain ⟨I2,l2,lP,hS2,bP⟩:=(hS1.pick 1 rfl).ice
       simp only [List.eraseIdx_cons_succ,List.eraseIdx_cons_zero] at hS2 bP
       have iX:I2.at X6 0=some (nv f):=PH.at_le l2 (PH.at_le lX (Qk rfl))
       obtain ⟨_,S,M,H,wv,r0,_,_,_,_,_,rS,_⟩:=HA1.out.read.le lP
       have HIs:=yH (fun (w':World) (h:I2.le (Qa w'))=>sis_any (rS.le h) (f:Int) (by omega))
       rw [his] at HIs
       clear lX l2 lP hS1 hS rS HR
       refine Qx [[],[0],[0,1],[0,1,2],[],[0,1,2,3,4],[0,1,2,3,4,5]] E I2 _
        [fun v _=>v=vPt D,fun v _=>v=vPt D,fun v _=>v=.pointer (some ⟨D,0,none⟩),fun v _=>v=vPt S,fun v _=>v=nv f,fun v _=>v=.bool false,fun v _=>v=.bool true] []
        (fun _ _ _ ns=>ns=PH.one X3 (.cells #[.func (.func fid) #[] cs] 122)::ms) (by kernel_rfl) (by kernel_rfl) (by decide) hS2 rfl ?last (fun _ _ _ _ _ _ h=>h) (fun _ _ _ _ _ _ h=>h) ?plain ?step ?fin
       case last=>repeat (first|exact Lasting.nil|refine Lasting.cons (fun _ _ _ _ h=>h) ?_)
       case plain=>(repeat' (first|exact trivial|apply And.intro)) <;>  (refine .inr ?_;intro s vals J bs w hstop hg hJ hS hG;clear hG;simp only [zH,zI,Given,Facts] at hg;simp only [Qd,Qh,Qe,Qj,zH,zI,zA,zB,zK,if_true,Act.put,zE,zF,zG,hg];refine ⟨?_⟩;refine Qg (fun K hK=>?_);have HK:=yH hK;clear hK;rw [if_pos (by rfl)];(first|((with_reducible refine Qs ?_);first|((refine' Qq (v:=_) hS hJ ?ha rfl ?hc ?_);(case ha=>first|exact Qr|exact Ki);(case hc=>assumption)))|(go_wp2_with (first|(go_at_call 103;(with_reducible refine yI (HIs.out _ (PH.le.trans hJ hS.ile)) ?_);rintro e w2 ⟨rfl,hb2⟩;have hS2:=hS.below_ hb2;clear hS hb2;have hS:=hS2;clear hS2))));refine HK.out _ _ ⟨rfl,J,PH.le.refl _,hS,?_⟩;clear HK;simp only [Facts];simp only [Qo,zH,zI,Act.put,zE,zF,zG,zD,zC,zA,zB,zJ])
       case step=>trivial
       case fin =>
        intro vals J9 bs w hJ hg hS hG
        have hG:bs=_:=hG
        subst hG
        have hS:=bX _ _ (bP _ _ (hS.less hJ))
        clear iX r0 hJ hS2 bX bP
        simp only [yB,yC,Nat.reduceAdd,Below_,Facts,zH,zI,true_and] at hg;simp only [yB,yC,Nat.reduceAdd,Qd,Qh,Qe,zA,zB,zK,if_true,Act.put,zE,zF,zG,hg];refine ⟨?_⟩
        clear hg
        go_wp2_with fail
        go_ret2
        exact ⟨rfl,p1,HA1.out,(hS.drop.perm (List.Perm.refl _)).sub (.cons_cons _ (.cons _ (List.Sublist.refl _)))⟩
     | true =>
       rw [his] at hm
       simp only [if_true] at hm
       cases hgv:m1.give f with
       | none=>rw [hgv] at hm;cases hm
       | some y =>
         obtain ⟨m2,h2⟩:=y
         rw [hgv] at hm
         simp only [Option.map_some,Option.some.injEq,Prod.mk.injEq] at hm
         obtain ⟨rfl,rfl,rfl⟩:=hm
         have HG:=yH (fun (p:PH) (ms':List PH) (w:World) (hA:MgAt D m1 p) (h:Sat E I (p::ms') w)=>give_any hgv (by omega) hnew hA h)
         clear hgv hnew
         go_enter Tryz.func60,Tryz.ntmps60
         go_wp2_with (first|(go_at_call 92;(with_reducible refine yI (HR.out _ _ _ hS) ?_);clear hS;rintro e w ⟨rfl,p1,v1,hA1,hv1,hS⟩;have HA1:=yH hA1;have HV1:=yH (hv1 f rfl);clear hA1 hv1)|((with_reducible refine Qc ?_);first|((with_reducible refine Za 3 ?_);refine bx hS rfl rfl rfl ?_;clear hS;intro X3 w hS;(try simp only [Act.eval,zD,zC,zA,zB,zJ,Value.cells] at hS);(try simp only [Act.put,zE,zF,zG]))|((with_reducible refine Ql 6 ?_);(refine' al (z:=_) hS rfl rfl ?ha ?_);(case ha=>exact Xu);clear hS;intro X6 w hS;(try simp only [Value.cells] at hS);(try simp only [Act.put,zE,zF,zG]))|((with_reducible refine Qb ?_);( (refine ld1 0 hS rfl rfl ?ha rfl rfl rfl ?_;(case ha =>  exact ty_agg122 )) );(try simp only [Act.put,zE,zF,zG])) ))
         rw [HV1.out] at hS
         obtain ⟨I1,_,lX,hS1,bX⟩:=hS.ice
         obtain ⟨I2,l2,lP,hS2,bP⟩:=(hS1.pick 1 rfl).ice
         simp only [List.eraseIdx_cons_succ,List.eraseIdx_cons_zero] at hS2 bP
         have iX:I2.at X6 0=some (nv f):=PH.at_le l2 (PH.at_le lX (Qk rfl))
         obtain ⟨_,S,M,H,wv,r0,_,_,_,_,_,rS,_⟩:=HA1.out.read.le lP
         have HIs:=yH (fun (w':World) (h:I2.le (Qa w'))=>sis_any (rS.le h) (f:Int) (by omega))
         rw [his] at HIs
         clear lX l2 lP hS1 hS rS HR
         refine Qx [[],[0],[0,1],[0,1,2],[],[0,1,2,3,4],[0,1,2,3,4,5]] E I2 _
          [fun v _=>v=vPt D,fun v _=>v=vPt D,fun v _=>v=.pointer (some ⟨D,0,none⟩),fun v _=>v=vPt S,fun v _=>v=nv f,fun v _=>v=.bool true,fun v _=>v=.bool false] []
          (fun _ _ _ ns=>ns=PH.one X3 (.cells #[.func (.func fid) #[] cs] 122)::ms) (by kernel_rfl) (by kernel_rfl) (by decide) hS2 rfl ?last (fun _ _ _ _ _ _ h=>h) (fun _ _ _ _ _ _ h=>h) ?plain ?step ?fin
         case last=>repeat (first|exact Lasting.nil|refine Lasting.cons (fun _ _ _ _ h=>h) ?_)
         case plain=>(repeat' (first|exact trivial|apply And.intro)) <;>  (refine .inr ?_;intro s vals J bs w hstop hg hJ hS hG;clear hG;simp only [zH,zI,Given,Facts] at hg;simp only [Qd,Qh,Qe,Qj,zH,zI,zA,zB,zK,if_true,Act.put,zE,zF,zG,hg];refine ⟨?_⟩;refine Qg (fun K hK=>?_);have HK:=yH hK;clear hK;rw [if_pos (by rfl)];(first|((with_reducible refine Qs ?_);first|((refine' Qq (v:=_) hS hJ ?ha rfl ?hc ?_);(case ha=>first|exact Qr|exact Ki);(case hc=>assumption)))|(go_wp2_with (first|(go_at_call 103;(with_reducible refine yI (HIs.out _ (PH.le.trans hJ hS.ile)) ?_);rintro e w2 ⟨rfl,hb2⟩;have hS2:=hS.below_ hb2;clear hS hb2;have hS:=hS2;clear hS2))));refine HK.out _ _ ⟨rfl,J,PH.le.refl _,hS,?_⟩;clear HK;simp only [Facts];simp only [Qo,zH,zI,Act.put,zE,zF,zG,zD,zC,zA,zB,zJ])
         case step=>trivial
         case fin =>
          intro vals J9 bs w hJ hg hS hG
          have hG:bs=_:=hG
          subst hG
          have hS:=bX _ _ (bP _ _ (hS.less hJ))
          clear iX r0 hJ hS2 bX bP
          simp only [yB,yC,Nat.reduceAdd,Below_,Facts,zH,zI,true_and] at hg;simp only [yB,yC,Nat.reduceAdd,Qd,Qh,Qe,zA,zB,zK,if_true,Act.put,zE,zF,zG,hg];refine ⟨?_⟩
          clear hg
          go_wp2_with (first|(go_at_call 104;(with_reducible refine yI (HG.out _ _ _ HA1.out (hS.pick 1 rfl)) ?_);clear hS;rintro e w ⟨rfl,p2,hA2,hS⟩;have HA2:=yH hA2;clear hA2)|((with_reducible refine Qc ?_);  ((with_reducible refine Qb ?_);( (refine ld1 0 hS rfl rfl ?ha rfl rfl rfl ?_;(case ha=>exact Ki)) );(try simp only [Act.put,zE,zF,zG])) ))
          go_ret2
          simp only [List.eraseIdx_cons_succ,List.eraseIdx_cons_zero] at hS
          exact ⟨rfl,p2,HA2.out,hS.sub (.cons_cons _ (.cons _ (.cons _ (List.Sublist.refl _))))⟩
end
end Go.Proofs.YtidamcdklgfogaaGreat
