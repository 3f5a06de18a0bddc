import Derived.Test.YtidamcdklgfogaaGreatZab
import Derived.Test.YtidamcdklgfogaaGreatZaq
set_option linter.unusedSimpArgs false
set_option linter.unusedVariables false
set_option maxRecDepth 100000
set_option maxHeartbeats 4000000
namespace Go.Proofs.YtidamcdklgfogaaGreat
section
open Go.RowKit
theorem sdrop_any {E w:World} {I m:PH} {ms:List PH} {S:Nat} {s s':G.St} {f:Int} {er:Nat} (hm:s.drop f=some (s',er)) (hf:f<9223372036854775808) (hA:StAt S s m) (hS:Sat E I (m::ms) w) :
  Calls Tryz.prog 109 #[vPt S,.int .i64 f] w fun e w'=>e=.returned (nv er)∧∃ m',StAt S s' m'∧Sat E I (m'::ms) w':=by
 unfold G.St.drop at hm
 cases b1:s.is f with
 | false =>
   rw [b1] at hm
   cases hm
   obtain ⟨J,lJ,mJ,hS,back⟩:=hS.ice
   have hR:=hA.read.le mJ
   have Hback:=yH back
   have HA:=yH hA
   have HI:=yH (fun (w':World) (hle:J.le (Qa w'))=>sis_any (hR.le hle) f hf)
   rw [b1] at HI
   clear hR back hA mJ lJ
   go_enter Tryz.func109,Tryz.ntmps109
   go_wp2_with (first|(go_at_call 103;(with_reducible refine yI (HI.out _ hS.ile) ?_);rintro e w ⟨rfl,hb⟩;replace hS:=hS.below_ hb;clear hb))
   go_ret
   exact ⟨rfl,m,HA.out,Hback.out _ _ hS⟩
 | true =>
 obtain ⟨f,rfl⟩:∃ a:Nat,f=(a:Int):=⟨f.toNat,by have:0≤f:=by { unfold G.St.is at b1;simp only [Bool.and_eq_true,decide_eq_true_eq] at b1;exact b1.1 };omega⟩
 have hAA:=hA
 obtain ⟨h0,L,P,vV,vL,vT,vC,gs,mV,mL,mP,mT,mC,tms,hbd,hV,hL,hP,hT,hC,hgs,htm,htab⟩:=hAA
 have hpl:=hP.1
 have hf1:=is_lt hpl b1
 have hf2:f<4611686018427387904:=by omega
 obtain ⟨J,lJ,mJ,hS,back⟩:=hS.ice
 have Hback:=yH back
 have hR:=hA.read.le mJ
 have HI:=yH (fun (w':World) (hle:J.le (Qa w'))=>sis_any (hR.le hle) f (by omega))
 have HN:=yH (fun w':World=>Yd w' f (by omega))
 rw [b1] at hm HI
 clear hf
 simp only [Bool.not_true,Bool.false_eq_true,if_false,Int.toNat_natCast] at hm
 have mPm:mP.le m:=by rw [hbd.1];exact PH.all_mem hbd.2 (by simp)
 have hpat:=fun (w':World) (hle:J.le (Qa w'))=>pat_nat (hP.read.le (fun b o hb=>hle b o (mJ b o (mPm b o hb)))) (f / 2)
 have iS1:J.at S 1=some (vPt P):=PH.at_le (fun b o hb=>mJ b o (PH.all_mem hbd.2 (.head _) b o hb |> fun h=>by rw [hbd.1];exact h)) (Qk rfl)
 cases hn:s.nd (f / 2) with
 | none =>
   rw [hn] at hm
   cases hm
   rw [show s.pl.nd (f / 2)=none from hn] at hpat
   have HPat:=yH hpat
   have HAA:=yH hA
   have HV5:=yH (Ze (f / 2) none).1
   have HV1:=yH (Ze (f / 2) none).2
   clear hpat hn hR back hA mJ lJ h0 hbd hV hL hP hT hC hgs htm htab hpl mPm
   go_enter Tryz.func109,Tryz.ntmps109
   go_wp2_with (first|(go_at_call 103;(with_reducible refine yI (HI.out _ hS.ile) ?_);rintro e w ⟨rfl,hb⟩;replace hS:=hS.below_ hb;clear hb))
   have hS:Sat E J ([] ++ ms) w:=hS
   have HPA:=yH (fun (w':World) (hle:J.le (Qa w'))=>HPat.out w' hle)
   have HA:=HPA
   clear HPat
   refine Zw [[],[0],[0,1],[0,1,2],[],[4],[0,1,2,3,4,5],[0,1,2,3,4,5,6],[0,1,2,3,4,5,6,7],[0,1,2,3,4,5,6,7],[],[0,1,2,3,4,5,6,7,8,10],[0,1,2,3,4,5,6,7,8,9,10,11]] _ _ [] _ [⟨10,11,194,#[.int .i64 0,.int .i64 0,.int .i64 0,.int .i64 0,.int .i64 0],fun cs _=>cs=(ndW (f / 2) none).cells⟩] [fun v _=>v=vPt S,fun v _=>v=vPt S,fun v _=>v=.pointer (some ⟨S,1,none⟩),fun v _=>v=vPt P,fun v _=>v=nv (f),fun v _=>v=nv ((f) / 2),fun v _=>v=.tuple #[ndW (f / 2) none,.bool (false)],fun v _=>v=.tuple #[ndW (f / 2) none,.bool (false)],fun v _=>v=ndW (f / 2) none,fun v _=>v=.bool (false),fun _ _=>True,fun _ _=>True,fun v _=>v=.bool (false)]
    (by kernel_rfl) (by kernel_rfl) (by simp) hS ?_ ?monoC ?okb ?dal ?fill ?plain ?fin
   · repeat (first|exact Lasting.nil|refine Lasting.cons (fun _ _ _ _ h=>h) ?_)
   case monoC =>
    intro b' hb' cs J K hJK
    simp only [List.mem_cons,List.not_mem_nil,or_false] at hb'
    subst hb'
    exact fun h=>h
   case okb =>
    intro b' hb'
    simp only [List.mem_cons,List.not_mem_nil,or_false] at hb'
    subst hb'
    exact ⟨by simp,⟨rfl,rfl,rfl⟩,⟨_,Xm Zp,rfl⟩,⟨rfl,rfl,_,rfl⟩,by simp,Xn Qt⟩
   case dal =>
    intro b' hb' v' J
    simp only [List.mem_cons,List.not_mem_nil,or_false] at hb'
    subst hb'
    exact ⟨trivial,trivial⟩
   case fill =>
    intro b' hb' vals J hJ hg
    simp only [List.mem_cons,List.not_mem_nil,or_false] at hb'
    subst hb'
    simp only [zH,zI,Given,Facts] at hg
    refine ⟨ndW (f / 2) none,by simp only [Zt,Qd,Qh,Qe,Qj,zH,zI,zA,zB,zK,if_true,Act.put,zE,zF,zG,Act.eval,zD,zC,zJ,hg],HV5.out,HV1.out,rfl⟩
   case plain =>
    repeat' (first|exact trivial|apply And.intro)
    all_goals first
     | (refine .inl (by rfl))
     | ((refine .inr ?_;intro vals J bs w hg hJ hS;simp only [zH,zI,Given,Facts] at hg;simp only [Qd,Qh,Qe,Qj,zH,zI,zA,zB,zK,if_true,Act.put,zE,zF,zG,hg];refine ⟨?_⟩;refine Qg (fun K hK=>?_);have HK:=yH hK;clear hK;rw [if_pos (by rfl)];(first|((with_reducible refine Qs ?_);first|((refine' Qq (v:=_) hS hJ ?ha rfl ?hc ?_);(case ha=>first|exact Kg);(case hc=>assumption)))|(go_wp2_with (first|(go_at_call 49;(with_reducible refine yI (HN.out _) ?_);rintro e w2 ⟨rfl,rfl⟩)|(go_at_call 128;((with_reducible refine yI (HA.out _ (PH.le.trans hJ hS.ile)) ?_);rintro e w2 ⟨rfl,hb2⟩;have hS2:=hS.below_ hb2;clear hS hb2;have hS:=hS2;clear hS2)))));( refine HK.out _ _ ⟨rfl,J,PH.le.refl _,hS,?_⟩ );clear HK;simp only [Facts,Qo,zH,zI,Act.put,zE,zF,zG,zD,zC,zA,zB,zJ]);done)
   case fin =>
    intro vals J9 bs w1 hJ9 hg hS hB
    cases hB with
    | cons h1 hB =>
    cases hB
    simp only [Bx.st,if_true] at h1
    obtain ⟨Y,cY,eY,rfl,zY,rfl⟩:=h1
    have e10:vals 10=vPt Y:=eY
    clear HPA HV5 HV1
    have hS:=hS.less hJ9
    simp only [List.nil_append,List.cons_append] at hS
    simp only [yB,yC,Nat.reduceAdd,Below_,Facts,zH,zI,true_and,and_true] at hg;simp only [yB,yC,Nat.reduceAdd,Qd,Qh,Qe,zA,zB,zK,if_true,Act.put,zE,zF,zG,hg];refine ⟨?_⟩
    clear hg
    go_wp2_with fail
    go_ret
    exact ⟨rfl,m,HAA.out,(Hback.out _ _ hS).perm (List.Perm.swap _ _ _) |>.drop⟩
 | some n =>
   rw [hn] at hm
   simp only [] at hm
   rw [show s.pl.nd (f / 2)=some n from hn] at hpat
   have HPat:=yH hpat
   have HAA:=yH hA
   have HV5:=yH (Ze (f / 2) (some n)).1
   have HV1:=yH (Ze (f / 2) (some n)).2
   have hnf:=hpl.nd (f / 2) n (G.Pl.nd_some.1 hn).2
   have hnr:=hnf.2.2.2
   have HP:=yH hP
   have Hbd:=yH hbd
   have Hnd:=yH (show s.pl.nd (f / 2)=some n from hn)
   have hclose:∀ (p':G.Pl) (mP':PH) (ns:List PH) (w':World),PoolAt P p' mP'→Sat E I (PH.one S (.cells #[vPt L,vPt P,vT,vC,nv s.dead] 164)::PH.one L (.cells #[vV,vL] 166)::mV::mL::mP'::mT::mC::(tms ++ ns)) w'→∃ m',StAt S { s with pl:=p' } m'∧Sat E I (m'::ns) w' :=
    fun p' mP' ns w' hp' hS'=>StAt.close (s:={ s with pl:=p' }) ⟨h0.vars,h0.lev,h0.tabs,h0.cnt,h0.cntb,h0.dead,h0.levb,h0.varb⟩ hV hL hp' hT hC hgs htm htab hS'
   have Hclose:=yH hclose
   clear hpat hclose back hA mJ lJ h0 hbd hV hL hP hT hC hgs htm htab mPm
   by_cases hz:n.refs=0
   · rw [if_pos hz] at hm
     cases hm
     have hnz:n={ n with refs:=0 }:=by rw [← hz]
     rw [hnz] at HV5 HV1 HPat
     clear hnz
     clear Hnd hR hn hnf hpl
     go_enter Tryz.func109,Tryz.ntmps109
     go_wp2_with (first|(go_at_call 103;(with_reducible refine yI (HI.out _ hS.ile) ?_);rintro e w ⟨rfl,hb⟩;replace hS:=hS.below_ hb;clear hb))
     have hS:Sat E J ([] ++ ms) w:=hS
     have HPA:=yH (fun (w':World) (hle:J.le (Qa w'))=>HPat.out w' hle)
     have HA:=HPA
     clear HPat
     refine Zw [[],[0],[0,1],[0,1,2],[],[4],[0,1,2,3,4,5],[0,1,2,3,4,5,6],[0,1,2,3,4,5,6,7],[0,1,2,3,4,5,6,7],[],[0,1,2,3,4,5,6,7,8,10],[0,1,2,3,4,5,6,7,8,9,10,11]] _ _ [] _ [⟨10,11,194,#[.int .i64 0,.int .i64 0,.int .i64 0,.int .i64 0,.int .i64 0],fun cs _=>cs=(ndW (f / 2) (some { n with refs:=0 })).cells⟩] [fun v _=>v=vPt S,fun v _=>v=vPt S,fun v _=>v=.pointer (some ⟨S,1,none⟩),fun v _=>v=vPt P,fun v _=>v=nv (f),fun v _=>v=nv ((f) / 2),fun v _=>v=.tuple #[ndW (f / 2) (some { n with refs:=0 }),.bool (true)],fun v _=>v=.tuple #[ndW (f / 2) (some { n with refs:=0 }),.bool (true)],fun v _=>v=ndW (f / 2) (some { n with refs:=0 }),fun v _=>v=.bool (true),fun _ _=>True,fun _ _=>True,fun v _=>v=.bool (true)]
      (by kernel_rfl) (by kernel_rfl) (by simp) hS ?_ ?monoC ?okb ?dal ?fill ?plain ?fin
     · repeat (first|exact Lasting.nil|refine Lasting.cons (fun _ _ _ _ h=>h) ?_)
     case monoC =>
      intro b' hb' cs J K hJK
      simp only [List.mem_cons,List.not_mem_nil,or_false] at hb'
      subst hb'
      exact fun h=>h
     case okb =>
      intro b' hb'
      simp only [List.mem_cons,List.not_mem_nil,or_false] at hb'
      subst hb'
      exact ⟨by simp,⟨rfl,rfl,rfl⟩,⟨_,Xm Zp,rfl⟩,⟨rfl,rfl,_,rfl⟩,by simp,Xn Qt⟩
     case dal =>
      intro b' hb' v' J
      simp only [List.mem_cons,List.not_mem_nil,or_false] at hb'
      subst hb'
      exact ⟨trivial,trivial⟩
     case fill =>
      intro b' hb' vals J hJ hg
      simp only [List.mem_cons,List.not_mem_nil,or_false] at hb'
      subst hb'
      simp only [zH,zI,Given,Facts] at hg
      refine ⟨ndW (f / 2) (some { n with refs:=0 }),by simp only [Zt,Qd,Qh,Qe,Qj,zH,zI,zA,zB,zK,if_true,Act.put,zE,zF,zG,Act.eval,zD,zC,zJ,hg],HV5.out,HV1.out,rfl⟩
     case plain =>
      repeat' (first|exact trivial|apply And.intro)
      all_goals first
       | (refine .inl (by rfl))
       | ((refine .inr ?_;intro vals J bs w hg hJ hS;simp only [zH,zI,Given,Facts] at hg;simp only [Qd,Qh,Qe,Qj,zH,zI,zA,zB,zK,if_true,Act.put,zE,zF,zG,hg];refine ⟨?_⟩;refine Qg (fun K hK=>?_);have HK:=yH hK;clear hK;rw [if_pos (by rfl)];(first|((with_reducible refine Qs ?_);first|((refine' Qq (v:=_) hS hJ ?ha rfl ?hc ?_);(case ha=>first|exact Kg);(case hc=>assumption)))|(go_wp2_with (first|(go_at_call 49;(with_reducible refine yI (HN.out _) ?_);rintro e w2 ⟨rfl,rfl⟩)|(go_at_call 128;((with_reducible refine yI (HA.out _ (PH.le.trans hJ hS.ile)) ?_);rintro e w2 ⟨rfl,hb2⟩;have hS2:=hS.below_ hb2;clear hS hb2;have hS:=hS2;clear hS2)))));( refine HK.out _ _ ⟨rfl,J,PH.le.refl _,hS,?_⟩ );clear HK;simp only [Facts,Qo,zH,zI,Act.put,zE,zF,zG,zD,zC,zA,zB,zJ]);done)
     case fin =>
      intro vals J9 bs w1 hJ9 hg hS hB
      cases hB with
      | cons h1 hB =>
      cases hB
      simp only [Bx.st,if_true] at h1
      obtain ⟨Y,cY,eY,rfl,zY,rfl⟩:=h1
      have e10:vals 10=vPt Y:=eY
      clear HPA HV5 HV1
      have hS:=hS.less hJ9
      simp only [List.nil_append,List.cons_append] at hS
      have hS:Sat E J (PH.one Y (.cells #[nv (f / 2),nv n.v,nv n.lo,nv n.hi,nv 0] 194)::ms) w1:=hS
      simp only [yB,yC,Nat.reduceAdd,Below_,Facts,zH,zI,true_and,and_true] at hg;simp only [yB,yC,Nat.reduceAdd,Qd,Qh,Qe,zA,zB,zK,if_true,Act.put,zE,zF,zG,hg];refine ⟨?_⟩
      clear hg
      simp only [e10]
      go_wp2_with (first|((with_reducible refine Qc ?_);  ((with_reducible refine Qb ?_);( (refine ld1 0 hS rfl rfl ?ha rfl rfl rfl ?_;(case ha=>exact Qf)) );(try simp only [Act.put,zE,zF,zG])) ))
      go_ret
      exact ⟨rfl,m,HAA.out,(Hback.out _ _ hS).perm (List.Perm.swap _ _ _) |>.drop⟩
   rw [if_neg hz] at hm
   have hz0:¬ (n.refs:Int)=0:=by omega
   have Hfit:=yH (show Fits { n with refs:=n.refs - 1 } from ⟨hnf.1,hnf.2.1,hnf.2.2.1,show n.refs - 1<_ by omega⟩)
   cases hmo:G.St.less G.fuel { s with pl:=s.pl.put (f / 2) { n with refs:=n.refs - 1 } } f with
   | none=>rw [hmo] at hm;cases hm
   | some s1 =>
   rw [hmo] at hm
   cases hm
   have HMo:=yH hmo
   clear hmo hn hnf hpl hR
   go_enter Tryz.func109,Tryz.ntmps109
   go_wp2_with (first|(go_at_call 103;(with_reducible refine yI (HI.out _ hS.ile) ?_);rintro e w ⟨rfl,hb⟩;replace hS:=hS.below_ hb;clear hb))
   have hS:Sat E J ([] ++ ms) w:=hS
   have HPA:=yH (fun (w':World) (hle:J.le (Qa w'))=>HPat.out w' hle)
   have HA:=HPA
   clear HPat
   refine Zw [[],[0],[0,1],[0,1,2],[],[4],[0,1,2,3,4,5],[0,1,2,3,4,5,6],[0,1,2,3,4,5,6,7],[0,1,2,3,4,5,6,7],[],[0,1,2,3,4,5,6,7,8,10],[0,1,2,3,4,5,6,7,8,9,10,11]] _ _ [] _ [⟨10,11,194,#[.int .i64 0,.int .i64 0,.int .i64 0,.int .i64 0,.int .i64 0],fun cs _=>cs=(ndW (f / 2) (some n)).cells⟩] [fun v _=>v=vPt S,fun v _=>v=vPt S,fun v _=>v=.pointer (some ⟨S,1,none⟩),fun v _=>v=vPt P,fun v _=>v=nv (f),fun v _=>v=nv ((f) / 2),fun v _=>v=.tuple #[ndW (f / 2) (some n),.bool (true)],fun v _=>v=.tuple #[ndW (f / 2) (some n),.bool (true)],fun v _=>v=ndW (f / 2) (some n),fun v _=>v=.bool (true),fun _ _=>True,fun _ _=>True,fun v _=>v=.bool (true)]
    (by kernel_rfl) (by kernel_rfl) (by simp) hS ?_ ?monoC ?okb ?dal ?fill ?plain ?fin
   · repeat (first|exact Lasting.nil|refine Lasting.cons (fun _ _ _ _ h=>h) ?_)
   case monoC =>
    intro b' hb' cs J K hJK
    simp only [List.mem_cons,List.not_mem_nil,or_false] at hb'
    subst hb'
    exact fun h=>h
   case okb =>
    intro b' hb'
    simp only [List.mem_cons,List.not_mem_nil,or_false] at hb'
    subst hb'
    exact ⟨by simp,⟨rfl,rfl,rfl⟩,⟨_,Xm Zp,rfl⟩,⟨rfl,rfl,_,rfl⟩,by simp,Xn Qt⟩
   case dal =>
    intro b' hb' v' J
    simp only [List.mem_cons,List.not_mem_nil,or_false] at hb'
    subst hb'
    exact ⟨trivial,trivial⟩
   case fill =>
    intro b' hb' vals J hJ hg
    simp only [List.mem_cons,List.not_mem_nil,or_false] at hb'
    subst hb'
    simp only [zH,zI,Given,Facts] at hg
    refine ⟨ndW (f / 2) (some n),by simp only [Zt,Qd,Qh,Qe,Qj,zH,zI,zA,zB,zK,if_true,Act.put,zE,zF,zG,Act.eval,zD,zC,zJ,hg],HV5.out,HV1.out,rfl⟩
   case plain =>
    repeat' (first|exact trivial|apply And.intro)
    all_goals first
     | (refine .inl (by rfl))
     | ((refine .inr ?_;intro vals J bs w hg hJ hS;simp only [zH,zI,Given,Facts] at hg;simp only [Qd,Qh,Qe,Qj,zH,zI,zA,zB,zK,if_true,Act.put,zE,zF,zG,hg];refine ⟨?_⟩;refine Qg (fun K hK=>?_);have HK:=yH hK;clear hK;rw [if_pos (by rfl)];(first|((with_reducible refine Qs ?_);first|((refine' Qq (v:=_) hS hJ ?ha rfl ?hc ?_);(case ha=>first|exact Kg);(case hc=>assumption)))|(go_wp2_with (first|(go_at_call 49;(with_reducible refine yI (HN.out _) ?_);rintro e w2 ⟨rfl,rfl⟩)|(go_at_call 128;((with_reducible refine yI (HA.out _ (PH.le.trans hJ hS.ile)) ?_);rintro e w2 ⟨rfl,hb2⟩;have hS2:=hS.below_ hb2;clear hS hb2;have hS:=hS2;clear hS2)))));( refine HK.out _ _ ⟨rfl,J,PH.le.refl _,hS,?_⟩ );clear HK;simp only [Facts,Qo,zH,zI,Act.put,zE,zF,zG,zD,zC,zA,zB,zJ]);done)
   case fin =>
    intro vals J9 bs w1 hJ9 hg hS hB
    cases hB with
    | cons h1 hB =>
    cases hB
    simp only [Bx.st,if_true] at h1
    obtain ⟨Y,cY,eY,rfl,zY,rfl⟩:=h1
    have e10:vals 10=vPt Y:=eY
    clear HPA HV5 HV1
    have hS:=hS.less hJ9
    simp only [List.nil_append,List.cons_append] at hS
    have hS:Sat E J (PH.one Y (.cells #[nv (f / 2),nv n.v,nv n.lo,nv n.hi,nv n.refs] 194)::ms) w1:=hS
    simp only [yB,yC,Nat.reduceAdd,Below_,Facts,zH,zI,true_and,and_true] at hg;simp only [yB,yC,Nat.reduceAdd,Qd,Qh,Qe,zA,zB,zK,if_true,Act.put,zE,zF,zG,hg];refine ⟨?_⟩
    clear hg
    simp only [e10]
    go_wp2_with (first|((with_reducible refine Qc ?_);first|((with_reducible refine Qb ?_);( (refine ld1 0 hS rfl rfl ?ha rfl rfl rfl ?_;(case ha=>exact Qf)) );(try simp only [Act.put,zE,zF,zG]))|((with_reducible refine Qn ?_);( (refine st1 0 hS rfl rfl rfl rfl rfl ?ha rfl rfl ?hb ?_;(case ha=>exact Kk);(case hb=>(simp;done))) );clear hS;intro w hS;(try simp only [zF,zG,zE,Act.eval,zD,zC,zA,zB,zJ] at hS);(try simp only [Act.put])) ))
    have hDv:(.int .i64 ((n.refs:Int) - 1):Value)=nv (n.refs - 1):=by simp only [nv];  (congr 1 <;> omega)
    rw [hDv] at hS
    have hS:=Hback.out _ _ hS
    have hS:=Sat.unpack Hbd.out hS
    simp only [List.cons_append] at hS
    obtain ⟨I1,l01,lS,hS1,bS⟩:=hS.ice
    have hS1:=hS1.perm (List.perm_middle (l₁:=PH.one L (.cells #[vV,vL] 166)::mV::mL::mP::mT::mC::tms) (l₂:=ms))
    obtain ⟨I2,l12,lY,hS2,bY⟩:=hS1.ice
    have iS1:I2.at S 1=some (vPt P):=PH.at_le l12 (PH.at_le lS (Qk rfl))
    have iY:Cells I2 Y 0 [nv (f / 2),nv n.v,nv n.lo,nv n.hi,nv (n.refs - 1)]:=(Cells.one Y #[nv (f / 2),nv n.v,nv n.lo,nv n.hi,nv (n.refs - 1)] 194 (0,0)).le lY
    have HbS:=yH bS
    have HbY:=yH bY
    clear hS hS1 bS bY lS lY l12 l01
    refine Qx [[],[0],[0,1],[0,1,2],[],[0,1,2,3,4]] E I2 _
     [fun v _=>v=vPt S,fun v _=>v=vPt S,fun v _=>v=.pointer (some ⟨S,1,none⟩),fun v _=>v=vPt P,fun v _=>v=ndA (f / 2) { n with refs:=n.refs - 1 },fun _ _=>True] [5]
     (set1G _ 3 (fun m'=>PoolAt P (s.pl.put (f / 2) { n with refs:=n.refs - 1 }) m')) (by kernel_rfl) (by kernel_rfl) (by decide) hS2 rfl ?last (fun _ _ _ _ _ _ h=>h) (fun _ _ _ _ _ _ h=>h) ?plain ?step ?fin
    case last=>repeat (first|exact Lasting.nil|refine Lasting.cons (fun _ _ _ _ h=>h) ?_)
    case plain=>(repeat' (first|exact trivial|apply And.intro)) <;> first|exact .inl rfl|(refine .inr ?_;intro s vals J bs w hstop hg hJ hS hG;clear hG;simp only [zH,zI,Given,Facts] at hg;simp only [Qd,Qh,Qe,Qj,zH,zI,zA,zB,zK,if_true,Act.put,zE,zF,zG,hg];refine ⟨?_⟩;refine Qg (fun K hK=>?_);have HK:=yH hK;clear hK;rw [if_pos (by rfl)];(first|((with_reducible refine Qs ?_);first|((refine' Qq (v:=_) hS hJ ?ha rfl ?hc ?_);(case ha =>  exact Kg );(case hc=>assumption))|((refine' wp_ldiN (vs:=_) hS hJ ?ha rfl ?hc ?hb ?_);(case ha=>first|exact Zg);(case hc=>assumption);(case hb=>first|exact Qt)))|(go_wp2_with (fail)));refine HK.out _ _ ⟨rfl,J,PH.le.refl _,hS,?_⟩;clear HK;simp only [Facts];simp only [Qo,zH,zI,Act.put,zE,zF,zG,zD,zC,zA,zB,zJ])
    case step =>
     refine ⟨trivial,?_⟩
     intro vals J bs w hg hJ hS hG
     have hG:bs=_:=hG
     subst hG
     simp only [zH,zI,Given,Facts] at hg;simp only [Qd,Qh,Qe,Qj,zH,zI,zA,zB,zK,if_true,Act.put,zE,zF,zG,hg];refine ⟨?_⟩;refine Qg (fun K hK=>?_);have HK:=yH hK;clear hK;rw [if_pos (by rfl)]
     go_wp2_with (go_at_call 137;(with_reducible refine yI (pset_any _ _ _ _ _ P s.pl (f / 2) { n with refs:=n.refs - 1 } n Hnd.out Hfit.out HP.out (hS.pick 3 rfl)) ?_);clear hS;rintro e w ⟨rfl,mP',hP',hS⟩)
     exact HK.out _ _ ⟨rfl,J,_,PH.le.refl _,hS.back 3 rfl,trivial,mP',hP',rfl⟩
    case fin =>
     intro vals J bs w hJ hg hS hG
     obtain ⟨mP',hP',hns⟩:=hG
     subst hns
     have hS:=hS.less hJ
     have hS:=HbY.out _ _ hS
     simp only [List.cons_append,zF,zG] at hS
     have hS:=HbS.out _ _ (hS.perm (List.perm_middle (l₁:=PH.one L (.cells #[vV,vL] 166)::mV::mL::mP'::mT::mC::tms) (l₂:=ms)).symm)
     obtain ⟨m1,hA1,hS1⟩:=Hclose.out _ mP' _ _ hP' hS
     have HA1:=yH hA1
     simp only [yB,yC,Nat.reduceAdd,Below_,Facts,zH,zI,true_and,and_true] at hg;simp only [yB,yC,Nat.reduceAdd,Qd,Qh,Qe,zA,zB,zK,if_true,Act.put,zE,zF,zG,hg];refine ⟨?_⟩
     clear hg hS hA1 hP' hJ
     go_wp2_with fail
     refine (sless_any _ _ _ f m1 _ _ HMo.out hf2 HA1.out hS1).mono ?_
     clear hS1
     rintro e w ⟨rfl,m3,hA3,hS⟩
     have HA3:=yH hA3
     clear hA3
     go_wp2_with fail
     go_ret
     exact ⟨rfl,m3,HA3.out,(hS.perm (List.Perm.swap _ _ _)).drop⟩
end
end Go.Proofs.YtidamcdklgfogaaGreat
