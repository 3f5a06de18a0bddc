import Derived.Test.YtidamcdklgfogaaGreatZab
import Derived.Test.YtidamcdklgfogaaGreatZap
import Derived.Test.YtidamcdklgfogaaGreatZan
import Derived.Test.YtidamcdklgfogaaGreatZam
import Derived.BigQuiet
set_option linter.unusedSimpArgs false
set_option linter.unusedVariables false
set_option maxRecDepth 100000
set_option maxHeartbeats 4000000
namespace Go.Proofs.YtidamcdklgfogaaGreat
section
open Go.RowKit
theorem shold_any {E w:World} {I m:PH} {ms:List PH} {S:Nat} {s s':G.St} {f:Int} {er:Nat} (hm:s.hold f=some (s',er)) (hf:f<9223372036854775808) (hA:StAt S s m) (hS:Sat E I (m::ms) w) :
  Calls Tryz.prog 131 #[vPt S,.int .i64 f] w fun e w'=>e=.returned (nv er)∧∃ m',StAt S s' m'∧Sat E I (m'::ms) w':=by
 unfold G.St.hold at hm
 cases b1:s.is f with
 | false =>
   rw [b1] at hm
   cases hm
   obtain ⟨J,lJ,mJ,hS,back⟩:=hS.ice
   have hR:=hA.read.le mJ
   have Hback:=yH back
   have HA:=yH hA
   have HI:=yH (fun (w':World) (hle:J.le (Qa w'))=>sis_any (hR.le hle) f hf)
   rw [b1] at HI
   clear hR back hA mJ lJ
   go_enter Tryz.func131,Tryz.ntmps131
   go_wp2_with (first|(go_at_call 103;(with_reducible refine yI (HI.out _ hS.ile) ?_);rintro e w ⟨rfl,hb⟩;replace hS:=hS.below_ hb;clear hb))
   go_ret
   exact ⟨rfl,m,HA.out,Hback.out _ _ hS⟩
 | true =>
 obtain ⟨f,rfl⟩:∃ a:Nat,f=(a:Int):=⟨f.toNat,by have:0≤f:=by { unfold G.St.is at b1;simp only [Bool.and_eq_true,decide_eq_true_eq] at b1;exact b1.1 };omega⟩
 have hAA:=hA
 obtain ⟨h0,L,P,vV,vL,vT,vC,gs,mV,mL,mP,mT,mC,tms,hbd,hV,hL,hP,hT,hC,hgs,htm,htab⟩:=hAA
 have hpl:=hP.1
 have hf1:=is_lt hpl b1
 have hf2:f<4611686018427387904:=by omega
 obtain ⟨J,lJ,mJ,hS,back⟩:=hS.ice
 have Hback:=yH back
 have hR:=hA.read.le mJ
 have HI:=yH (fun (w':World) (hle:J.le (Qa w'))=>sis_any (hR.le hle) f (by omega))
 have HN:=yH (fun w':World=>Yd w' f (by omega))
 rw [b1] at hm HI
 clear hf
 simp only [Bool.not_true,Bool.false_eq_true,if_false,Int.toNat_natCast] at hm
 have mPm:mP.le m:=by rw [hbd.1];exact PH.all_mem hbd.2 (by simp)
 have hpat:=fun (w':World) (hle:J.le (Qa w'))=>pat_nat (hP.read.le (fun b o hb=>hle b o (mJ b o (mPm b o hb)))) (f / 2)
 have iS1:J.at S 1=some (vPt P):=PH.at_le (fun b o hb=>mJ b o (PH.all_mem hbd.2 (.head _) b o hb |> fun h=>by rw [hbd.1];exact h)) (Qk rfl)
 cases hn:s.nd (f / 2) with
 | none =>
   rw [hn] at hm
   cases hm
   rw [show s.pl.nd (f / 2)=none from hn] at hpat
   have HPat:=yH hpat
   have HAA:=yH hA
   have HV5:=yH (Ze (f / 2) none).1
   have HV1:=yH (Ze (f / 2) none).2
   clear hpat hn hR back hA mJ lJ h0 hbd hV hL hP hT hC hgs htm htab hpl mPm
   go_enter Tryz.func131,Tryz.ntmps131
   go_wp2_with (first|(go_at_call 103;(with_reducible refine yI (HI.out _ hS.ile) ?_);rintro e w ⟨rfl,hb⟩;replace hS:=hS.below_ hb;clear hb))
   have hS:Sat E J ([] ++ ms) w:=hS
   have HPA:=yH (fun (w':World) (hle:J.le (Qa w'))=>HPat.out w' hle)
   have HA:=HPA
   clear HPat
   refine Zw [[],[0],[0,1],[0,1,2],[],[4],[0,1,2,3,4,5],[0,1,2,3,4,5,6],[0,1,2,3,4,5,6,7],[0,1,2,3,4,5,6,7],[],[0,1,2,3,4,5,6,7,8,10],[0,1,2,3,4,5,6,7,8,9,10,11]] _ _ [] _ [⟨10,11,194,#[.int .i64 0,.int .i64 0,.int .i64 0,.int .i64 0,.int .i64 0],fun cs _=>cs=(ndW (f / 2) none).cells⟩] [fun v _=>v=vPt S,fun v _=>v=vPt S,fun v _=>v=.pointer (some ⟨S,1,none⟩),fun v _=>v=vPt P,fun v _=>v=nv (f),fun v _=>v=nv ((f) / 2),fun v _=>v=.tuple #[ndW (f / 2) none,.bool (false)],fun v _=>v=.tuple #[ndW (f / 2) none,.bool (false)],fun v _=>v=ndW (f / 2) none,fun v _=>v=.bool (false),fun _ _=>True,fun _ _=>True,fun v _=>v=.bool (false)]
    (by kernel_rfl) (by kernel_rfl) (by simp) hS ?_ ?monoC ?okb ?dal ?fill ?plain ?fin
   · repeat (first|exact Lasting.nil|refine Lasting.cons (fun _ _ _ _ h=>h) ?_)
   case monoC =>
    intro b' hb' cs J K hJK
    simp only [List.mem_cons,List.not_mem_nil,or_false] at hb'
    subst hb'
    exact fun h=>h
   case okb =>
    intro b' hb'
    simp only [List.mem_cons,List.not_mem_nil,or_false] at hb'
    subst hb'
    exact ⟨by simp,⟨rfl,rfl,rfl⟩,⟨_,Xm Zp,rfl⟩,⟨rfl,rfl,_,rfl⟩,by simp,Xn Qt⟩
   case dal =>
    intro b' hb' v' J
    simp only [List.mem_cons,List.not_mem_nil,or_false] at hb'
    subst hb'
    exact ⟨trivial,trivial⟩
   case fill =>
    intro b' hb' vals J hJ hg
    simp only [List.mem_cons,List.not_mem_nil,or_false] at hb'
    subst hb'
    simp only [zH,zI,Given,Facts] at hg
    refine ⟨ndW (f / 2) none,by simp only [Zt,Qd,Qh,Qe,Qj,zH,zI,zA,zB,zK,if_true,Act.put,zE,zF,zG,Act.eval,zD,zC,zJ,hg],HV5.out,HV1.out,rfl⟩
   case plain =>
    repeat' (first|exact trivial|apply And.intro)
    all_goals first
     | (refine .inl (by rfl))
     | ((refine .inr ?_;intro vals J bs w hg hJ hS;simp only [zH,zI,Given,Facts] at hg;simp only [Qd,Qh,Qe,Qj,zH,zI,zA,zB,zK,if_true,Act.put,zE,zF,zG,hg];refine ⟨?_⟩;refine Qg (fun K hK=>?_);have HK:=yH hK;clear hK;rw [if_pos (by rfl)];(first|((with_reducible refine Qs ?_);first|((refine' Qq (v:=_) hS hJ ?ha rfl ?hc ?_);(case ha=>first|exact Kg);(case hc=>assumption)))|(go_wp2_with (first|(go_at_call 49;(with_reducible refine yI (HN.out _) ?_);rintro e w2 ⟨rfl,rfl⟩)|(go_at_call 128;((with_reducible refine yI (HA.out _ (PH.le.trans hJ hS.ile)) ?_);rintro e w2 ⟨rfl,hb2⟩;have hS2:=hS.below_ hb2;clear hS hb2;have hS:=hS2;clear hS2)))));( refine HK.out _ _ ⟨rfl,J,PH.le.refl _,hS,?_⟩ );clear HK;simp only [Facts,Qo,zH,zI,Act.put,zE,zF,zG,zD,zC,zA,zB,zJ]);done)
   case fin =>
    intro vals J9 bs w1 hJ9 hg hS hB
    cases hB with
    | cons h1 hB =>
    cases hB
    simp only [Bx.st,if_true] at h1
    obtain ⟨Y,cY,eY,rfl,zY,rfl⟩:=h1
    have e10:vals 10=vPt Y:=eY
    clear HPA HV5 HV1
    have hS:=hS.less hJ9
    simp only [List.nil_append,List.cons_append] at hS
    simp only [yB,yC,Nat.reduceAdd,Below_,Facts,zH,zI,true_and,and_true] at hg;simp only [yB,yC,Nat.reduceAdd,Qd,Qh,Qe,zA,zB,zK,if_true,Act.put,zE,zF,zG,hg];refine ⟨?_⟩
    clear hg
    go_wp2_with fail
    go_ret
    exact ⟨rfl,m,HAA.out,(Hback.out _ _ hS).perm (List.Perm.swap _ _ _) |>.drop⟩
 | some n =>
   rw [hn] at hm
   simp only [] at hm
   rw [show s.pl.nd (f / 2)=some n from hn] at hpat
   have HPat:=yH hpat
   have HAA:=yH hA
   have HV5:=yH (Ze (f / 2) (some n)).1
   have HV1:=yH (Ze (f / 2) (some n)).2
   have hnf:=hpl.nd (f / 2) n (G.Pl.nd_some.1 hn).2
   have hnr:=hnf.2.2.2
   have HP:=yH hP
   have Hbd:=yH hbd
   have Hnd:=yH (show s.pl.nd (f / 2)=some n from hn)
   have hclose:∀ (p':G.Pl) (mP':PH) (ns:List PH) (w':World),PoolAt P p' mP'→Sat E I (PH.one S (.cells #[vPt L,vPt P,vT,vC,nv s.dead] 164)::PH.one L (.cells #[vV,vL] 166)::mV::mL::mP'::mT::mC::(tms ++ ns)) w'→∃ m',StAt S { s with pl:=p' } m'∧Sat E I (m'::ns) w' :=
    fun p' mP' ns w' hp' hS'=>StAt.close (s:={ s with pl:=p' }) ⟨h0.vars,h0.lev,h0.tabs,h0.cnt,h0.cntb,h0.dead,h0.levb,h0.varb⟩ hV hL hp' hT hC hgs htm htab hS'
   have Hclose:=yH hclose
   clear hpat hclose back hA mJ lJ h0 hbd hV hL hP hT hC hgs htm htab mPm
   by_cases hz:n.refs<G.big
   case neg=>rw [if_neg hz] at hm;cases hm
   rw [if_pos hz] at hm
   have hz:n.refs<4611686018427387904:=hz
   have Hfit:=yH (show Fits { n with refs:=n.refs+1 } from ⟨hnf.1,hnf.2.1,hnf.2.2.1,show n.refs+1<_ by omega⟩)
   cases hmo:G.St.more G.fuel { s with pl:=s.pl.put (f / 2) { n with refs:=n.refs+1 } } f with
   | none=>rw [hmo] at hm;cases hm
   | some s1 =>
   rw [hmo] at hm
   cases hm
   have HMo:=yH hmo
   clear hmo hn hnf hpl hR
   go_enter Tryz.func131,Tryz.ntmps131
   go_wp2_with (first|(go_at_call 103;(with_reducible refine yI (HI.out _ hS.ile) ?_);rintro e w ⟨rfl,hb⟩;replace hS:=hS.below_ hb;clear hb))
   have hS:Sat E J ([] ++ ms) w:=hS
   have HPA:=yH (fun (w':World) (hle:J.le (Qa w'))=>HPat.out w' hle)
   have HA:=HPA
   clear HPat
   refine Zw [[],[0],[0,1],[0,1,2],[],[4],[0,1,2,3,4,5],[0,1,2,3,4,5,6],[0,1,2,3,4,5,6,7],[0,1,2,3,4,5,6,7],[],[0,1,2,3,4,5,6,7,8,10],[0,1,2,3,4,5,6,7,8,9,10,11]] _ _ [] _ [⟨10,11,194,#[.int .i64 0,.int .i64 0,.int .i64 0,.int .i64 0,.int .i64 0],fun cs _=>cs=(ndW (f / 2) (some n)).cells⟩] [fun v _=>v=vPt S,fun v _=>v=vPt S,fun v _=>v=.pointer (some ⟨S,1,none⟩),fun v _=>v=vPt P,fun v _=>v=nv (f),fun v _=>v=nv ((f) / 2),fun v _=>v=.tuple #[ndW (f / 2) (some n),.bool (true)],fun v _=>v=.tuple #[ndW (f / 2) (some n),.bool (true)],fun v _=>v=ndW (f / 2) (some n),fun v _=>v=.bool (true),fun _ _=>True,fun _ _=>True,fun v _=>v=.bool (true)]
    (by kernel_rfl) (by kernel_rfl) (by simp) hS ?_ ?monoC ?okb ?dal ?fill ?plain ?fin
   · repeat (first|exact Lasting.nil|refine Lasting.cons (fun _ _ _ _ h=>h) ?_)
   case monoC =>
    intro b' hb' cs J K hJK
    simp only [List.mem_cons,List.not_mem_nil,or_false] at hb'
    subst hb'
    exact fun h=>h
   case okb =>
    intro b' hb'
    simp only [List.mem_cons,List.not_mem_nil,or_false] at hb'
    subst hb'
    exact ⟨by simp,⟨rfl,rfl,rfl⟩,⟨_,Xm Zp,rfl⟩,⟨rfl,rfl,_,rfl⟩,by simp,Xn Qt⟩
   case dal =>
    intro b' hb' v' J
    simp only [List.mem_cons,List.not_mem_nil,or_false] at hb'
    subst hb'
    exact ⟨trivial,trivial⟩
   case fill =>
    intro b' hb' vals J hJ hg
    simp only [List.mem_cons,List.not_mem_nil,or_false] at hb'
    subst hb'
    simp only [zH,zI,Given,Facts] at hg
    refine ⟨ndW (f / 2) (some n),by simp only [Zt,Qd,Qh,Qe,Qj,zH,zI,zA,zB,zK,if_true,Act.put,zE,zF,zG,Act.eval,zD,zC,zJ,hg],HV5.out,HV1.out,rfl⟩
   case plain =>
    repeat' (first|exact trivial|apply And.intro)
    all_goals first
     | (refine .inl (by rfl))
     | ((refine .inr ?_;intro vals J bs w hg hJ hS;simp only [zH,zI,Given,Facts] at hg;simp only [Qd,Qh,Qe,Qj,zH,zI,zA,zB,zK,if_true,Act.put,zE,zF,zG,hg];refine ⟨?_⟩;refine Qg (fun K hK=>?_);have HK:=yH hK;clear hK;rw [if_pos (by rfl)];(first|((with_reducible refine Qs ?_);first|((refine' Qq (v:=_) hS hJ ?ha rfl ?hc ?_);(case ha=>first|exact Kg);(case hc=>assumption)))|(go_wp2_with (first|(go_at_call 49;(with_reducible refine yI (HN.out _) ?_);rintro e w2 ⟨rfl,rfl⟩)|(go_at_call 128;((with_reducible refine yI (HA.out _ (PH.le.trans hJ hS.ile)) ?_);rintro e w2 ⟨rfl,hb2⟩;have hS2:=hS.below_ hb2;clear hS hb2;have hS:=hS2;clear hS2)))));( refine HK.out _ _ ⟨rfl,J,PH.le.refl _,hS,?_⟩ );clear HK;simp only [Facts,Qo,zH,zI,Act.put,zE,zF,zG,zD,zC,zA,zB,zJ]);done)
   case fin =>
    intro vals J9 bs w1 hJ9 hg hS hB
    cases hB with
    | cons h1 hB =>
    cases hB
    simp only [Bx.st,if_true] at h1
    obtain ⟨Y,cY,eY,rfl,zY,rfl⟩:=h1
    have e10:vals 10=vPt Y:=eY
    clear HPA HV5 HV1
    have hS:=hS.less hJ9
    simp only [List.nil_append,List.cons_append] at hS
    have hS:Sat E J (PH.one Y (.cells #[nv (f / 2),nv n.v,nv n.lo,nv n.hi,nv n.refs] 194)::ms) w1:=hS
    simp only [yB,yC,Nat.reduceAdd,Below_,Facts,zH,zI,true_and,and_true] at hg;simp only [yB,yC,Nat.reduceAdd,Qd,Qh,Qe,zA,zB,zK,if_true,Act.put,zE,zF,zG,hg];refine ⟨?_⟩
    clear hg
    simp only [e10]
    go_wp2_with (first|((with_reducible refine Qc ?_);first|((with_reducible refine Qb ?_);( (refine ld1 0 hS rfl rfl ?ha rfl rfl rfl ?_;(case ha=>exact Qf)) );(try simp only [Act.put,zE,zF,zG]))|((with_reducible refine Qn ?_);( (refine st1 0 hS rfl rfl rfl rfl rfl ?ha rfl rfl ?hb ?_;(case ha=>exact Kk);(case hb=>(simp;done))) );clear hS;intro w hS;(try simp only [zF,zG,zE,Act.eval,zD,zC,zA,zB,zJ] at hS);(try simp only [Act.put])) ))
    have hDv:(.int .i64 ((n.refs:Int)+1):Value)=nv (n.refs+1):=by simp only [nv];  (congr 1 <;> omega)
    rw [hDv] at hS
    have hS:=Hback.out _ _ hS
    have hS:=Sat.unpack Hbd.out hS
    simp only [List.cons_append] at hS
    obtain ⟨I1,l01,lS,hS1,bS⟩:=hS.ice
    have hS1:=hS1.perm (List.perm_middle (l₁:=PH.one L (.cells #[vV,vL] 166)::mV::mL::mP::mT::mC::tms) (l₂:=ms))
    obtain ⟨I2,l12,lY,hS2,bY⟩:=hS1.ice
    have iS1:I2.at S 1=some (vPt P):=PH.at_le l12 (PH.at_le lS (Qk rfl))
    have iY:Cells I2 Y 0 [nv (f / 2),nv n.v,nv n.lo,nv n.hi,nv (n.refs+1)]:=(Cells.one Y #[nv (f / 2),nv n.v,nv n.lo,nv n.hi,nv (n.refs+1)] 194 (0,0)).le lY
    have HbS:=yH bS
    have HbY:=yH bY
    clear hS hS1 bS bY lS lY l12 l01
    refine Qx [[],[0],[0,1],[0,1,2],[],[0,1,2,3,4]] E I2 _
     [fun v _=>v=vPt S,fun v _=>v=vPt S,fun v _=>v=.pointer (some ⟨S,1,none⟩),fun v _=>v=vPt P,fun v _=>v=ndA (f / 2) { n with refs:=n.refs+1 },fun _ _=>True] [5]
     (set1G _ 3 (fun m'=>PoolAt P (s.pl.put (f / 2) { n with refs:=n.refs+1 }) m')) (by kernel_rfl) (by kernel_rfl) (by decide) hS2 rfl ?last (fun _ _ _ _ _ _ h=>h) (fun _ _ _ _ _ _ h=>h) ?plain ?step ?fin
    case last=>repeat (first|exact Lasting.nil|refine Lasting.cons (fun _ _ _ _ h=>h) ?_)
    case plain=>(repeat' (first|exact trivial|apply And.intro)) <;> first|exact .inl rfl|(refine .inr ?_;intro s vals J bs w hstop hg hJ hS hG;clear hG;simp only [zH,zI,Given,Facts] at hg;simp only [Qd,Qh,Qe,Qj,zH,zI,zA,zB,zK,if_true,Act.put,zE,zF,zG,hg];refine ⟨?_⟩;refine Qg (fun K hK=>?_);have HK:=yH hK;clear hK;rw [if_pos (by rfl)];(first|((with_reducible refine Qs ?_);first|((refine' Qq (v:=_) hS hJ ?ha rfl ?hc ?_);(case ha =>  exact Kg );(case hc=>assumption))|((refine' wp_ldiN (vs:=_) hS hJ ?ha rfl ?hc ?hb ?_);(case ha=>first|exact Zg);(case hc=>assumption);(case hb=>first|exact Qt)))|(go_wp2_with (fail)));refine HK.out _ _ ⟨rfl,J,PH.le.refl _,hS,?_⟩;clear HK;simp only [Facts];simp only [Qo,zH,zI,Act.put,zE,zF,zG,zD,zC,zA,zB,zJ])
    case step =>
     refine ⟨trivial,?_⟩
     intro vals J bs w hg hJ hS hG
     have hG:bs=_:=hG
     subst hG
     simp only [zH,zI,Given,Facts] at hg;simp only [Qd,Qh,Qe,Qj,zH,zI,zA,zB,zK,if_true,Act.put,zE,zF,zG,hg];refine ⟨?_⟩;refine Qg (fun K hK=>?_);have HK:=yH hK;clear hK;rw [if_pos (by rfl)]
     go_wp2_with (go_at_call 137;(with_reducible refine yI (pset_any _ _ _ _ _ P s.pl (f / 2) { n with refs:=n.refs+1 } n Hnd.out Hfit.out HP.out (hS.pick 3 rfl)) ?_);clear hS;rintro e w ⟨rfl,mP',hP',hS⟩)
     exact HK.out _ _ ⟨rfl,J,_,PH.le.refl _,hS.back 3 rfl,trivial,mP',hP',rfl⟩
    case fin =>
     intro vals J bs w hJ hg hS hG
     obtain ⟨mP',hP',hns⟩:=hG
     subst hns
     have hS:=hS.less hJ
     have hS:=HbY.out _ _ hS
     simp only [List.cons_append,zF,zG] at hS
     have hS:=HbS.out _ _ (hS.perm (List.perm_middle (l₁:=PH.one L (.cells #[vV,vL] 166)::mV::mL::mP'::mT::mC::tms) (l₂:=ms)).symm)
     obtain ⟨m1,hA1,hS1⟩:=Hclose.out _ mP' _ _ hP' hS
     have HA1:=yH hA1
     simp only [yB,yC,Nat.reduceAdd,Below_,Facts,zH,zI,true_and,and_true] at hg;simp only [yB,yC,Nat.reduceAdd,Qd,Qh,Qe,zA,zB,zK,if_true,Act.put,zE,zF,zG,hg];refine ⟨?_⟩
     clear hg hS hA1 hP' hJ
     go_wp2_with fail
     refine (smore_any _ _ _ f m1 _ _ HMo.out hf2 HA1.out hS1).mono ?_
     clear hS1
     rintro e w ⟨rfl,m3,hA3,hS⟩
     have HA3:=yH hA3
     clear hA3
     go_wp2_with fail
     go_ret
     exact ⟨rfl,m3,HA3.out,(hS.perm (List.Perm.swap _ _ _)).drop⟩
end
section
open Go.RowKit
theorem HsR.push {l:List (Rw Int)} {hs:List (Int × Nat)} (h:HsR l hs) (k:Int) (f c:Nat):HsR (l ++ [⟨k,nv f,c⟩]) (hs ++ [(k,f)]):=by
 unfold HsR at h ⊢
 rw [List.map_append,List.map_append,h];rfl
theorem give_any {E w:World} {I p:PH} {ms:List PH} {D f h:Nat} {m m':G.Mg} (hg:m.give f=some (m',h)) (hf:f<9223372036854775808) (hnew:m.of (m.next:Int)=none) (hA:MgAt D m p) (hS:Sat E I (p::ms) w) :
  Calls Tryz.prog 104 #[vPt D,nv f] w fun e w'=>e=.returned (nv h)∧∃ p',MgAt D m' p'∧Sat E I (p'::ms) w':=by
 have hfit:=hA.fit
 obtain ⟨S,M,H,wv,mS,mM,mH,mW,h1,h2,⟨l,clock,rfl,hok,hr⟩,h4,hS⟩:=hA.open_ hS
 unfold G.Mg.give at hg
 by_cases hb:G.big≤m.next
 · rw [if_pos hb] at hg;cases hg
 rw [if_neg hb] at hg
 cases hh:m.s.hold f with
 | none=>rw [hh] at hg;cases hg
 | some q =>
   obtain ⟨s',er⟩:=q
   rw [hh] at hg
   simp only [Option.map_some,Option.some.injEq,Prod.mk.injEq] at hg
   obtain ⟨rfl,rfl⟩:=hg
   have hq:=hr.get (m.next:Int)
   have ho:m.of (m.next:Int)=(m.hs.find? fun p=>p.1 == (m.next:Int)).map (·.2):=rfl
   rw [← ho,hnew] at hq
   have hbig:G.big=4611686018427387904:=rfl
   have hn:(m.next:Int)<4611686018427387904:=by omega
   have hn0:(0:Int)≤(m.next:Int):=by omega
   have fin:∀ (mS':PH) (w':World),StAt S s' mS'→Sat E I (PH.one D (.cells (Yn S M H ((m.next:Int)+1) wv m.calls) 117)::mS'::mM::PH.one H (Qu ikey (l ++ [⟨(m.next:Int),nv f,clock⟩]) (clock+1))::mW::ms) w' →
     ∃ p',MgAt D { m with s:=s',hs:=m.hs ++ [((m.next:Int),f)],next:=m.next+1 } p'∧Sat E I (p'::ms) w':=fun mS' w' a b =>
    MgAt.close (m:={ m with s:=s',hs:=m.hs ++ [((m.next:Int),f)],next:=m.next+1 }) ⟨by show m.next+1≤G.big;omega,hfit.2⟩ a h2 ⟨_,_,rfl,hok.push hq _,hr.push _ _ _⟩ h4 (by rw [show (((m.next+1:Nat):Int))=(m.next:Int)+1 by omega];exact b)
   have HF:=yH fin
   clear hfit
   have HH:=yH hh
   have HSt:=yH h1
   have Hq:=yH hq
   have Hok:=yH hok
   clear fin hh h1 hq hok ho hnew h2 h4 hr hA hbig hb
   unfold Yn at hS
   simp only [Yn] at HF
   generalize m.calls=cl at *
   generalize hnx:(m.next:Int)=nx at *
   go_enter Tryz.func104,Tryz.ntmps104
   go_wp2_with (first|(go_at_call 131;(with_reducible refine yI (shold_any HH.out (by omega) HSt.out (hS.pick 1 rfl)) ?_);clear hS;rintro e w ⟨rfl,mS',hSt',hS⟩;have HSt':=yH hSt';clear hSt';replace hS:=Sat.back (m:=mS) 1 rfl hS;simp only [zF,zG] at hS)|((with_reducible refine isUpdate ?_);refine muNew hS 3 rfl kI Tryz.underlying115 rfl rfl rfl rfl rfl Hok.out Hq.out ?_;clear hS;intro w hS;(try simp only [zF,zG,Act.eval,zD,zC,zA,zB,zJ] at hS);(try simp only [Act.put]))|((with_reducible refine Qc ?_);first|((with_reducible refine Qb ?_);( (refine ld1 0 hS rfl rfl ?ha rfl rfl rfl ?_;(case ha=>first|exact Qf|exact Qr|exact Yg)) );(try simp only [Act.put,zE,zF,zG]))|((with_reducible refine Qn ?_);( (refine st1 0 hS rfl rfl rfl rfl rfl ?ha rfl rfl ?hb ?_;(case ha=>exact Kk);(case hb=>(simp;done))) );clear hS;intro w hS;(try simp only [zF,zG,zE,Act.eval,zD,zC,zA,zB,zJ] at hS);(try simp only [Act.put]))))
   go_ret
   subst hnx
   exact ⟨rfl,HF.out _ _ HSt'.out hS⟩
end
section
open Go.RowKit
theorem ty_agg207:Kz Tryz.prog 207=some true:=by kernel_rfl
theorem Yo:Ko Tryz.prog 207=some 4:=by kernel_rfl
theorem ty_z207:Xb Tryz.prog 207=some (.agg #[.int .i64 0,.int .i64 0,.int .i64 0,.int .i64 0]):=by kernel_rfl
theorem ty_sz211:Ko Tryz.prog 211=some 6:=by kernel_rfl
theorem Yu:Kz Tryz.prog 182=some false:=by kernel_rfl
theorem ty_sz182:Ko Tryz.prog 182=some 1:=by kernel_rfl
theorem ty_agg205:Kz Tryz.prog 205=some true:=by kernel_rfl
theorem ty_sz205:Ko Tryz.prog 205=some 3:=by kernel_rfl
abbrev keyV (op a b d:Nat):Value:=.agg #[nv op,nv a,nv b,nv d]
def hshG (f:Nat→Nat→Nat) (op a b d:Nat):Nat→Nat
 | 0=>op
 | 1=>f op a
 | 2=>f (f op a) b
 | _=>f (f (f op a) b) d
theorem hsh0 (f:Nat→Nat→Nat) (op a b d:Nat):hshG f op a b d 0=op:=rfl
theorem hsh1 (f:Nat→Nat→Nat) (op a b d:Nat):hshG f op a b d 1=f op a:=rfl
theorem hsh2 (f:Nat→Nat→Nat) (op a b d:Nat):hshG f op a b d 2=f (f op a) b:=rfl
theorem hsh3 (f:Nat→Nat→Nat) (op a b d:Nat):hshG f op a b d 3=f (f (f op a) b) d:=rfl
theorem p64:(2:Nat) ^ 64=18446744073709551616:=by decide
theorem mixH_lt (n e:Nat):G.mixH n e<18446744073709551616:=by
 unfold G.mixH
 rw [← p64]
 generalize hk:(n ^^^ e) * 11400714819323198485 % 2 ^ 64=k
 have h1:k<2 ^ 64:=by rw [← hk];exact Nat.mod_lt _ (Nat.two_pow_pos 64)
 exact Nat.xor_lt_two_pow h1 (Nat.lt_of_le_of_lt (Nat.div_le_self _ _) h1)
theorem ldPN {P:Program} {o:Oper} {a:Act} {w:World} {Q:Exit→Act→World→Prop} {ops:Array Oper} {rest:List Oper} {p:PH} (hp:p.le (Qa w)) (hg:o.guard=none) {T:TypeId} {x:Operand} (ho:o.op=.load T x) (hT:Kz P T=some true) {X off:Nat} {vs:List Value} (hx:a.eval x=.pointer (some ⟨X,off,none⟩)) (hc:Cells p X off vs) (hs:Ko P T=some vs.length) (h:wpList P ops Q rest (a.put o.dst (.agg vs.toArray)) w):wpList P ops Q (o::rest) a w :=
 wpList_plain hg fun _ hK=>wp_ldN hp ho hT hx hc hs (hK _ _ h)
theorem key_mid (X:Nat) (op a b d:Value) (T:TypeId):Cells (PH.one X (.cells #[op,a,b,d] T (0,0))) X 1 [a,b,d]:=by
 have:=(Cells.one X #[op,a,b,d] T (0,0)).part 1 3
 exact this
theorem xor64 {a b:Nat} (ha:a<18446744073709551616) (hb:b<18446744073709551616):bits .xor .u64 (a:Int) (b:Int)=((a ^^^ b:Nat):Int):=by
 have ha':a % 2 ^ 64=a:=Nat.mod_eq_of_lt (by rw [p64];exact ha)
 have hb':b % 2 ^ 64=b:=Nat.mod_eq_of_lt (by rw [p64];exact hb)
 have hx:a ^^^ b<2 ^ 64:=Nat.xor_lt_two_pow (by rw [p64];exact ha) (by rw [p64];exact hb)
 rw [p64] at hx
 have e:IntKind.u64.bits=64:=rfl
 simp only [bits,BitVec.ofInt_natCast,BitVec.toNat_xor,BitVec.toNat_ofNat,e,ha',hb']
 rw [IntKind.wrap_u64];omega
theorem mixI {n e:Nat} (hn:n<18446744073709551616) (he:e<18446744073709551616):bits .xor .u64 (IntKind.u64.wrap (bits .xor .u64 (n:Int) (e:Int) * 11400714819323198485)) (IntKind.u64.wrap (bits .xor .u64 (n:Int) (e:Int) * 11400714819323198485) / 536870912)=((G.mixH n e:Nat):Int):=by
 rw [xor64 hn he]
 have h1:IntKind.u64.wrap (((n ^^^ e:Nat):Int) * 11400714819323198485)=(((n ^^^ e) * 11400714819323198485 % 18446744073709551616:Nat):Int):=by
  rw [IntKind.wrap_u64];omega
 rw [h1]
 have h2:((n ^^^ e) * 11400714819323198485 % 18446744073709551616)<18446744073709551616:=Nat.mod_lt _ (by omega)
 have h3:G.mixH n e=((n ^^^ e) * 11400714819323198485 % 18446744073709551616) ^^^ (((n ^^^ e) * 11400714819323198485 % 18446744073709551616) / 536870912):=by unfold G.mixH;rfl
 rw [h3]
 generalize (n ^^^ e) * 11400714819323198485 % 18446744073709551616=k at *
 have h4:((k:Int) / 536870912)=((k / 536870912:Nat):Int):=by omega
 rw [h4,xor64 h2 (by omega)]
theorem isIndexR {P:Program} {a:Act} {w:World} {Q:Exit→Act→World→Prop} {ops:Array Oper} {rest:List Oper} {dst:Option Tmp} {type:TypeId} {pos:String} {after:Array Edge} {T:TypeId} {x y:Operand} (h:wpList P ops Q (⟨dst,.index T x y,type,pos,after,none⟩::rest) a w):wpList P ops Q (⟨dst,.index T x y,type,pos,after,none⟩::rest) a w:=h
theorem ixR {P:Program} {a:Act} {w:World} {Q:Exit→Act→World→Prop} {ops:Array Oper} {rest:List Oper} {o:Oper} (hg:o.guard=none) {T:TypeId} {x y:Operand} (ho:o.op=.index T x y) {v u r:Value} (hx:a.eval x=v) (hy:a.eval y=u) (hr:(Instr.index T v u).run P w=.ok r w) (h:wpList P ops Q rest (a.put o.dst r) w):wpList P ops Q (o::rest) a w :=
 wpList_plain hg fun _ hK=>by
  unfold Oper.wp execOp
  simp only [ho,hx,hy,Sem.run_bind,hr,Result.andThen_ok,Sem.run_pure]
  exact hK _ _ h
theorem ix0 (x y z:Int) (w:World):(Instr.index 205 (.agg #[.int .i64 x,.int .i64 y,.int .i64 z]) (.int .i64 0)).run Tryz.prog w=.ok (.int .i64 x) w:=by kernel_rfl
theorem ix1 (x y z:Int) (w:World):(Instr.index 205 (.agg #[.int .i64 x,.int .i64 y,.int .i64 z]) (.int .i64 1)).run Tryz.prog w=.ok (.int .i64 y) w:=by kernel_rfl
theorem ix2 (x y z:Int) (w:World):(Instr.index 205 (.agg #[.int .i64 x,.int .i64 y,.int .i64 z]) (.int .i64 2)).run Tryz.prog w=.ok (.int .i64 z) w:=by kernel_rfl
theorem place_any {W:World} {X A c:Nat} (hX:(Qa W).at X 1=some (.slice (some ⟨A,0,none⟩) 4096 c)) (op a b d:Nat) (h0:op<4611686018427387904) (h1:a<4611686018427387904) (h2:b<4611686018427387904) (h3:d<4611686018427387904) :
  Calls Tryz.prog 136 #[vPt X,keyV op a b d] W fun e w'=>e=.returned (.pointer (some ⟨A,G.placeH op a b d * 6,none⟩))∧Below W.heap.size W w':=by
 have hS:=Sat.start W
 go_enter Tryz.func136,Tryz.ntmps136
 go_wp2_with (first|((with_reducible refine Qb ?_);refine ldPN (hS.mle (k:=0) rfl) rfl rfl ty_agg205 rfl (key_mid _ _ _ _ _ _) ty_sz205 ?_;(try simp only [Act.put,zE,zF,zG]))|((with_reducible refine Qc ?_);first|((with_reducible refine Za 3 ?_);refine bx hS rfl rfl rfl ?_;clear hS;intro X3 w hS;(try simp only [Act.eval,zD,zC,zA,zB,zJ,Value.cells] at hS);(try simp only [Act.put,zE,zF,zG]))|((with_reducible refine Qb ?_);( (refine ld1 0 hS rfl rfl ?ha rfl rfl rfl ?_;(case ha=>exact Qf)) );(try simp only [Act.put,zE,zF,zG])) ))
 go_loopw [5,13] (fun v5 v13 wr=>∃ i:Nat,i≤3∧v13=.int .i64 (i:Int)∧v5=.int .u64 ((hshG G.mixH op a b d i:Nat):Int)∧Sat W (Qa W) [PH.one X3 (.cells #[nv op,nv a,nv b,nv d] 207)] wr) (fun _ v13 _=>(3 - intOf v13).toNat)
 case atStart=>exact ⟨0,Nat.zero_le _,rfl,by rw [hsh0],hS⟩
 case round =>
  clear hS
  obtain ⟨i,hi,rfl,rfl,hS⟩:=hrel
  by_cases hlt:i<3
  · have hiN:(i:Int)<3:=by omega
    rcases (by omega:i=0∨i=1∨i=2) with rfl|rfl|rfl
    · rw [hsh0] at *
      go_wp2_with (first|((with_reducible refine isIndexR ?_);(refine ixR rfl rfl rfl rfl (ix0 _ _ _ _) ?_);(try simp only [Act.put,zE,zF,zG])))
      exact ⟨⟨1,by omega,rfl,by rw [hsh1,mixI (by omega) (by omega)],hS⟩,by simp [intOf]⟩
    · rw [hsh1] at *
      have hm:=mixH_lt op a
      have he1:=hsh2 G.mixH op a b d
      generalize G.mixH op a=y at *
      go_wp2_with (first|((with_reducible refine isIndexR ?_);(refine ixR rfl rfl rfl rfl (ix1 _ _ _ _) ?_);(try simp only [Act.put,zE,zF,zG])))
      exact ⟨⟨2,by omega,rfl,by rw [he1,mixI hm (by omega)],hS⟩,by simp [intOf]⟩
    · rw [hsh2] at *
      have hm:=mixH_lt (G.mixH op a) b
      have he1:=hsh3 G.mixH op a b d
      generalize G.mixH (G.mixH op a) b=y at *
      go_wp2_with (first|((with_reducible refine isIndexR ?_);(refine ixR rfl rfl rfl rfl (ix2 _ _ _ _) ?_);(try simp only [Act.put,zE,zF,zG])))
      exact ⟨⟨3,by omega,rfl,by rw [he1,mixI hm (by omega)],hS⟩,by simp [intOf]⟩
  · have hiN:i=3:=by omega
    subst hiN
    have hle:G.placeH op a b d<4096:=by unfold G.placeH;exact Nat.mod_lt _ (by omega)
    have hpl:G.placeH op a b d=hshG G.mixH op a b d 3 % 4096:=by rw [hsh3];unfold G.placeH;rfl
    have HP:=yH hpl
    rw [hpl] at hle
    generalize hshG G.mixH op a b d 3=hh at *
    have x1:wr.cell? ⟨X,1,none⟩=some (.slice (some ⟨A,0,none⟩) 4096 c):=Kb hS.ile hX
    have e4:IntKind.u64.wrap 4096=4096:=rfl
    clear hpl hi hlt
    go_wp2_with fail
    go_quiet (fail)
    go_wp2_with fail
    go_ret
    refine ⟨?_,(hS.drewN nq).end_ (PH.le.refl _)⟩
    rw [HP.out]
    rfl
end
end Go.Proofs.YtidamcdklgfogaaGreat
