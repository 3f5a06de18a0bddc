import Derived.Test.YtidamcdklgfogaaGreatZab
import Derived.Test.YtidamcdklgfogaaGreatZao
set_option linter.unusedSimpArgs false
set_option linter.unusedVariables false
set_option maxRecDepth 100000
set_option maxHeartbeats 4000000
namespace Go.Proofs.YtidamcdklgfogaaGreat
section
open Go.RowKit
theorem int_one (n:Int):∀ u ∈ (Value.cells (.int .i64 n)).toList,u.oneCell'=true:=by simp [Value.cells,Value.oneCell']
theorem smore_any {E:World} {I:PH} {S:Nat}:∀ (k:Nat) (s s':G.St) (f:Nat) (m:PH) (ms:List PH) (w:World),G.St.more k s f=some s'→f<4611686018427387904→StAt S s m→Sat E I (m::ms) w →
  Calls Tryz.prog 147 #[vPt S,nv f] w fun e w'=>e=.returned (.tuple #[])∧∃ m',StAt S s' m'∧Sat E I (m'::ms) w'
 | 0,s,s',f,m,ms,w,hm,_,_,_=>by unfold G.St.more at hm;cases hm
 | k+1,s,s',f,m,ms,w,hm,hf,hA,hS=>by
   have HN:=yH (fun w':World=>Yd w' f (by omega))
   unfold G.St.more at hm
   by_cases h0:f / 2=0
   · rw [if_pos h0] at hm
     cases hm
     rw [h0] at HN
     go_enter Tryz.func147,Tryz.ntmps147
     go_wp2_with (first|(go_at_call 49;(with_reducible refine yI (HN.out _) ?_);rintro e w ⟨rfl,rfl⟩))
     ( ((try simp only [Exit.inBlock,Exit.then]);refine bodyPost_ret (results_none rfl _ _ _) rfl ?_))
     exact ⟨rfl,m,hA,hS⟩
   rw [if_neg h0] at hm
   generalize hid:f / 2=id at *
   have h0i:¬ (id:Int)=0:=by omega
   cases hc:s.cnt[id]? with
   | none=>rw [hc] at hm;cases hm
   | some c =>
   rw [hc] at hm
   simp only [] at hm
   obtain ⟨hf0,L,P,vV,vL,vT,vC,gs,mV,mL,mP,mT,mC,tms,hbd,hV,hL,hP,hT,hC,hgs,htm,htab⟩:=hA
   have hil:id<s.cnt.length:=(yE.1 hc).1
   have hcb:c≤4611686018427387904:=hf0.cntb c (List.mem_of_getElem? hc)
   have hdb:=hf0.dead
   have hcl:=hf0.cnt
   obtain ⟨C,cC,rfl,_⟩:=hC.ptr (by omega)
   have hS:=Sat.unpack hbd hS
   simp only [List.cons_append] at hS
   have iC:Cells mC C id [nv c]:=by
    have:=Ke Zn hC hc
    rwa [Nat.mul_one] at this
   have HiC:=yH iC
   have HC:=yH hC
   have hcn:∀ (x:Nat) (y:Int),(x:Int)=y→∀ m',OwnP m' 3 1 (.slice (some ⟨C,0,none⟩) s.cnt.length cC) s.cnt.length (spl (s.cnt.flatMap ivC) id [.int .i64 y])→OwnP m' 3 1 (.slice (some ⟨C,0,none⟩) s.cnt.length cC) s.cnt.length ((s.cnt.set id x).flatMap ivC)∧Cells m' C id [.int .i64 y]:=fun x y hy m' hO=>by
    subst hy
    have h1:OwnP m' 3 1 (.slice (some ⟨C,0,none⟩) s.cnt.length cC) s.cnt.length ((s.cnt.set id x).flatMap ivC):=by
     rw [← flat_set Zn _ _ hil,Nat.mul_one]
     exact hO
    refine ⟨h1,?_⟩
    have:=Ke Zn h1 (List.getElem?_set_self hil)
    rwa [Nat.mul_one] at this
   have hP0:=hP.read
   have hpf:=hP.1
   have hclose:∀ (x d:Nat) (mC':PH) (ns:List PH) (w':World),x≤4611686018427387904→d≤4611686018427387904→OwnP mC' 3 1 (.slice (some ⟨C,0,none⟩) s.cnt.length cC) s.cnt.length ((s.cnt.set id x).flatMap ivC) →
     Sat E I (PH.one S (.cells #[vPt L,vPt P,vT,.slice (some ⟨C,0,none⟩) s.cnt.length cC,nv d] 164)::PH.one L (.cells #[vV,vL] 166)::mV::mL::mP::mT::mC'::(tms ++ ns)) w'→∃ m',StAt S { s with cnt:=s.cnt.set id x,dead:=d } m'∧Sat E I (m'::ns) w':=fun x d mC' ns w' hx hd hO hS'=>by
    have hl:(s.cnt.set id x).length=s.cnt.length:=List.length_set
    refine StAt.close (s:={ s with cnt:=s.cnt.set id x,dead:=d }) ⟨hf0.vars,hf0.lev,hf0.tabs,by show (s.cnt.set id x).length≤_;rw [hl];exact hf0.cnt,fun c' hc'=>?_,hd,hf0.levb,hf0.varb⟩ hV hL hP hT (by show OwnP _ _ _ _ (s.cnt.set id x).length _;rw [hl];exact hO) hgs htm htab hS'
    rcases List.mem_or_eq_of_mem_set hc' with h|h
    · exact hf0.cntb c' h
    · rw [h];exact hx
   have Hclose:=yH hclose
   clear hclose hbd hT hC hV hL hgs htm htab iC hP hf0 hid
   by_cases hbig:c<G.big
   case neg=>rw [if_neg hbig] at hm;cases hm
   rw [if_pos hbig] at hm
   have hbig:c<4611686018427387904:=hbig
   by_cases hc0:c=0
   · rw [if_pos hc0] at hm
     cases hd:s.nd id with
     | none=>rw [hd] at hm;split at hm <;> cases hm
     | some n =>
     rw [hd] at hm
     by_cases hdp:0<s.dead
     case neg=>rw [if_neg hdp] at hm;cases hm
     rw [if_pos hdp] at hm
     simp only [] at hm
     have HCn:=yH (hcn 1 (((0:Nat):Int)+1) (by omega))
     have hnf:=hpf.nd id n (G.Pl.nd_some.1 hd).2
     have hn1:=hnf.2.1
     have hn2:=hnf.2.2.1
     have hpat:=fun (w':World) (hle:mP.le (Qa w'))=>pat_nat (hP0.le hle) id
     rw [show s.pl.nd id=some n from hd] at hpat
     have HPat:=yH (show ∀ (w':World),mP.le (Qa w')→Calls Tryz.prog 128 #[vPt P,nv id] w' fun e w''=>e=.returned (.tuple #[.agg #[nv id,nv n.v,nv n.lo,nv n.hi,nv n.refs],.bool true])∧Below w'.heap.size w' w'' from hpat)
     cases h1:G.St.more k { s with cnt:=s.cnt.set id 1,dead:=s.dead - 1 } n.lo with
     | none=>rw [h1] at hm;cases hm
     | some s1 =>
     rw [h1] at hm
     simp only [] at hm
     have H1:=yH h1
     have H2:=yH hm
     clear h1 hm hcn hpat hP0 hpf hd hnf hc
     subst hc0
     go_enter Tryz.func147,Tryz.ntmps147
     go_wp2_with (first|(go_at_call 49;(with_reducible refine yI (HN.out _) ?_);rintro e w ⟨rfl,rfl⟩)|(go_at_call 128;(with_reducible refine yI (HPat.out _ (hS.mle (k:=4) rfl)) ?_);rintro e w ⟨rfl,hb⟩;replace hS:=hS.below_ hb;clear hb)|((with_reducible refine Qn ?_);(refine st_row 6 hS rfl rfl rfl rfl rfl HC.out (Nat.mul_one _).symm hil Kk rfl (int_one _) ?_);clear hS;intro mC2 w hC2 hS;have HC2:=yH (HCn.out _ hC2);clear hC2;(try simp only [zF,zG] at hS);(try simp only [Act.put]))|((with_reducible refine Qb ?_);first|((refine' ldP1 (v:=nv 0) (.inr (List.Mem.tail _ (List.Mem.tail _ (List.Mem.tail _ (List.Mem.tail _ (List.Mem.tail _ (List.Mem.tail _ (List.Mem.head _)))))))) hS rfl rfl Qf rfl (HiC.out.at 0 rfl) ?_);(try simp only [Act.put,zE,zF,zG]))|((refine' ldP1 (v:=.int .i64 (((0:Nat):Int)+1)) (.inr (List.Mem.tail _ (List.Mem.tail _ (List.Mem.tail _ (List.Mem.tail _ (List.Mem.tail _ (List.Mem.tail _ (List.Mem.head _)))))))) hS rfl rfl Qf rfl (HC2.out.2.at 0 rfl) ?_);(try simp only [Act.put,zE,zF,zG])))|((with_reducible refine Qc ?_);first|((with_reducible refine Ql 5 ?_);(refine' al (z:=_) hS rfl rfl ?ha ?_);(case ha=>exact Zp);clear hS;intro X w hS;(try simp only [Value.cells] at hS);(try simp only [Act.put,zE,zF,zG]))|((with_reducible refine Qb ?_);( (refine ld1 0 hS rfl rfl ?ha rfl rfl rfl ?_;(case ha=>first|exact Qf|exact Kn|exact Kg)) );(try simp only [Act.put,zE,zF,zG]))|((with_reducible refine Qn ?_);(first|(refine st1 0 hS rfl rfl rfl rfl rfl ?ha rfl rfl ?hb ?_;(case ha=>exact Kk);(case hb=>(simp;done)))|(refine stN 0 hS rfl rfl rfl rfl rfl ?ha rfl rfl ?_;(case ha=>exact Qt)));clear hS;intro w hS;(try simp only [zF,zG,zE,Act.eval,zD,zC,zA,zB,zJ,Value.cells] at hS);(try simp only [Act.put])) ))
     have hS:=hS.perm (List.perm_middle (l₁:=PH.one S (.cells #[vPt L,vPt P,vT,.slice (some ⟨C,0,none⟩) s.cnt.length cC,.int .i64 ((s.dead:Int) - 1)] 164)::PH.one L (.cells #[vV,vL] 166)::mV::mL::mP::mT::mC2::tms) (l₂:=ms)).symm
     have hDv:(.int .i64 ((s.dead:Int) - 1):Value)=nv (s.dead - 1):=by simp only [nv];  (congr 1 <;> omega)
     rw [hDv] at hS
     refine Veil.out ?_
     obtain ⟨m1,hA1,hS1⟩:=Hclose.out 1 (s.dead - 1) mC2 _ _ (by omega) (by omega) HC2.out.1 hS
     have HA1:=yH hA1
     refine ⟨?_⟩
     clear hS hA1
     refine (smore_any k _ _ n.lo m1 _ _ H1.out hn1 HA1.out hS1).mono ?_
     clear hS1
     rintro e w ⟨rfl,m2,hA2,hS⟩
     have HA2:=yH hA2
     clear hA2
     go_wp2_with (first|((with_reducible refine Qc ?_);  ((with_reducible refine Qb ?_);( (refine ld1 1 hS rfl rfl ?ha rfl rfl rfl ?_;(case ha=>exact Qf)) );(try simp only [Act.put,zE,zF,zG])) ))
     refine (smore_any k _ _ n.hi m2 _ _ H2.out hn2 HA2.out hS).mono ?_
     clear hS
     rintro e w ⟨rfl,m3,hA3,hS⟩
     have HA3:=yH hA3
     clear hA3
     go_wp2_with fail
     ( go_end0 )
     exact ⟨rfl,m3,HA3.out,(hS.perm (List.Perm.swap _ _ _)).drop⟩
   · rw [if_neg hc0] at hm
     cases hm
     have HCn:=yH (hcn (c+1) ((c:Int)+1) (by omega))
     have hgt:(1:Int)<(c:Int)+1:=by omega
     clear hcn hP0 hpf hc
     go_enter Tryz.func147,Tryz.ntmps147
     go_wp2_with (first|(go_at_call 49;(with_reducible refine yI (HN.out _) ?_);rintro e w ⟨rfl,rfl⟩)|((with_reducible refine Qn ?_);(refine st_row 6 hS rfl rfl rfl rfl rfl HC.out (Nat.mul_one _).symm hil Kk rfl (int_one _) ?_);clear hS;intro mC2 w hC2 hS;have HC2:=yH (HCn.out _ hC2);clear hC2;(try simp only [zF,zG] at hS);(try simp only [Act.put]))|((with_reducible refine Qb ?_);first|((refine' ldP1 (v:=nv c) (.inr (List.Mem.tail _ (List.Mem.tail _ (List.Mem.tail _ (List.Mem.tail _ (List.Mem.tail _ (List.Mem.tail _ (List.Mem.head _)))))))) hS rfl rfl Qf rfl (HiC.out.at 0 rfl) ?_);(try simp only [Act.put,zE,zF,zG]))|((refine' ldP1 (v:=.int .i64 ((c:Int)+1)) (.inr (List.Mem.tail _ (List.Mem.tail _ (List.Mem.tail _ (List.Mem.tail _ (List.Mem.tail _ (List.Mem.tail _ (List.Mem.head _)))))))) hS rfl rfl Qf rfl (HC2.out.2.at 0 rfl) ?_);(try simp only [Act.put,zE,zF,zG])))|((with_reducible refine Qc ?_);  ((with_reducible refine Qb ?_);( (refine ld1 0 hS rfl rfl ?ha rfl rfl rfl ?_;(case ha =>  exact Kn )) );(try simp only [Act.put,zE,zF,zG])) ))
     ( ((try simp only [Exit.inBlock,Exit.then]);refine bodyPost_ret (results_none rfl _ _ _) rfl ?_))
     refine ⟨rfl,?_⟩
     exact Hclose.out (c+1) s.dead mC2 _ _ (by omega) (by omega) HC2.out.1 hS
theorem sless_any {E:World} {I:PH} {S:Nat}:∀ (k:Nat) (s s':G.St) (f:Nat) (m:PH) (ms:List PH) (w:World),G.St.less k s f=some s'→f<4611686018427387904→StAt S s m→Sat E I (m::ms) w →
  Calls Tryz.prog 138 #[vPt S,nv f] w fun e w'=>e=.returned (.tuple #[])∧∃ m',StAt S s' m'∧Sat E I (m'::ms) w'
 | 0,s,s',f,m,ms,w,hm,_,_,_=>by unfold G.St.less at hm;cases hm
 | k+1,s,s',f,m,ms,w,hm,hf,hA,hS=>by
   have HN:=yH (fun w':World=>Yd w' f (by omega))
   unfold G.St.less at hm
   by_cases h0:f / 2=0
   · rw [if_pos h0] at hm
     cases hm
     rw [h0] at HN
     go_enter Tryz.func138,Tryz.ntmps138
     go_wp2_with (first|(go_at_call 49;(with_reducible refine yI (HN.out _) ?_);rintro e w ⟨rfl,rfl⟩))
     ( ((try simp only [Exit.inBlock,Exit.then]);refine bodyPost_ret (results_none rfl _ _ _) rfl ?_))
     exact ⟨rfl,m,hA,hS⟩
   rw [if_neg h0] at hm
   generalize hid:f / 2=id at *
   have h0i:¬ (id:Int)=0:=by omega
   cases hc:s.cnt[id]? with
   | none=>rw [hc] at hm;cases hm
   | some c =>
   rw [hc] at hm
   simp only [] at hm
   obtain ⟨hf0,L,P,vV,vL,vT,vC,gs,mV,mL,mP,mT,mC,tms,hbd,hV,hL,hP,hT,hC,hgs,htm,htab⟩:=hA
   have hil:id<s.cnt.length:=(yE.1 hc).1
   have hcb:c≤4611686018427387904:=hf0.cntb c (List.mem_of_getElem? hc)
   have hdb:=hf0.dead
   have hcl:=hf0.cnt
   obtain ⟨C,cC,rfl,_⟩:=hC.ptr (by omega)
   have hS:=Sat.unpack hbd hS
   simp only [List.cons_append] at hS
   have iC:Cells mC C id [nv c]:=by
    have:=Ke Zn hC hc
    rwa [Nat.mul_one] at this
   have HiC:=yH iC
   have HC:=yH hC
   have hcn:∀ (x:Nat) (y:Int),(x:Int)=y→∀ m',OwnP m' 3 1 (.slice (some ⟨C,0,none⟩) s.cnt.length cC) s.cnt.length (spl (s.cnt.flatMap ivC) id [.int .i64 y])→OwnP m' 3 1 (.slice (some ⟨C,0,none⟩) s.cnt.length cC) s.cnt.length ((s.cnt.set id x).flatMap ivC)∧Cells m' C id [.int .i64 y]:=fun x y hy m' hO=>by
    subst hy
    have h1:OwnP m' 3 1 (.slice (some ⟨C,0,none⟩) s.cnt.length cC) s.cnt.length ((s.cnt.set id x).flatMap ivC):=by
     rw [← flat_set Zn _ _ hil,Nat.mul_one]
     exact hO
    refine ⟨h1,?_⟩
    have:=Ke Zn h1 (List.getElem?_set_self hil)
    rwa [Nat.mul_one] at this
   have hP0:=hP.read
   have hpf:=hP.1
   have hclose:∀ (x d:Nat) (mC':PH) (ns:List PH) (w':World),x≤4611686018427387904→d≤4611686018427387904→OwnP mC' 3 1 (.slice (some ⟨C,0,none⟩) s.cnt.length cC) s.cnt.length ((s.cnt.set id x).flatMap ivC) →
     Sat E I (PH.one S (.cells #[vPt L,vPt P,vT,.slice (some ⟨C,0,none⟩) s.cnt.length cC,nv d] 164)::PH.one L (.cells #[vV,vL] 166)::mV::mL::mP::mT::mC'::(tms ++ ns)) w'→∃ m',StAt S { s with cnt:=s.cnt.set id x,dead:=d } m'∧Sat E I (m'::ns) w':=fun x d mC' ns w' hx hd hO hS'=>by
    have hl:(s.cnt.set id x).length=s.cnt.length:=List.length_set
    refine StAt.close (s:={ s with cnt:=s.cnt.set id x,dead:=d }) ⟨hf0.vars,hf0.lev,hf0.tabs,by show (s.cnt.set id x).length≤_;rw [hl];exact hf0.cnt,fun c' hc'=>?_,hd,hf0.levb,hf0.varb⟩ hV hL hP hT (by show OwnP _ _ _ _ (s.cnt.set id x).length _;rw [hl];exact hO) hgs htm htab hS'
    rcases List.mem_or_eq_of_mem_set hc' with h|h
    · exact hf0.cntb c' h
    · rw [h];exact hx
   have Hclose:=yH hclose
   clear hclose hbd hT hC hV hL hgs htm htab iC hP hf0 hid
   by_cases hcz:c=0
   · rw [if_pos hcz] at hm;cases hm
   rw [if_neg hcz] at hm
   by_cases hc1:c=1
   · rw [if_pos hc1] at hm
     cases hd:s.nd id with
     | none=>rw [hd] at hm;split at hm <;> cases hm
     | some n =>
     rw [hd] at hm
     by_cases hdp:s.dead<G.big
     case neg=>rw [if_neg hdp] at hm;cases hm
     rw [if_pos hdp] at hm
     have hdp:s.dead<4611686018427387904:=hdp
     simp only [] at hm
     have HCn:=yH (hcn 0 (((1:Nat):Int) - 1) (by omega))
     have hnf:=hpf.nd id n (G.Pl.nd_some.1 hd).2
     have hn1:=hnf.2.1
     have hn2:=hnf.2.2.1
     have hpat:=fun (w':World) (hle:mP.le (Qa w'))=>pat_nat (hP0.le hle) id
     rw [show s.pl.nd id=some n from hd] at hpat
     have HPat:=yH (show ∀ (w':World),mP.le (Qa w')→Calls Tryz.prog 128 #[vPt P,nv id] w' fun e w''=>e=.returned (.tuple #[.agg #[nv id,nv n.v,nv n.lo,nv n.hi,nv n.refs],.bool true])∧Below w'.heap.size w' w'' from hpat)
     cases h1:G.St.less k { s with cnt:=s.cnt.set id 0,dead:=s.dead+1 } n.lo with
     | none=>rw [h1] at hm;cases hm
     | some s1 =>
     rw [h1] at hm
     simp only [] at hm
     have H1:=yH h1
     have H2:=yH hm
     clear h1 hm hcn hpat hP0 hpf hd hnf hc
     subst hc1
     go_enter Tryz.func138,Tryz.ntmps138
     go_wp2_with (first|(go_at_call 49;(with_reducible refine yI (HN.out _) ?_);rintro e w ⟨rfl,rfl⟩)|(go_at_call 128;(with_reducible refine yI (HPat.out _ (hS.mle (k:=4) rfl)) ?_);rintro e w ⟨rfl,hb⟩;replace hS:=hS.below_ hb;clear hb)|((with_reducible refine Qn ?_);(refine st_row 6 hS rfl rfl rfl rfl rfl HC.out (Nat.mul_one _).symm hil Kk rfl (int_one _) ?_);clear hS;intro mC2 w hC2 hS;have HC2:=yH (HCn.out _ hC2);clear hC2;(try simp only [zF,zG] at hS);(try simp only [Act.put]))|((with_reducible refine Qb ?_);first|((refine' ldP1 (v:=nv 1) (.inr (List.Mem.tail _ (List.Mem.tail _ (List.Mem.tail _ (List.Mem.tail _ (List.Mem.tail _ (List.Mem.tail _ (List.Mem.head _)))))))) hS rfl rfl Qf rfl (HiC.out.at 0 rfl) ?_);(try simp only [Act.put,zE,zF,zG]))|((refine' ldP1 (v:=.int .i64 (((1:Nat):Int) - 1)) (.inr (List.Mem.tail _ (List.Mem.tail _ (List.Mem.tail _ (List.Mem.tail _ (List.Mem.tail _ (List.Mem.tail _ (List.Mem.head _)))))))) hS rfl rfl Qf rfl (HC2.out.2.at 0 rfl) ?_);(try simp only [Act.put,zE,zF,zG])))|((with_reducible refine Qc ?_);first|((with_reducible refine Ql 5 ?_);(refine' al (z:=_) hS rfl rfl ?ha ?_);(case ha=>exact Zp);clear hS;intro X w hS;(try simp only [Value.cells] at hS);(try simp only [Act.put,zE,zF,zG]))|((with_reducible refine Qb ?_);( (refine ld1 0 hS rfl rfl ?ha rfl rfl rfl ?_;(case ha=>first|exact Qf|exact Kn|exact Kg)) );(try simp only [Act.put,zE,zF,zG]))|((with_reducible refine Qn ?_);(first|(refine st1 0 hS rfl rfl rfl rfl rfl ?ha rfl rfl ?hb ?_;(case ha=>exact Kk);(case hb=>(simp;done)))|(refine stN 0 hS rfl rfl rfl rfl rfl ?ha rfl rfl ?_;(case ha=>exact Qt)));clear hS;intro w hS;(try simp only [zF,zG,zE,Act.eval,zD,zC,zA,zB,zJ,Value.cells] at hS);(try simp only [Act.put])) ))
     have hS:=hS.perm (List.perm_middle (l₁:=PH.one S (.cells #[vPt L,vPt P,vT,.slice (some ⟨C,0,none⟩) s.cnt.length cC,.int .i64 ((s.dead:Int)+1)] 164)::PH.one L (.cells #[vV,vL] 166)::mV::mL::mP::mT::mC2::tms) (l₂:=ms)).symm
     have hDv:(.int .i64 ((s.dead:Int)+1):Value)=nv (s.dead+1):=by simp only [nv];  (congr 1 <;> omega)
     rw [hDv] at hS
     refine Veil.out ?_
     obtain ⟨m1,hA1,hS1⟩:=Hclose.out 0 (s.dead+1) mC2 _ _ (by omega) (by omega) HC2.out.1 hS
     have HA1:=yH hA1
     refine ⟨?_⟩
     clear hS hA1
     refine (sless_any k _ _ n.lo m1 _ _ H1.out hn1 HA1.out hS1).mono ?_
     clear hS1
     rintro e w ⟨rfl,m2,hA2,hS⟩
     have HA2:=yH hA2
     clear hA2
     go_wp2_with (first|((with_reducible refine Qc ?_);  ((with_reducible refine Qb ?_);( (refine ld1 1 hS rfl rfl ?ha rfl rfl rfl ?_;(case ha=>exact Qf)) );(try simp only [Act.put,zE,zF,zG])) ))
     refine (sless_any k _ _ n.hi m2 _ _ H2.out hn2 HA2.out hS).mono ?_
     clear hS
     rintro e w ⟨rfl,m3,hA3,hS⟩
     have HA3:=yH hA3
     clear hA3
     go_wp2_with fail
     ( go_end0 )
     exact ⟨rfl,m3,HA3.out,(hS.perm (List.Perm.swap _ _ _)).drop⟩
   · rw [if_neg hc1] at hm
     cases hm
     have HCn:=yH (hcn (c - 1) ((c:Int) - 1) (by omega))
     have hgt:(0:Int)<(c:Int) - 1:=by omega
     clear hcn hP0 hpf hc
     go_enter Tryz.func138,Tryz.ntmps138
     go_wp2_with (first|(go_at_call 49;(with_reducible refine yI (HN.out _) ?_);rintro e w ⟨rfl,rfl⟩)|((with_reducible refine Qn ?_);(refine st_row 6 hS rfl rfl rfl rfl rfl HC.out (Nat.mul_one _).symm hil Kk rfl (int_one _) ?_);clear hS;intro mC2 w hC2 hS;have HC2:=yH (HCn.out _ hC2);clear hC2;(try simp only [zF,zG] at hS);(try simp only [Act.put]))|((with_reducible refine Qb ?_);first|((refine' ldP1 (v:=nv c) (.inr (List.Mem.tail _ (List.Mem.tail _ (List.Mem.tail _ (List.Mem.tail _ (List.Mem.tail _ (List.Mem.tail _ (List.Mem.head _)))))))) hS rfl rfl Qf rfl (HiC.out.at 0 rfl) ?_);(try simp only [Act.put,zE,zF,zG]))|((refine' ldP1 (v:=.int .i64 ((c:Int) - 1)) (.inr (List.Mem.tail _ (List.Mem.tail _ (List.Mem.tail _ (List.Mem.tail _ (List.Mem.tail _ (List.Mem.tail _ (List.Mem.head _)))))))) hS rfl rfl Qf rfl (HC2.out.2.at 0 rfl) ?_);(try simp only [Act.put,zE,zF,zG])))|((with_reducible refine Qc ?_);  ((with_reducible refine Qb ?_);( (refine ld1 0 hS rfl rfl ?ha rfl rfl rfl ?_;(case ha =>  exact Kn )) );(try simp only [Act.put,zE,zF,zG])) ))
     ( ((try simp only [Exit.inBlock,Exit.then]);refine bodyPost_ret (results_none rfl _ _ _) rfl ?_))
     refine ⟨rfl,?_⟩
     exact Hclose.out (c - 1) s.dead mC2 _ _ (by omega) (by omega) HC2.out.1 hS
end
end Go.Proofs.YtidamcdklgfogaaGreat
