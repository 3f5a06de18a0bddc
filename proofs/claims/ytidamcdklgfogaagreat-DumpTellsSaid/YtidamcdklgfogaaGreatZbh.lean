import Derived.Test.YtidamcdklgfogaaGreatZab
import Derived.Test.YtidamcdklgfogaaGreatZbe
import Derived.Test.YtidamcdklgfogaaGreatZbf
import Derived.Test.YtidamcdklgfogaaGreatZay
import Derived.Test.YtidamcdklgfogaaGreatZbg
set_option linter.unusedSimpArgs false
set_option linter.unusedVariables false
set_option maxRecDepth 100000
set_option maxHeartbeats 8000000
namespace Go.Proofs.YtidamcdklgfogaaGreat
section
open Go.RowKit
structure KeepsM (P:G.Mg→Prop):Prop where
 sane:∀ m,P m→Sane m.s
 pm:∀ m,P m→G.PermOk m.s
 len:∀ m,P m→∀ s0 c,m.s.collect=some (s0,c)→∀ v,(s0.tab v).length≤1000000
 new:∀ m,P m→m.of (m.next:Int)=none
 ofl:∀ m (k:Int) a,P m→m.of k=some a→a<4611686018427387904
 clear:∀ m,P m→P { m with me:=G.Memo.none }
 coll:∀ m s k,P m→m.s.collect=some (s,k)→P { m with s:=s,me:=G.Memo.none }
 swap:∀ m s (l:Int) e,P m→m.s.swap l=some (s,e)→P { m with s:=s,me:=G.Memo.none }
section
variable {E w:World} {I p:PH} {ms:List PH} {D:Nat} {m m':G.Mg}
theorem mcollect_any {k:Nat} (hm:m.collect=some (m',k)) (hs:Sane m.s) (hA:MgAt D m p) (hS:Sat E I (p::ms) w) :
  Calls Tryz.prog 127 #[vPt D] w fun e w'=>e=.returned (nv k)∧∃ p',MgAt D m' p'∧Sat E I (p'::ms) w':=by
 unfold G.Mg.collect at hm
 cases hc:m.s.collect with
 | none=>rw [hc] at hm;cases hm
 | some q =>
   obtain ⟨s',k'⟩:=q
   rw [hc] at hm
   simp only [Option.map_some,Option.some.injEq,Prod.mk.injEq] at hm
   obtain ⟨rfl,rfl⟩:=hm
   have hfit:=hA.fit
   obtain ⟨S,M,H,wv,mS,mM,mH,mW,hSt,hMe,hHs,hW,hS⟩:=hA.open_ hS
   have fin:=fun (mS' mM':PH) (w':World) (h1:StAt S s' mS') (h2:Yj M G.Memo.none mM') (h:Sat E I (PH.one D (.cells (Yn S M H (m.next:Int) wv m.calls) 117)::mS'::mM'::mH::mW::ms) w')=>MgAt.close (m:={ m with s:=s',me:=G.Memo.none }) hfit h1 h2 hHs hW h
   have HF:=yH fin
   have HM:=yH hMe
   have HSt:=yH hSt
   have HC:=yH hc
   have HP:=yH hs.pl
   clear fin hMe hSt hc hs hHs hW hfit hA
   unfold Yn at hS HF
   go_enter Tryz.func127,Tryz.ntmps127
   go_wp2_with (first|(go_at_call 122;(with_reducible refine yI (mclear_any HM.out (hS.pick 2 rfl)) ?_);clear hS;rintro e w ⟨rfl,mM',hM',hS⟩;have HM':=yH hM';clear hM';replace hS:=Sat.back (m:=mM) 2 rfl hS;simp only [zF,zG] at hS)|(go_at_call 139;(with_reducible refine yI (scollect_any HC.out HP.out HSt.out (hS.pick 1 rfl)) ?_);clear hS;rintro e w ⟨rfl,mS',hSt',hS⟩;have HSt':=yH hSt';clear hSt';replace hS:=Sat.back (m:=mS) 1 rfl hS;simp only [zF,zG] at hS)|((with_reducible refine Qc ?_);first|((with_reducible refine Qb ?_);( (refine ld1 0 hS rfl rfl ?ha rfl rfl rfl ?_;(case ha=>first|exact Qr|exact Yf)) );(try simp only [Act.put,zE,zF,zG]))))
   go_ret
   exact ⟨rfl,HF.out _ _ _ HSt'.out HM'.out hS⟩
theorem perm_facts {s:G.St} (h:G.PermOk s):(∀ x ∈ s.vars,x<s.vars.length)∧s.vars.Nodup∧s.vars.length≤64:=⟨h.ordr.lt,h.ordr.nodup,h.le⟩
def evV (ev:G.Ev):Value:=.agg #[.int .i64 ev.after,.int .i64 ev.kind,.int .i64 ev.level]
theorem mhappen1 {ev:G.Ev} (he:ev.kind=1) {s':G.St} {k:Nat} (hc:m.s.collect=some (s',k)) (hs:Sane m.s) (hA:MgAt D m p) (hS:Sat E I (p::ms) w) :
  Calls Tryz.prog 126 #[vPt D,evV ev] w fun e w'=>e=.returned (.tuple #[])∧∃ p',MgAt D { m with s:=s',me:=G.Memo.none } p'∧Sat E I (p'::ms) w':=by
 have hfit:=hA.fit
 obtain ⟨S,M,H,wv,mS,mM,mH,mW,hSt,hMe,hHs,hW,hS⟩:=hA.open_ hS
 have fin:=fun (s':G.St) (mS' mM':PH) (w':World) (h1:StAt S s' mS') (h2:Yj M G.Memo.none mM') (h:Sat E I (PH.one D (.cells (Yn S M H (m.next:Int) wv m.calls) 117)::mS'::mM'::mH::mW::ms) w')=>MgAt.close (m:={ m with s:=s',me:=G.Memo.none }) hfit h1 h2 hHs hW h
 have HF:=yH fin
 have HM:=yH hMe
 have HSt:=yH hSt
 clear fin hMe hSt hHs hW hfit hA
 unfold Yn at hS HF
 have HC:=yH hc
 have HP:=yH hs.pl
 clear hc hs
 obtain ⟨ea,ek,el⟩:=ev
 simp only at he
 subst he
 unfold evV
 go_enter Tryz.func126,Tryz.ntmps126
 go_wp2_with (first|(go_at_call 122;(with_reducible refine yI (mclear_any HM.out (hS.pick 3 rfl)) ?_);clear hS;rintro e w ⟨rfl,mM',hM',hS⟩;have HM':=yH hM';clear hM';replace hS:=Sat.back (m:=mM) 3 rfl hS;simp only [zF,zG] at hS)|(go_at_call 139;(with_reducible refine yI (scollect_any HC.out HP.out HSt.out (hS.pick 2 rfl)) ?_);clear hS;rintro e w ⟨rfl,mS',hSt',hS⟩;have HSt':=yH hSt';clear hSt';replace hS:=Sat.back (m:=mS) 2 rfl hS;simp only [zF,zG] at hS)|((with_reducible refine Qc ?_);first|((with_reducible refine Za 3 ?_);refine bx hS rfl rfl rfl ?_;clear hS;intro X3 w hS;(try simp only [Act.eval,zD,zC,zA,zB,zJ,Value.cells] at hS);(try simp only [Act.put,zE,zF,zG]))|((with_reducible refine Qb ?_);(first|(refine ld1 0 hS rfl rfl ?ha rfl rfl rfl ?_;(case ha =>  exact Qf))|(refine ld1 1 hS rfl rfl ?ha rfl rfl rfl ?_;(case ha=>first|exact Qr|exact Yf )) );(try simp only [Act.put,zE,zF,zG])) ))
 go_end0
 exact ⟨rfl,HF.out _ _ _ _ HSt'.out HM'.out hS.drop⟩
theorem mhappen2 {ev:G.Ev} (he:ev.kind=2) {s':G.St} {k:Nat} (hc:m.s.swap ev.level=some (s',k)) (hs:Sane m.s) (hpm:G.PermOk m.s) (hlen:∀ s0 c,m.s.collect=some (s0,c)→∀ v,(s0.tab v).length≤1000000) (hA:MgAt D m p) (hS:Sat E I (p::ms) w) :
  Calls Tryz.prog 126 #[vPt D,evV ev] w fun e w'=>e=.returned (.tuple #[])∧∃ p',MgAt D { m with s:=s',me:=G.Memo.none } p'∧Sat E I (p'::ms) w':=by
 have hfit:=hA.fit
 obtain ⟨S,M,H,wv,mS,mM,mH,mW,hSt,hMe,hHs,hW,hS⟩:=hA.open_ hS
 have fin:=fun (s':G.St) (mS' mM':PH) (w':World) (h1:StAt S s' mS') (h2:Yj M G.Memo.none mM') (h:Sat E I (PH.one D (.cells (Yn S M H (m.next:Int) wv m.calls) 117)::mS'::mM'::mH::mW::ms) w')=>MgAt.close (m:={ m with s:=s',me:=G.Memo.none }) hfit h1 h2 hHs hW h
 have HF:=yH fin
 have HM:=yH hMe
 have HSt:=yH hSt
 clear fin hMe hSt hHs hW hfit hA
 unfold Yn at hS HF
 have HC:=yH hc
 have HP:=yH hs
 have HQ:=yH hpm
 have HL:=yH hlen
 clear hc hs hpm hlen
 obtain ⟨ea,ek,el⟩:=ev
 simp only at he
 subst he
 unfold evV
 simp only at HC
 go_enter Tryz.func126,Tryz.ntmps126
 go_wp2_with (first|(go_at_call 122;(with_reducible refine yI (mclear_any HM.out (hS.pick 3 rfl)) ?_);clear hS;rintro e w ⟨rfl,mM',hM',hS⟩;have HM':=yH hM';clear hM';replace hS:=Sat.back (m:=mM) 3 rfl hS;simp only [zF,zG] at hS)|((with_reducible refine Qc ?_);first|((with_reducible refine Za 3 ?_);refine bx hS rfl rfl rfl ?_;clear hS;intro X3 w hS;(try simp only [Act.eval,zD,zC,zA,zB,zJ,Value.cells] at hS);(try simp only [Act.put,zE,zF,zG]))|((with_reducible refine Qb ?_);(first|(refine ld1 0 hS rfl rfl ?ha rfl rfl rfl ?_;(case ha =>  exact Qf))|(refine ld1 1 hS rfl rfl ?ha rfl rfl rfl ?_;(case ha =>  exact Yf )) );(try simp only [Act.put,zE,zF,zG])) ))
 obtain ⟨I1,_,lX,hS1,bX⟩:=hS.ice
 obtain ⟨I2,l2,lD,hS2,bD⟩:=hS1.ice
 have iX:I2.at X3 2=some (.int .i64 el):=PH.at_le l2 (PH.at_le lX (Qk rfl))
 have iD:I2.at D 0=some (vPt S):=PH.at_le lD (Qk rfl)
 clear lX l2 lD hS1 hS
 refine Qx [[],[0],[0,1],[0,1,2],[],[4],[0,1,2,3,4,5]] E I2 _
  [fun v _=>v=vPt D,fun v _=>v=vPt D,fun v _=>v=.pointer (some ⟨D,0,none⟩),fun v _=>v=vPt S,fun v _=>v=.pointer (some ⟨X3,2,none⟩),fun v _=>v=.int .i64 el,fun _ _=>True] [6]
  (set1G _ 0 (fun m'=>StAt S s' m')) (by kernel_rfl) (by kernel_rfl) (by decide) hS2 rfl ?last (fun _ _ _ _ _ _ h=>h) (fun _ _ _ _ _ _ h=>h) ?plain ?step ?fin
 case last=>repeat (first|exact Lasting.nil|refine Lasting.cons (fun _ _ _ _ h=>h) ?_)
 case plain=>(repeat' (first|exact trivial|apply And.intro)) <;> first|exact .inl rfl|(refine .inr ?_;intro s vals J bs w hstop hg hJ hS hG;clear hG;simp only [zH,zI,Given,Facts] at hg;simp only [Qd,Qh,Qe,Qj,zH,zI,zA,zB,zK,if_true,Act.put,zE,zF,zG,hg];refine ⟨?_⟩;refine Qg (fun K hK=>?_);have HK:=yH hK;clear hK;rw [if_pos (by rfl)];(first|((with_reducible refine Qs ?_);first|((refine' Qq (v:=_) hS hJ ?ha rfl ?hc ?_);(case ha=>first|exact Qr|exact Qf);(case hc=>assumption)))|(go_wp2_with (fail)));refine HK.out _ _ ⟨rfl,J,PH.le.refl _,hS,?_⟩;clear HK;simp only [Facts];simp only [Qo,zH,zI,Act.put,zE,zF,zG,zD,zC,zA,zB,zJ])
 case step =>
  refine ⟨trivial,?_⟩
  intro vals J bs w hg hJ hS hG
  have hG:bs=_:=hG
  subst hG
  simp only [zH,zI,Given,Facts] at hg;simp only [Qd,Qh,Qe,Qj,zH,zI,zA,zB,zK,if_true,Act.put,zE,zF,zG,hg];refine ⟨?_⟩;refine Qg (fun K hK=>?_);have HK:=yH hK;clear hK;rw [if_pos (by rfl)]
  go_wp2_with (first|(go_at_call 123;(with_reducible refine yI (sswap_any HC.out HP.out HQ.out HL.out HSt.out hS) ?_);clear hS;rintro e w ⟨rfl,mS',hSt',hS⟩;have HSt':=yH hSt';clear hSt'))
  exact HK.out _ _ ⟨rfl,J,_,PH.le.refl _,hS,trivial,mS',HSt'.out,rfl⟩
 case fin =>
  intro vals J9 bs w hJ hg hS hG
  obtain ⟨mS',hSt',hns⟩:=hG
  subst hns
  have hS:=hS.less hJ
  simp only [zG] at hS
  have hS:=bX _ _ (bD _ _ hS)
  have HSt':=yH hSt'
  clear hSt' hJ bX bD
  simp only [yB,yC,Nat.reduceAdd,Below_,Facts,zH,zI,true_and,and_true] at hg;simp only [yB,yC,Nat.reduceAdd,Qd,Qh,Qe,zA,zB,zK,if_true,Act.put,zE,zF,zG,hg];refine ⟨?_⟩
  clear hg iX iD
  go_wp2_with fail
  go_end0
  exact ⟨rfl,HF.out _ _ _ _ HSt'.out HM'.out hS.drop⟩
end
end
section
open Go.RowKit
theorem mhappen3 {P:G.Mg→Prop} (hK:KeepsM P) {E w:World} {I p:PH} {ms:List PH} {D:Nat} {m:G.Mg} (hP:P m) {ev:G.Ev} (he1:ev.kind≠1) (he2:ev.kind≠2) {s':G.St} (hc:m.s.swaps (G.stepsP 0 m.s.vars.reverse m.s.vars)=some s') (hA:MgAt D m p) (hS:Sat E I (p::ms) w) :
  Calls Tryz.prog 126 #[vPt D,evV ev] w fun e w'=>e=.returned (.tuple #[])∧∃ p',MgAt D { m with s:=s',me:=G.Memo.none } p'∧Sat E I (p'::ms) w':=by
 have hfit:=hA.fit
 obtain ⟨S,M,H,wv,mS,mM,mH,mW,hSt,hMe,hHs,hW,hS⟩:=hA.open_ hS
 have fin:=fun (s':G.St) (mS' mM':PH) (w':World) (h1:StAt S s' mS') (h2:Yj M G.Memo.none mM') (h:Sat E I (PH.one D (.cells (Yn S M H (m.next:Int) wv m.calls) 117)::mS'::mM'::mH::mW::ms) w')=>MgAt.close (m:={ m with s:=s',me:=G.Memo.none }) hfit h1 h2 hHs hW h
 obtain ⟨pf1,pf2,pf3⟩:=perm_facts (hK.pm _ hP)
 have HF:=yH fin
 have HM:=yH hMe
 have HSt:=yH hSt
 have HKP:=yH hK
 have HP:=yH (hK.clear _ hP)
 have HC:=yH hc
 have HO:=yH (fun (w:World) (h:StR (Qa w) S m.s) (ms':List PH) (hE:Sat E I ms' w)=>sorder_any h hE)
 have HT:=yH (fun (w:World) (v:Value) (h:NumR (Qa w) v m.s.vars)=>pturn_any h (by omega))
 have HSp:=yH (fun (w:World) (va vb:Value) (ha:NumR (Qa w) va m.s.vars) (hb:NumR (Qa w) vb m.s.vars.reverse)=>psteps_any ha hb (by simp) (by simpa using pf3) pf1 pf2 (by simpa using pf1) (List.pairwise_reverse.2 (pf2.imp fun h=>Ne.symm h)) (by simp))
 have HNr:=yH (fun (A:Option Addr) (c:Nat) (mT:PH) (h:OwnP mT 3 1 (.slice A m.s.vars.length c) m.s.vars.length (m.s.vars.reverse.flatMap ivC))=>OwnP.numN h (by simp))
 have hlen:=steps_len m.s.vars.reverse 0 m.s.vars m.s.vars.length rfl (by simp) (by simp)
 have hlen2:(G.stepsP 0 m.s.vars.reverse m.s.vars).length≤4096:=by
  have:m.s.vars.reverse.length * m.s.vars.length≤64 * 64:=Nat.mul_le_mul (by simpa using pf3) pf3
  omega
 clear fin hMe hSt hHs hW hfit hA hK hP hc pf1 pf2 pf3 hlen
 generalize G.stepsP 0 m.s.vars.reverse m.s.vars=l at *
 unfold Yn at hS HF
 obtain ⟨ea,ek,el⟩:=ev
 simp only at he1 he2
 unfold evV
 have d1:(ek == 1)=false:=by simpa using he1
 have d2:(ek == 2)=false:=by simpa using he2
 clear he1 he2
 go_enter Tryz.func126,Tryz.ntmps126
 go_wp2_with (first|(go_at_call 122;(with_reducible refine yI (mclear_any HM.out (hS.pick 3 rfl)) ?_);clear hS;rintro e w ⟨rfl,mM',hM',hS⟩;have HM':=yH hM';clear hM';replace hS:=Sat.back (m:=mM) 3 rfl hS;simp only [zF,zG] at hS)|(go_at_call 57;(with_reducible refine yI (HO.out _ (HSt.out.read.le (hS.mle (k:=2) rfl)) _ hS) ?_);clear hS;rintro e w ⟨vO,mO,rfl,hO,hS⟩;have HOo:=yH hO;clear hO)|(go_at_call 151;(with_reducible refine yI (HT.out _ _ ((OwnP.num HOo.out).le (hS.mle (k:=0) rfl))) ?_);rintro e w ⟨X,mT,rfl,hT,hg⟩;replace hS:=hS.graft hg;have HTt:=yH hT;clear hT hg)|(go_at_call 150;(with_reducible refine yI (HSp.out _ _ _ ((OwnP.num HOo.out).le (hS.mle (k:=1) rfl)) ((HNr.out _ _ _ HTt.out).le (hS.mle (k:=0) rfl))) ?_);rintro e w ⟨vL,mL,rfl,hL,hg⟩;replace hS:=hS.graft hg;clear hg;refine Veil.out ?_;obtain ⟨A,cp,rfl,_⟩:=OwnP.shape hL;refine ⟨?_⟩;have HL:=yH hL;clear hL)|((with_reducible refine Qc ?_);first|((with_reducible refine Za 3 ?_);refine bx hS rfl rfl rfl ?_;clear hS;intro X3 w hS;(try simp only [Act.eval,zD,zC,zA,zB,zJ,Value.cells] at hS);(try simp only [Act.put,zE,zF,zG]))|((with_reducible refine Qb ?_);(first|(refine ld1 0 hS rfl rfl ?ha rfl rfl rfl ?_;(case ha =>  exact Qf))|(refine ld1 1 hS rfl rfl ?ha rfl rfl rfl ?_;(case ha=>first|exact Qr|exact Yf )) );(try simp only [Act.put,zE,zF,zG])) ))
 obtain ⟨J,lJ,mJ,hS2,_⟩:=hS.ice
 have hNl:NumR J (.slice A l.length cp) l:=(OwnP.num HL.out).le mJ
 have HNl:=yH hNl.2
 have hS3:=hS2.drop.drop
 have HJ:=yH lJ
 clear hS hS2 lJ mJ hNl HL HTt HOo HO HT HSp HNr
 have hS:=hS3
 clear hS3
 generalize hT:l.length=T at *
 have HTl:=yH hT
 clear hT
 go_loopw [30] (fun v30 wr=>∃ (i:Nat) (s1:G.St) (mS1:PH),i≤T∧v30=.int .i64 (i:Int)∧P { m with s:=s1,me:=G.Memo.none }∧s1.swaps (l.drop i)=some s'∧StAt S s1 mS1∧Sat E J (PH.one X3 (.cells #[.int .i64 ea,.int .i64 ek,.int .i64 el] 85)::PH.one D (.cells #[vPt S,vPt M,.map (some H),.int .i64 (m.next:Int),wv,.int .i64 m.calls] 117)::mS1::mM'::mH::mW::ms) wr) (fun v30 _=>(T - intOf v30).toNat)
 case atStart=>exact ⟨0,m.s,mS,Nat.zero_le _,rfl,HP.out,HC.out,HSt.out,hS⟩
 case round =>
  clear hS HP HC HSt
  obtain ⟨i,s1,mS1,hi,rfl,hP1,hsw,hSt1,hS⟩:=hrel
  by_cases hlt:i<T
  · obtain ⟨x,hx⟩:∃ x,l[i]?=some x:=⟨_,yA (by rw [HTl.out];exact hlt)⟩
    obtain ⟨Y,c',hY,hcell⟩:=HNl.out (by omega)
    injection hY with hA hB hC
    subst hA hC
    have hcell:=hcell i _ hx
    have hdr:l.drop i=x::l.drop (i+1):=by
     rw [List.drop_eq_getElem_cons (by rw [HTl.out];exact hlt)]
     congr 1
     have:=yA (l:=l) (i:=i) (by rw [HTl.out];exact hlt)
     rw [hx] at this
     injection this with this
     exact this.symm
    rw [hdr,G.St.swaps] at hsw
    cases hq:s1.swap (x:Int) with
    | none=>rw [hq] at hsw;cases hsw
    | some q =>
      obtain ⟨s2,e2⟩:=q
      rw [hq] at hsw
      simp only [zK] at hsw
      have hP2:=HKP.out.swap _ _ _ _ hP1 hq
      have HSw:=yH (fun (w:World) (ms':List PH) (h:Sat E J (mS1::ms') w)=>sswap_any hq (HKP.out.sane _ hP1) (HKP.out.pm _ hP1) (HKP.out.len _ hP1) hSt1 h)
      have HN:=yH (And.intro hP2 hsw)
      have hiN:(i:Int)<(T:Int):=by omega
      clear hq hsw hP1 hP2 hdr hx hSt1
      go_wp2_with (first|(go_at_call 123;(with_reducible refine yI (HSw.out _ _ (hS.pick 2 rfl)) ?_);clear hS;rintro e w ⟨rfl,mS2,hSt2,hS⟩;have HSt2:=yH hSt2;clear hSt2;replace hS:=Sat.back (m:=mS1) 2 rfl hS;simp only [zF,zG] at hS)|((with_reducible refine Qc ?_);  ((with_reducible refine Qb ?_);(first|(refine ld1 1 hS rfl rfl ?ha rfl rfl rfl ?_;(case ha =>  exact Qr ))|((refine' Ka (v:=_) hS rfl rfl ?ha rfl ?hb ?_);(case ha =>  exact Qf);(case hb=>assumption)));(try simp only [Act.put,zE,zF,zG])) ))
      exact ⟨⟨i+1,s2,mS2,by omega,by go_num,HN.out.1,HN.out.2,HSt2.out,hS⟩,by simp [intOf];omega⟩
  · obtain rfl:i=T:=by omega
    have he:l.drop i=[]:=List.drop_eq_nil_of_le (by rw [HTl.out];exact Nat.le_refl _)
    rw [he,G.St.swaps] at hsw
    cases hsw
    have HS1:=yH hSt1
    clear he hP1 hSt1
    go_wp2_with fail
    go_end0
    exact ⟨rfl,HF.out _ _ _ _ HS1.out HM'.out (hS.less HJ.out).drop⟩
theorem mhappen_any {P:G.Mg→Prop} (hK:KeepsM P) {E w:World} {I p:PH} {ms:List PH} {D:Nat} {m m':G.Mg} (hP:P m) {ev:G.Ev} (hm:m.happen ev=some m') (hA:MgAt D m p) (hS:Sat E I (p::ms) w) :
  Calls Tryz.prog 126 #[vPt D,evV ev] w fun e w'=>e=.returned (.tuple #[])∧∃ p',MgAt D m' p'∧Sat E I (p'::ms) w':=by
 unfold G.Mg.happen at hm
 by_cases h1:ev.kind=1
 · rw [if_pos h1] at hm
   cases hc:m.s.collect with
   | none=>rw [hc] at hm;cases hm
   | some q =>
     rw [hc] at hm
     cases hm
     exact mhappen1 h1 hc (hK.sane _ hP) hA hS
 · rw [if_neg h1] at hm
   by_cases h2:ev.kind=2
   · rw [if_pos h2] at hm
     cases hc:m.s.swap ev.level with
     | none=>rw [hc] at hm;cases hm
     | some q =>
       rw [hc] at hm
       cases hm
       exact mhappen2 h2 hc (hK.sane _ hP) (hK.pm _ hP) (hK.len _ hP) hA hS
   · rw [if_neg h2] at hm
     cases hc:m.s.swaps (G.stepsP 0 m.s.vars.reverse m.s.vars) with
     | none=>rw [hc] at hm;cases hm
     | some s' =>
       rw [hc] at hm
       cases hm
       exact mhappen3 hK hP h1 h2 hc hA hS
theorem KeepsM.swaps {P:G.Mg→Prop} (hK:KeepsM P):∀ (l:List Nat) (m:G.Mg) (s':G.St),P { m with me:=G.Memo.none }→m.s.swaps l=some s'→P { m with s:=s',me:=G.Memo.none }
 | [],m,s',hP,h=>by cases h;exact hP
 | k::l,m,s',hP,h=>by
   rw [G.St.swaps] at h
   cases hq:m.s.swap (k:Int) with
   | none=>rw [hq] at h;cases h
   | some q =>
     obtain ⟨s2,e2⟩:=q
     rw [hq] at h
     have:=hK.swap _ s2 k e2 hP hq
     exact hK.swaps l { m with s:=s2,me:=G.Memo.none } s' this h
theorem KeepsM.happen {P:G.Mg→Prop} (hK:KeepsM P) {m m':G.Mg} (hP:P m) {ev:G.Ev} (hm:m.happen ev=some m'):P m':=by
 unfold G.Mg.happen at hm
 by_cases h1:ev.kind=1
 · rw [if_pos h1] at hm
   cases hc:m.s.collect with
   | none=>rw [hc] at hm;cases hm
   | some q =>
     rw [hc] at hm
     cases hm
     exact hK.coll _ _ _ hP hc
 · rw [if_neg h1] at hm
   by_cases h2:ev.kind=2
   · rw [if_pos h2] at hm
     cases hc:m.s.swap ev.level with
     | none=>rw [hc] at hm;cases hm
     | some q =>
       rw [hc] at hm
       cases hm
       exact hK.swap _ _ _ _ hP hc
   · rw [if_neg h2] at hm
     cases hc:m.s.swaps (G.stepsP 0 m.s.vars.reverse m.s.vars) with
     | none=>rw [hc] at hm;cases hm
     | some s' =>
       rw [hc] at hm
       cases hm
       exact hK.swaps _ m s' (hK.clear _ hP) hc
end
end Go.Proofs.YtidamcdklgfogaaGreat
