import Derived.Test.YtidamcdklgfogaaGreatUar
import Derived.Test.YtidamcdklgfogaaGreatUas
import Derived.Says
import Derived.Deep.LoopGhost
set_option linter.unusedVariables false
set_option linter.unusedSimpArgs false
set_option maxRecDepth 100000
set_option maxHeartbeats 8000000
namespace Go.Proofs.YtidamcdklgfogaaGreat
section
open Go.RowKit
structure KeepsM (P:G.Mg->Prop):Prop where
 sane:∀m,P m->Sane m.s
 pm:∀m,P m->G.PermOk m.s
 len:∀m,P m->∀s0 c,m.s.collect=some (s0,c)->∀v,(s0.tab v).length<=1000000
 new:∀m,P m->m.of (m.next:Int)=none
 ofl:∀m (k:Int) a,P m->m.of k=some a->a<4611686018427387904
 clear:∀m,P m->P { m with me:=G.Memo.none }
 coll:∀m s k,P m->m.s.collect=some (s,k)->P { m with s:=s,me:=G.Memo.none }
 swap:∀m s (l:Int) e,P m->m.s.swap l=some (s,e)->P { m with s:=s,me:=G.Memo.none }
section
variable{E w:World} {I p:PH} {ms:List PH} {D:Nat} {m m':G.Mg}
theorem mcollect_any{k:Nat}(hm:m.collect=some (m',k))(hs:Sane m.s)(hA:MgAt D m p)(hS:Sat E I (p::ms) w) :
  Calls Tryz.prog 127 #[vPt D] w λe w'=>e=.returned (nv k)/\∃p',MgAt D m' p'/\Sat E I (p'::ms) w':=by
 unfold G.Mg.collect at hm;cases hc:m.s.collect with
 | none=>rw[hc] at hm;cases hm
 | some q =>
   obtain⟨s',k'⟩:=q;rw[hc] at hm;simp only[Option.map_some,jEa,jIa] at hm;obtain⟨rfl,rfl⟩:=hm;have hfit:=hA.fit;obtain⟨S,M,H,wv,mS,mM,mH,mW,hSt,hMe,hHs,hW,hS⟩:=hA.open_ hS;have fin:=λ(mS' mM':PH) (w':World) (h1:StAt S s' mS') (h2:Xk M G.Memo.none mM') (h:Sat E I (PH.one D (.cells (Xe S M H (m.next:Int) wv m.calls) 117)::mS'::mM'::mH::mW::ms) w')=>MgAt.close (m:={ m with s:=s',me:=G.Memo.none }) hfit h1 h2 hHs hW h
   have HF:=yH fin;have HM:=yH hMe;have HSt:=yH hSt;have HC:=yH hc;have HP:=yH hs.pl;clear fin hMe hSt hc hs hHs hW hfit hA;unfold Xe at hS HF;go_enter Tryz.func127,Tryz.ntmps127;go_wp2_with (first|(go_at_call 122;(with_reducible refine yI (mclear_any HM.out (hS.pick 2 rfl)) ?_);clear hS;rintro e w ⟨rfl,mM',hM',hS⟩;have HM':=yH hM';clear hM';replace hS:=Sat.back (m:=mM) 2 rfl hS;simp only[zF,zG] at hS)|(go_at_call 139;(with_reducible refine yI (scollect_any HC.out HP.out HSt.out (hS.pick 1 rfl)) ?_);clear hS;rintro e w ⟨rfl,mS',hSt',hS⟩;have HSt':=yH hSt';clear hSt';replace hS:=Sat.back (m:=mS) 1 rfl hS;simp only[zF,zG] at hS)|(refine aL ?_))
   go_ret;exact⟨rfl,HF.out _ _ _ HSt'.out HM'.out hS⟩
theorem mswap_any{level:Int}{er:Nat}(hm:m.swap level=some (m',er))(hs:Sane m.s)(hpm:G.PermOk m.s)(hlen:∀s0 c,m.s.collect=some (s0,c)->∀v,(s0.tab v).length<=1000000)(hA:MgAt D m p)(hS:Sat E I (p::ms) w) :
  Calls Tryz.prog 84 #[vPt D,.int .i64 level] w λe w'=>e=.returned (nv er)/\∃p',MgAt D m' p'/\Sat E I (p'::ms) w':=by
 unfold G.Mg.swap at hm;cases hc:m.s.swap level with
 | none=>rw[hc] at hm;cases hm
 | some q =>
   obtain⟨s',k'⟩:=q;rw[hc] at hm;simp only[Option.map_some,jEa,jIa] at hm;obtain⟨rfl,rfl⟩:=hm;have hfit:=hA.fit;obtain⟨S,M,H,wv,mS,mM,mH,mW,hSt,hMe,hHs,hW,hS⟩:=hA.open_ hS;have fin:=λ(mS' mM':PH) (w':World) (h1:StAt S s' mS') (h2:Xk M G.Memo.none mM') (h:Sat E I (PH.one D (.cells (Xe S M H (m.next:Int) wv m.calls) 117)::mS'::mM'::mH::mW::ms) w')=>MgAt.close (m:={ m with s:=s',me:=G.Memo.none }) hfit h1 h2 hHs hW h
   have HF:=yH fin;have HM:=yH hMe;have HSt:=yH hSt;have HC:=yH hc;have HP:=yH hs;have HQ:=yH hpm;have HL:=yH hlen;clear fin hMe hSt hc hs hHs hW hfit hA hpm hlen;unfold Xe at hS HF;go_enter Tryz.func84,Tryz.ntmps84;go_wp2_with (first|(go_at_call 122;(with_reducible refine yI (mclear_any HM.out (hS.pick 2 rfl)) ?_);clear hS;rintro e w ⟨rfl,mM',hM',hS⟩;have HM':=yH hM';clear hM';replace hS:=Sat.back (m:=mM) 2 rfl hS;simp only[zF,zG] at hS)|(go_at_call 123;(with_reducible refine yI (sswap_any HC.out HP.out HQ.out HL.out HSt.out (hS.pick 1 rfl)) ?_);clear hS;rintro e w ⟨rfl,mS',hSt',hS⟩;have HSt':=yH hSt';clear hSt';replace hS:=Sat.back (m:=mS) 1 rfl hS;simp only[zF,zG] at hS)|(refine aL ?_))
   go_ret;exact⟨rfl,HF.out _ _ _ HSt'.out HM'.out hS⟩
theorem perm_facts{s:G.St}(h:G.PermOk s):(∀x∈s.vars,x<s.vars.length)/\s.vars.Nodup/\s.vars.length<=64:=⟨h.ordr.lt,h.ordr.nodup,h.le⟩
def evV(ev:G.Ev):Value:=.agg #[.int .i64 ev.after,.int .i64 ev.kind,.int .i64 ev.level]
theorem mhappen1{ev:G.Ev}(he:ev.kind=1){s':G.St}{k:Nat}(hc:m.s.collect=some (s',k))(hs:Sane m.s)(hA:MgAt D m p)(hS:Sat E I (p::ms) w) :
  Calls Tryz.prog 126 #[vPt D,evV ev] w λe w'=>e=.returned (.tuple #[])/\∃p',MgAt D { m with s:=s',me:=G.Memo.none } p'/\Sat E I (p'::ms) w':=by
 have hfit:=hA.fit;obtain⟨S,M,H,wv,mS,mM,mH,mW,hSt,hMe,hHs,hW,hS⟩:=hA.open_ hS;have fin:=λ(s':G.St) (mS' mM':PH) (w':World) (h1:StAt S s' mS') (h2:Xk M G.Memo.none mM') (h:Sat E I (PH.one D (.cells (Xe S M H (m.next:Int) wv m.calls) 117)::mS'::mM'::mH::mW::ms) w')=>MgAt.close (m:={ m with s:=s',me:=G.Memo.none }) hfit h1 h2 hHs hW h
 have HF:=yH fin;have HM:=yH hMe;have HSt:=yH hSt;clear fin hMe hSt hHs hW hfit hA;unfold Xe at hS HF;have HC:=yH hc;have HP:=yH hs.pl;clear hc hs;obtain⟨ea,ek,el⟩:=ev;simp only at he;subst he;unfold evV;go_enter Tryz.func126,Tryz.ntmps126;go_wp2_with (first|(go_at_call 122;(with_reducible refine yI (mclear_any HM.out (hS.pick 3 rfl)) ?_);clear hS;rintro e w ⟨rfl,mM',hM',hS⟩;have HM':=yH hM';clear hM';replace hS:=Sat.back (m:=mM) 3 rfl hS;simp only[zF,zG] at hS)|(go_at_call 139;(with_reducible refine yI (scollect_any HC.out HP.out HSt.out (hS.pick 2 rfl)) ?_);clear hS;rintro e w ⟨rfl,mS',hSt',hS⟩;have HSt':=yH hSt';clear hSt';replace hS:=Sat.back (m:=mS) 2 rfl hS;simp only[zF,zG] at hS)|(refine aN 3 ?_;clear hS;intro X3 w hS)|(refine aL ?_))
 go_end0
 exact⟨rfl,HF.out _ _ _ _ HSt'.out HM'.out hS.drop⟩
theorem mhappen2{ev:G.Ev}(he:ev.kind=2){s':G.St}{k:Nat}(hc:m.s.swap ev.level=some (s',k))(hs:Sane m.s)(hpm:G.PermOk m.s)(hlen:∀s0 c,m.s.collect=some (s0,c)->∀v,(s0.tab v).length<=1000000)(hA:MgAt D m p)(hS:Sat E I (p::ms) w) :
  Calls Tryz.prog 126 #[vPt D,evV ev] w λe w'=>e=.returned (.tuple #[])/\∃p',MgAt D { m with s:=s',me:=G.Memo.none } p'/\Sat E I (p'::ms) w':=by
 have hfit:=hA.fit;obtain⟨S,M,H,wv,mS,mM,mH,mW,hSt,hMe,hHs,hW,hS⟩:=hA.open_ hS;have fin:=λ(s':G.St) (mS' mM':PH) (w':World) (h1:StAt S s' mS') (h2:Xk M G.Memo.none mM') (h:Sat E I (PH.one D (.cells (Xe S M H (m.next:Int) wv m.calls) 117)::mS'::mM'::mH::mW::ms) w')=>MgAt.close (m:={ m with s:=s',me:=G.Memo.none }) hfit h1 h2 hHs hW h
 have HF:=yH fin;have HM:=yH hMe;have HSt:=yH hSt;clear fin hMe hSt hHs hW hfit hA;unfold Xe at hS HF;have HC:=yH hc;have HP:=yH hs;have HQ:=yH hpm;have HL:=yH hlen;clear hc hs hpm hlen;obtain⟨ea,ek,el⟩:=ev;simp only at he;subst he;unfold evV;simp only at HC;go_enter Tryz.func126,Tryz.ntmps126;go_wp2_with (first|(go_at_call 122;(with_reducible refine yI (mclear_any HM.out (hS.pick 3 rfl)) ?_);clear hS;rintro e w ⟨rfl,mM',hM',hS⟩;have HM':=yH hM';clear hM';replace hS:=Sat.back (m:=mM) 3 rfl hS;simp only[zF,zG] at hS)|(refine aN 3 ?_;clear hS;intro X3 w hS)|(refine aL ?_))
 obtain⟨I1,_,lX,hS1,bX⟩:=hS.ice;obtain⟨I2,l2,lD,hS2,bD⟩:=hS1.ice;have iX:I2.at X3 2=some (.int .i64 el):=PH.at_le l2 (PH.at_le lX (Qb rfl));have iD:I2.at D 0=some (vPt S):=PH.at_le lD (Qb rfl);clear lX l2 lD hS1 hS;refine Qf [[],[0],[0,1],[0,1,2],[],[4],[0,1,2,3,4,5]] E I2 _
  [λv _=>v=vPt D,λv _=>v=vPt D,λv _=>v=.pointer (some ⟨D,0,none⟩),λv _=>v=vPt S,λv _=>v=.pointer (some ⟨X3,2,none⟩),λv _=>v=.int .i64 el,λ_ _=>True] [6]
  (set1G _ 0 (λm'=>StAt S s' m')) (by kernel_rfl) (by kernel_rfl) (by decide) hS2 rfl ?last (λ_ _ _ _ _ _ h=>h) (λ_ _ _ _ _ _ h=>h) ?plain ?step ?fin
 case last=>exact bL
 case plain=>(repeat' (first|exact trivial|apply And.intro)) <;> first|exact .inl rfl|(refine .inr ?_;intro s vals J bs w hstop hg hJ hS hG;clear hG;refine bS ?_;intro K HK;(first|(refine bJ ?_)|(go_wp2_with (fail)));exact bO)
 case step =>
  refine⟨trivial,?_⟩;intro vals J bs w hg hJ hS hG;have hG:bs=_:=hG;subst hG;refine bS ?_;intro K HK;go_wp2_with (first|(go_at_call 123;(with_reducible refine yI (sswap_any HC.out HP.out HQ.out HL.out HSt.out hS) ?_);clear hS;rintro e w ⟨rfl,mS',hSt',hS⟩;have HSt':=yH hSt';clear hSt'))
  exact HK.out _ _ ⟨rfl,J,_,PH.le.refl _,hS,trivial,mS',HSt'.out,rfl⟩
 case fin =>
  intro vals J9 bs w hJ hg hS hG;obtain⟨mS',hSt',hns⟩:=hG;subst hns;have hS:=hS.less hJ;simp only[zG] at hS;have hS:=bX _ _ (bD _ _ hS);have HSt':=yH hSt';clear hSt' hJ bX bD;refine bH ?_;clear hg iX iD;go_wp2_with fail
  go_end0
  exact⟨rfl,HF.out _ _ _ _ HSt'.out HM'.out hS.drop⟩
end
end
section
open Go.RowKit
theorem mhappen3{P:G.Mg->Prop}(hK:KeepsM P){E w:World}{I p:PH}{ms:List PH}{D:Nat}{m:G.Mg}(hP:P m){ev:G.Ev}(he1:ev.kind≠1)(he2:ev.kind≠2){s':G.St}(hc:m.s.swaps (G.stepsP 0 m.s.vars.reverse m.s.vars)=some s')(hA:MgAt D m p)(hS:Sat E I (p::ms) w) :
  Calls Tryz.prog 126 #[vPt D,evV ev] w λe w'=>e=.returned (.tuple #[])/\∃p',MgAt D { m with s:=s',me:=G.Memo.none } p'/\Sat E I (p'::ms) w':=by
 have hfit:=hA.fit;obtain⟨S,M,H,wv,mS,mM,mH,mW,hSt,hMe,hHs,hW,hS⟩:=hA.open_ hS;have fin:=λ(s':G.St) (mS' mM':PH) (w':World) (h1:StAt S s' mS') (h2:Xk M G.Memo.none mM') (h:Sat E I (PH.one D (.cells (Xe S M H (m.next:Int) wv m.calls) 117)::mS'::mM'::mH::mW::ms) w')=>MgAt.close (m:={ m with s:=s',me:=G.Memo.none }) hfit h1 h2 hHs hW h
 obtain⟨pf1,pf2,pf3⟩:=perm_facts (hK.pm _ hP);have HF:=yH fin;have HM:=yH hMe;have HSt:=yH hSt;have HKP:=yH hK;have HP:=yH (hK.clear _ hP);have HC:=yH hc;have HO:=yH (λ(w:World) (h:StR (Qa w) S m.s) (ms':List PH) (hE:Sat E I ms' w)=>sorder_any h hE);have HT:=yH (λ(w:World) (v:Value) (h:NumR (Qa w) v m.s.vars)=>pturn_any h (by omega));have HSp:=yH (λ(w:World) (va vb:Value) (ha:NumR (Qa w) va m.s.vars) (hb:NumR (Qa w) vb m.s.vars.reverse)=>psteps_any ha hb (by simp) (by simpa using pf3) pf1 pf2 (by simpa using pf1) (List.pairwise_reverse.2 (pf2.imp λh=>Ne.symm h)) (by simp));have HNr:=yH (λ(A:Option Addr) (c:Nat) (mT:PH) (h:OwnP mT 3 1 (.slice A m.s.vars.length c) m.s.vars.length (m.s.vars.reverse.flatMap ivC))=>OwnP.numN h (by simp));have hlen:=steps_len m.s.vars.reverse 0 m.s.vars m.s.vars.length rfl (by simp) (by simp);have hlen2:(G.stepsP 0 m.s.vars.reverse m.s.vars).length<=4096:=by
  have:m.s.vars.reverse.length*m.s.vars.length<=64*64:=Nat.mul_le_mul (by simpa using pf3) pf3;omega
 clear fin hMe hSt hHs hW hfit hA hK hP hc pf1 pf2 pf3 hlen;generalize G.stepsP 0 m.s.vars.reverse m.s.vars=l at *
 unfold Xe at hS HF;obtain⟨ea,ek,el⟩:=ev;simp only at he1 he2;unfold evV;have d1:(ek==1)=false:=by simpa using he1
 have d2:(ek==2)=false:=by simpa using he2
 clear he1 he2;go_enter Tryz.func126,Tryz.ntmps126;go_wp2_with (first|(go_at_call 122;(with_reducible refine yI (mclear_any HM.out (hS.pick 3 rfl)) ?_);clear hS;rintro e w ⟨rfl,mM',hM',hS⟩;have HM':=yH hM';clear hM';replace hS:=Sat.back (m:=mM) 3 rfl hS;simp only[zF,zG] at hS)|(go_at_call 57;(with_reducible refine yI (HO.out _ (HSt.out.read.le (hS.mle (k:=2) rfl)) _ hS) ?_);clear hS;rintro e w ⟨vO,mO,rfl,hO,hS⟩;have HOo:=yH hO;clear hO)|(go_at_call 151;(with_reducible refine yI (HT.out _ _ ((OwnP.num HOo.out).le (hS.mle (k:=0) rfl))) ?_);rintro e w ⟨X,mT,rfl,hT,hg⟩;replace hS:=hS.graft hg;have HTt:=yH hT;clear hT hg)|(go_at_call 150;(with_reducible refine yI (HSp.out _ _ _ ((OwnP.num HOo.out).le (hS.mle (k:=1) rfl)) ((HNr.out _ _ _ HTt.out).le (hS.mle (k:=0) rfl))) ?_);rintro e w ⟨vL,mL,rfl,hL,hg⟩;replace hS:=hS.graft hg;clear hg;refine Veil.out ?_;obtain⟨A,cp,rfl,_⟩:=OwnP.shape hL;refine⟨?_⟩;have HL:=yH hL;clear hL)|(refine aN 3 ?_;clear hS;intro X3 w hS)|(refine aL ?_))
 obtain⟨J,lJ,mJ,hS2,_⟩:=hS.ice;have hNl:NumR J (.slice A l.length cp) l:=(OwnP.num HL.out).le mJ;have HNl:=yH hNl.2;have hS3:=hS2.drop.drop;have HJ:=yH lJ;clear hS hS2 lJ mJ hNl HL HTt HOo HO HT HSp HNr;have hS:=hS3;clear hS3;generalize hT:l.length=T at *
 have HTl:=yH hT;clear hT;go_loopw [30] (λv30 wr=>∃(i:Nat) (s1:G.St) (mS1:PH),i<=T/\v30=.int .i64 (i:Int)/\P { m with s:=s1,me:=G.Memo.none }/\s1.swaps (l.drop i)=some s'/\StAt S s1 mS1/\Sat E J (PH.one X3 (.cells #[.int .i64 ea,.int .i64 ek,.int .i64 el] 85)::PH.one D (.cells #[vPt S,vPt M,.map (some H),.int .i64 (m.next:Int),wv,.int .i64 m.calls] 117)::mS1::mM'::mH::mW::ms) wr) (λv30 _=>(T-intOf v30).toNat)
 case atStart=>exact⟨0,m.s,mS,jC _,rfl,HP.out,HC.out,HSt.out,hS⟩
 case round =>
  clear hS HP HC HSt;obtain⟨i,s1,mS1,hi,rfl,hP1,hsw,hSt1,hS⟩:=hrel;by_cases hlt:i<T
  . obtain⟨x,hx⟩:∃x,l[i]?=some x:=⟨_,yA (by rw[HTl.out];exact hlt)⟩
    obtain⟨Y,c',hY,hcell⟩:=HNl.out (by omega);injection hY with hA hB hC
    subst hA hC;have hcell:=hcell i _ hx;have hdr:l.drop i=x::l.drop (i+1):=by
     rw[jL (by rw[HTl.out];exact hlt)];congr 1
     have:=yA (l:=l) (i:=i) (by rw[HTl.out];exact hlt);rw[hx] at this;injection this with this
     exact this.symm
    rw[hdr,G.St.swaps] at hsw;cases hq:s1.swap (x:Int) with
    | none=>rw[hq] at hsw;cases hsw
    | some q =>
      obtain⟨s2,e2⟩:=q;rw[hq] at hsw;simp only[zK] at hsw;have hP2:=HKP.out.swap _ _ _ _ hP1 hq;have HSw:=yH (λ(w:World) (ms':List PH) (h:Sat E J (mS1::ms') w)=>sswap_any hq (HKP.out.sane _ hP1) (HKP.out.pm _ hP1) (HKP.out.len _ hP1) hSt1 h);have HN:=yH (And.intro hP2 hsw);have hiN:(i:Int)<(T:Int):=by omega
      clear hq hsw hP1 hP2 hdr hx hSt1;go_wp2_with (first|(go_at_call 123;(with_reducible refine bD (HSw.out _ _ (hS.pick 2 rfl)) ?_);clear hS;intro w mS2 HSt2 hS;replace hS:=Sat.back (m:=mS1) 2 rfl hS;simp only[zF,zG] at hS)|(refine aL ?_))
      exact⟨⟨i+1,s2,mS2,by omega,by go_num,HN.out.1,HN.out.2,HSt2.out,hS⟩,by simp[intOf];omega⟩
  . obtain rfl:i=T:=by omega
    have he:l.drop i=[]:=kAb (by rw[HTl.out];exact jBb _);rw[he,G.St.swaps] at hsw;cases hsw;have HS1:=yH hSt1;clear he hP1 hSt1;go_wp2_with fail
    go_end0
    exact⟨rfl,HF.out _ _ _ _ HS1.out HM'.out (hS.less HJ.out).drop⟩
theorem mhappen_any{P:G.Mg->Prop}(hK:KeepsM P){E w:World}{I p:PH}{ms:List PH}{D:Nat}{m m':G.Mg}(hP:P m){ev:G.Ev}(hm:m.happen ev=some m')(hA:MgAt D m p)(hS:Sat E I (p::ms) w) :
  Calls Tryz.prog 126 #[vPt D,evV ev] w λe w'=>e=.returned (.tuple #[])/\∃p',MgAt D m' p'/\Sat E I (p'::ms) w':=by
 unfold G.Mg.happen at hm;by_cases h1:ev.kind=1
 . rw[jAb h1] at hm
   cases hc:m.s.collect with
   | none=>rw[hc] at hm;cases hm
   | some q =>
     rw[hc] at hm;cases hm;exact mhappen1 h1 hc (hK.sane _ hP) hA hS
 . rw[jAa h1] at hm
   by_cases h2:ev.kind=2
   . rw[jAb h2] at hm
     cases hc:m.s.swap ev.level with
     | none=>rw[hc] at hm;cases hm
     | some q =>
       rw[hc] at hm;cases hm;exact mhappen2 h2 hc (hK.sane _ hP) (hK.pm _ hP) (hK.len _ hP) hA hS
   . rw[jAa h2] at hm
     cases hc:m.s.swaps (G.stepsP 0 m.s.vars.reverse m.s.vars) with
     | none=>rw[hc] at hm;cases hm
     | some s' =>
       rw[hc] at hm;cases hm;exact mhappen3 hK hP h1 h2 hc hA hS
theorem KeepsM.swaps{P:G.Mg->Prop}(hK:KeepsM P):∀(l:List Nat) (m:G.Mg) (s':G.St),P { m with me:=G.Memo.none }->m.s.swaps l=some s'->P { m with s:=s',me:=G.Memo.none }
 | [],m,s',hP,h=>by cases h;exact hP
 | k::l,m,s',hP,h=>by
   rw[G.St.swaps] at h;cases hq:m.s.swap (k:Int) with
   | none=>rw[hq] at h;cases h
   | some q =>
     obtain⟨s2,e2⟩:=q;rw[hq] at h
     have:=hK.swap _ s2 k e2 hP hq;exact hK.swaps l { m with s:=s2,me:=G.Memo.none } s' this h
theorem KeepsM.happen{P:G.Mg->Prop}(hK:KeepsM P){m m':G.Mg}(hP:P m){ev:G.Ev}(hm:m.happen ev=some m'):P m':=by
 unfold G.Mg.happen at hm;by_cases h1:ev.kind=1
 . rw[jAb h1] at hm
   cases hc:m.s.collect with
   | none=>rw[hc] at hm;cases hm
   | some q =>
     rw[hc] at hm;cases hm;exact hK.coll _ _ _ hP hc
 . rw[jAa h1] at hm
   by_cases h2:ev.kind=2
   . rw[jAb h2] at hm
     cases hc:m.s.swap ev.level with
     | none=>rw[hc] at hm;cases hm
     | some q =>
       rw[hc] at hm;cases hm;exact hK.swap _ _ _ _ hP hc
   . rw[jAa h2] at hm
     cases hc:m.s.swaps (G.stepsP 0 m.s.vars.reverse m.s.vars) with
     | none=>rw[hc] at hm;cases hm
     | some s' =>
       rw[hc] at hm;cases hm;exact hK.swaps _ m s' (hK.clear _ hP) hc
end
section
open Go.RowKit
def sideE{α:Type}(P:PH->Prop)(Q:α->PH->Prop):G.Rs α->PH->Prop
 | .ok a,q=>Q a q
 | .stop _,q=>P q
def tryE{α:Type}:G.Rs α->Value
 | .ok _=>.tuple #[.agg #[.int .i64 0,.bool false,.int .i64 0,.int .i64 0,.int .i64 0],.bool true]
 | .stop s=>.tuple #[stopV s,.bool false]
structure OpC {α:Type} (fid:Nat) (cs:Array Value) (D:Nat) (J0:PH) (Inv:G.Mg->Prop) (F:G.Mg->G.Step α) (ret:α->Value) (P:PH->Prop) (Q:α->PH->Prop):Prop where
 enter:∀(args:Array Value) (w:World),(callFunc fid args).run Tryz.prog w=.ok (.enter fid args) w
 run:∀(E:World) (I p q:PH) (ms:List PH) (w:World) (m m':G.Mg) (rs:G.Rs α) (X:Nat),J0.le I->Inv m->F m=some (m',rs)->I.at X 0=some (vPt D)->MgAt D m p->P q->Sat E I (p::q::ms) w ->
  Calls Tryz.prog fid (#[vPt X]++cs) w λe w'=>e=Yl ret rs/\∃p' q',MgAt D m' p'/\sideE P Q rs q'/\Sat E I (p'::q'::ms) w'
theorem tcatch_idle{E:World}{I:PH}{ms:List PH}{X4 X5:Nat}{w:World}(hS:Sat E I (PH.one X5 (.cells #[.bool true] 4)::ms) w) :
  CallsD Tryz.prog 149 #[vPt X5,vPt X4] .returning w λe u' w'=>e=.returned (.tuple #[])/\u'=.returning/\w'=w:=by
 refine callsD_of_wpS Tryz.func149 rfl λc₀ cs hu=>?_
 simp only[Tryz.ntmps149,jS,yB,yC,Nat.reduceAdd,Nat.reduceSub,kDb,Array.replicate_zero,kK,kF,List.nil_append,List.cons_append];have c5:w.cell? ⟨X5,0,none⟩=some (.bool true):=hS.cell_of (.head _) 0;apply wpS_seq;apply wpS_seq;apply wpS_region;simp[wpOpsS,go_sem,Exit.thenS,c5]
 refine wpS_cond (t:=true) (by simp[Act.eval]) ?_;simp only[jEb];refine wpS_of_wp ?_;go_wp2_with fail
 cases c₀
 simp_all[bodyPostS,results,Exit.thenS,Tryz.results149]
theorem tcatch_stop{E:World}{I:PH}{ms:List PH}{X4 X5:Nat}{c0 c1 c2 c3 c4:Value}{w:World}(s:G.Stop)(hS:Sat E I (PH.one X5 (.cells #[.bool false] 4)::PH.one X4 (.cells #[c0,c1,c2,c3,c4] 154)::ms) w) :
  CallsD Tryz.prog 149 #[vPt X5,vPt X4] (.panicking (stopE s)) w λe u' w'=>e=.returned (.tuple #[])/\u'=.panicking [{ v:=.iface 154 (stopV s),recovered:=true }]/\Sat E I (PH.one X5 (.cells #[.bool false] 4)::PH.one X4 (.cells (stopV s).cells 154)::ms) w':=by
 rcases s with er|ev
 . unfold stopE stopV
   have hta:∀w:World,(Instr.typeAssert (.iface 154 (.agg #[nv er,.bool false,.int .i64 0,.int .i64 0,.int .i64 0])) 20 154 true).run Tryz.prog w=.ok (.tuple #[.agg #[nv er,.bool false,.int .i64 0,.int .i64 0,.int .i64 0],.bool true]) w:=λ_=>by kernel_rfl
   refine callsD_of_wpS Tryz.func149 rfl λc₀ cs hu=>?_
   simp only[Tryz.ntmps149,jS,yB,yC,Nat.reduceAdd,Nat.reduceSub,kDb,Array.replicate_zero,kK,kF,List.nil_append,List.cons_append];have c5:w.cell? ⟨X5,0,none⟩=some (.bool false):=hS.cell_of (.head _) 0;apply wpS_seq;apply wpS_seq;apply wpS_region;simp[wpOpsS,go_sem,Exit.thenS,c5]
   refine wpS_cond (t:=false) (by simp[Act.eval]) ?_;simp only[jFa,jOb];refine wpS_of_wp ?_;refine wp_skip ?_;simp only[Exit.thenS];apply wpS_seq;apply wpS_region;simp[wpOpsS,go_sem,recoverD,hu,Exit.thenS]
   refine wpS_of_wp ?_;go_wp2_with (first|(refine aN 3 ?_;clear hS;intro X3 w hS)|(refine aL ?_)|(refine aS ?_;clear hS;intro w hS))
   simp[bodyPostS,results,Tryz.results149]
   exact hS.drop
 . unfold stopE stopV
   have hta:∀w:World,(Instr.typeAssert (.iface 154 (.agg #[.int .i64 0,.bool true,.int .i64 ev.after,.int .i64 ev.kind,.int .i64 ev.level])) 20 154 true).run Tryz.prog w=.ok (.tuple #[.agg #[.int .i64 0,.bool true,.int .i64 ev.after,.int .i64 ev.kind,.int .i64 ev.level],.bool true]) w:=λ_=>by kernel_rfl
   refine callsD_of_wpS Tryz.func149 rfl λc₀ cs hu=>?_
   simp only[Tryz.ntmps149,jS,yB,yC,Nat.reduceAdd,Nat.reduceSub,kDb,Array.replicate_zero,kK,kF,List.nil_append,List.cons_append];have c5:w.cell? ⟨X5,0,none⟩=some (.bool false):=hS.cell_of (.head _) 0;apply wpS_seq;apply wpS_seq;apply wpS_region;simp[wpOpsS,go_sem,Exit.thenS,c5]
   refine wpS_cond (t:=false) (by simp[Act.eval]) ?_;simp only[jFa,jOb];refine wpS_of_wp ?_;refine wp_skip ?_;simp only[Exit.thenS];apply wpS_seq;apply wpS_region;simp[wpOpsS,go_sem,recoverD,hu,Exit.thenS]
   refine wpS_of_wp ?_;go_wp2_with (first|(refine aN 3 ?_;clear hS;intro X3 w hS)|(refine aL ?_)|(refine aS ?_;clear hS;intro w hS))
   simp[bodyPostS,results,Tryz.results149]
   exact hS.drop
section
variable{P:Program} {fn:Func} {R:Ending->World->Prop} {a:Act} {w:World} {v:Value} {fv:Fn} {cap dargs:Array Value} {f:FuncId} {args:Array Value}
theorem postD_idle(hd:a.defers=[{ target:=.fn fv cap,args:=dargs }])(hi:(invoke (.fn fv cap) dargs).run P w=.ok (.enter f args) w)
  (hc:CallsD P f args .returning w λe u' w'=>e=.returned (.tuple #[])/\u'=.returning/\w'=w)(h:(results fn a.tmps).run P w=.ok v w)(hR:R (.returned v) w):bodyPostD P fn R .ret a w:=by
 show Leaves P fn a.tmps R a.defers .returning w
 rw[hd];refine leaves_cons (by simp) hi (hc.mono ?_);rintro e u' w' ⟨rfl,rfl,rfl⟩;exact⟨v,h,hR⟩
theorem postD_caught{chain:List PanicEntry}{pe:PanicEntry}{S:World->Prop}(hd:a.defers=[{ target:=.fn fv cap,args:=dargs }])(hi:(invoke (.fn fv cap) dargs).run P w=.ok (.enter f args) w)
  (hc:CallsD P f args (.panicking chain) w λe u' w'=>e=.returned (.tuple #[])/\u'=.panicking [{ v:=pe.v,recovered:=true }]/\S w')(h:∀w',S w'->∃v,(results fn a.tmps).run P w'=.ok v w'/\R (.returned v) w'):bodyPostD P fn R (.panic chain) a w:=by
 show Leaves P fn a.tmps R a.defers (.panicking chain) w
 rw[hd];refine leaves_cons (by simp) hi (hc.mono ?_);rintro e u' w' ⟨rfl,rfl,hS⟩;exact h w' hS
end
theorem ret_cellN1{P:Program}{fn:Func}{p q:Tmp}{T U:TypeId}{tmps:Array Value}{w E:World}{I:PH}{ms:List PH}(k l:Nat)(hS:Sat E I ms w)(h:fn.results = #[.cell p T,.cell q U]){X Y:Nat}{c d:Array Value}{T' U':TypeId}{z y:Nat×Nat}{u:Value}
  (hp:tmps.getD p undef=.pointer (some ⟨X,0,none⟩))(hq:tmps.getD q undef=.pointer (some ⟨Y,0,none⟩))(hk:ms[k]?=some (PH.one X (.cells c T' z)))(hl:ms[l]?=some (PH.one Y (.cells d U' y)))
  (ha:Ky P T=some true)(hsz:Kg P T=some c.size)(hb:Ky P U=some false)(hu:d.toList[0]?=some u):(results fn tmps).run P w=.ok (.tuple #[.agg c,u]) w:=by
 have h0:=run_loadN (P:=P) (hS.mle hk) ha (Cells.one X c T' z) (by rw[hsz];simp);have h1:=run_load1 (P:=P) (hS.mle hl) hb (X:=Y) (off:=0) (v:=u) (by simp only[PH.at,PH.one_self];rw[<- hu];simp);simp only[Instr.loadAt,Instr.sureAddr,Sem.run_bind,Sem.run_pure,Result.andThen_ok] at h0 h1;rw[zD] at hp hq;simp[results,h,hp,hq,asAddr,h0,h1]
theorem stop_size(s:G.Stop):(stopV s).cells.size=5:=by cases s <;> rfl
theorem stop_agg(s:G.Stop):Value.agg (stopV s).cells=stopV s:=by cases s <;> rfl
theorem OpC.box{α:Type}{fid D:Nat}{cs:Array Value}{J0:PH}{Inv:G.Mg->Prop}{F:G.Mg->G.Step α}{ret:α->Value}{P:PH->Prop}{Q:α->PH->Prop}(hop:OpC fid cs D J0 Inv F ret P Q)
  {E w:World}{I p q:PH}{ns:List PH}{m m':G.Mg}{rs:G.Rs α}{X:Nat}(hJ0:J0.le I)(hI:Inv m)(hF:F m=some (m',rs))(hA:MgAt D m p)(hq:P q)(hS:Sat E I (PH.one X (.cells #[vPt D] 151)::p::q::ns) w) :
  Calls Tryz.prog fid (#[vPt X]++cs) w λe w'=>e=Yl ret rs/\∃p' q',MgAt D m' p'/\sideE P Q rs q'/\Sat E I (PH.one X (.cells #[vPt D] 151)::p'::q'::ns) w':=by
 obtain⟨J,lJ,mJ,hS2,back⟩:=hS.ice;refine (hop.run E J p q ns w m m' rs X (hJ0.trans lJ) hI hF (PH.at_le mJ (Qb rfl)) hA hq hS2).mono ?_;rintro e w' ⟨he,p',q',h1,h2,h3⟩;exact⟨he,p',q',h1,h2,back _ _ h3⟩
theorem perm_5(a b c p q:PH)(ms:List PH):List.Perm (a::b::c::p::q::ms) (a::p::q::b::c::ms):=by
 refine List.Perm.cons _ ?_;have h1:List.Perm (b::c::p::q::ms) ([b,c]++([p,q]++ms)):=.refl _;have h2:List.Perm ([b,c]++([p,q]++ms)) ([p,q]++([b,c]++ms)):=by
  rw[<- jE,<- jE];exact List.Perm.append_right _ jIb
 exact h1.trans h2
theorem mtry_any{α:Type}{fid D:Nat}{cs:Array Value}{J0:PH}{Inv:G.Mg->Prop}{F:G.Mg->G.Step α}{P:PH->Prop}{Q:α->PH->Prop}(hop:OpC fid cs D J0 Inv F (λ_=>.tuple #[]) P Q)
  {E w:World}{I p q:PH}{ms:List PH}{m m':G.Mg}{rs:G.Rs α}(hJ0:J0.le I)(hI:Inv m)(hF:F m=some (m',rs))(hA:MgAt D m p)(hq:P q)(hS:Sat E I (p::q::ms) w) :
  Calls Tryz.prog 125 #[vPt D,.func (.func fid) #[] cs] w λe w'=>e=.returned (tryE rs) /\
   ∃p' q',MgAt D m' p'/\sideE P Q rs q'/\Sat E I (p'::q'::ms) w':=by
 have hent:=hop.enter;have HO:=yH (λ(X:Nat) (ns:List PH) (w:World) (h:Sat E I (PH.one X (.cells #[vPt D] 151)::p::q::ns) w)=>hop.box hJ0 hI hF hA hq h);clear hop hJ0 hI hF hA hq;have hmf:∀(fn:Fn) (first cap:Array Value) (w:World),(Instr.makeFunc fn first cap).run Tryz.prog w=.ok (.func fn first cap) w:=λ_ _ _ _=>rfl
 cases rs with
 | ok a =>
   simp only[Yl] at HO
   go_enter_defers Tryz.func125,Tryz.ntmps125
   go_wp2_with (first|((with_reducible refine yI (HO.out _ _ _ (hS.perm (perm_5 _ _ _ _ _ _))) ?_);clear hS;rintro e w ⟨rfl,p1,q1,hA1,hQ1,hS1⟩;have hS:=hS1.perm (perm_5 _ _ _ _ _ _);clear hS1)|(refine aN 4 ?_;clear hS;intro X4 w hS)|(refine aN 5 ?_;clear hS;intro X5 w hS)|(refine aN 10 ?_;clear hS;intro X10 w hS)|(refine aS ?_;clear hS;intro w hS))
   refine postD_idle rfl (f:=149) (args := #[vPt X5,vPt X4]) (by simp[go_sem]) (tcatch_idle (hS.pick 1 rfl)) (ret_cellN1 2 1 hS rfl rfl rfl rfl rfl ty_agg154 ty_sz154 ty_agg4 rfl) ?_;exact⟨rfl,p1,q1,hA1,hQ1,hS.drop.drop.drop⟩
 | stop s =>
   simp only[Yl] at HO
   go_enter_defers Tryz.func125,Tryz.ntmps125
   go_wp2_with (first|((with_reducible refine yI (HO.out _ _ _ (hS.perm (perm_5 _ _ _ _ _ _))) ?_);clear hS;rintro e w ⟨rfl,p1,q1,hA1,hQ1,hS1⟩;have hS:=hS1.perm (perm_5 _ _ _ _ _ _);clear hS1)|(refine aN 4 ?_;clear hS;intro X4 w hS)|(refine aN 5 ?_;clear hS;intro X5 w hS)|(refine aN 10 ?_;clear hS;intro X10 w hS))
   refine postD_caught rfl (f:=149) (args := #[vPt X5,vPt X4]) (pe:={ v:=.iface 154 (stopV s),recovered:=false }) (by simp[go_sem]) (tcatch_stop s hS.drop) ?_;intro w' hS;refine⟨_,ret_cellN1 1 0 hS rfl rfl rfl rfl rfl ty_agg154 (by rw[stop_size];exact ty_sz154) ty_agg4 rfl,?_⟩;exact⟨by rw[stop_agg];rfl,p1,q1,hA1,hQ1,hS.drop.drop⟩
end
section
open Go.RowKit
def runE{α:Type}:α ⊕ Nat->Value
 | .inl _=>.int .i64 0
 | .inr e=>nv e
def sideR{α:Type}(P:PH->Prop)(Q:α->PH->Prop):α ⊕ Nat->PH->Prop
 | .inl a,q=>Q a q
 | .inr _,q=>P q
theorem isLoadT(T:TypeId){P:Program}{a:Act}{w:World}{Q:Exit->Act->World->Prop}{ops:Array Oper}{rest:List Oper}{dst:Option Tmp}{type:TypeId}{pos:String}{after:Array Edge}{x:Operand}{g:Option (Nat×Bool)}(h:wpList P ops Q (⟨dst,.load T x,type,pos,after,g⟩::rest) a w):wpList P ops Q (⟨dst,.load T x,type,pos,after,g⟩::rest) a w:=h
theorem ev_mid(X:Nat)(a b c d e:Value)(T:TypeId):Cells (PH.one X (.cells #[a,b,c,d,e] T (0,0))) X 2 [c,d,e]:=by
 have:=(Cells.one X #[a,b,c,d,e] T (0,0)).part 2 3;exact this
theorem run_succ{α:Type}(F:G.Mg->G.Step α)(k:Nat)(room:Bool)(m:G.Mg):G.Mg.run F (k+1) room m=match F m with
 | none=>none
 | some (m',.ok a)=>some (m',.inl a)
 | some (m',.stop (.event ev))=>(m'.happen ev).bind (G.Mg.run F k false)
 | some (m',.stop (.err e))=>if e=7/\room=false then m'.collect.bind λ(m'',_)=>G.Mg.run F k true m'' else some (m',.inr e):=rfl
theorem mrun_any{α:Type}{fid D:Nat}{cs:Array Value}{J0:PH}{Inv:G.Mg->Prop}{F:G.Mg->G.Step α}{P:PH->Prop}{Q:α->PH->Prop}(hop:OpC fid cs D J0 Inv F (λ_=>.tuple #[]) P Q)(hK:KeepsM Inv)(hstep:∀m m' rs,Inv m->F m=some (m',rs)->Inv m')
  {E w:World}{I p q:PH}{ms:List PH}{m m':G.Mg}{k:Nat}{res:α ⊕ Nat}(hJ0:J0.le I)(hI:Inv m)(hm:G.Mg.run F k false m=some (m',res))(hA:MgAt D m p)(hq:P q)(hS:Sat E I (p::q::ms) w) :
  Calls Tryz.prog 92 #[vPt D,.func (.func fid) #[] cs] w λe w'=>e=.returned (runE res)/\∃p' q',MgAt D m' p'/\sideR P Q res q'/\Sat E I (p'::q'::ms) w':=by
 have HT:=yH (λ(m m1:G.Mg) (rs:G.Rs α) (p q:PH) (w:World) (hI:Inv m) (hF:F m=some (m1,rs)) (hA:MgAt D m p) (hq:P q) (hS:Sat E I (p::q::ms) w)=>mtry_any hop hJ0 hI hF hA hq hS);have HK:=yH hK;have HSt:=yH hstep;have HI:=yH hI;have HM:=yH hm;have HA:=yH hA;have Hq:=yH hq;clear hop hK hstep hI hm hA hq hJ0;go_enter Tryz.func92,Tryz.ntmps92;go_wp2_with fail
 go_loopg [5] k (λk v5 wr=>∃(room:Bool) (m:G.Mg) (p q:PH),v5=.bool room/\Inv m/\G.Mg.run F k room m=some (m',res)/\MgAt D m p/\P q/\Sat E I (p::q::ms) wr)
 case atStart=>exact⟨false,m,p,q,rfl,HI.out,HM.out,HA.out,Hq.out,hS⟩
 case round =>
  clear hS HI HM HA Hq;obtain⟨room,m1,p,q,rfl,hI,hm,hA,hq,hS⟩:=hrel;cases gk with
  | zero=>cases hm
  | succ k =>
    rw[run_succ] at hm;cases hF:F m1 with
    | none=>rw[hF] at hm;cases hm
    | some x =>
      obtain⟨m2,rs⟩:=x;rw[hF] at hm;have H1:=yH (λ(w:World) (h:Sat E I (p::q::ms) w)=>HT.out m1 m2 rs p q w hI hF hA hq h);have hI2:=HSt.out _ _ _ hI hF;clear hF hA hq hI HT;cases rs with
      | ok a =>
        cases hm;simp only[tryE,sideE] at H1;go_wp2_with (first|(go_at_call 125;(with_reducible refine yI (H1.out _ hS) ?_);clear hS;rintro e w ⟨rfl,p1,q1,hA1,hQ1,hS⟩;have HA1:=yH hA1;have HQ1:=yH hQ1;clear hA1 hQ1)|(refine aN 6 ?_;clear hS;intro X6 w hS)|(refine aS ?_;clear hS;intro w hS))
        go_ret;exact⟨rfl,p1,q1,HA1.out,HQ1.out,hS.drop⟩
      | stop st =>
        cases st with
        | event ev =>
          simp only at hm;cases hh:m2.happen ev with
          | none=>rw[hh] at hm;cases hm
          | some m3 =>
            rw[hh] at hm;simp only[zK] at hm;have H2:=yH (λ(p:PH) (ms':List PH) (w:World) (hA:MgAt D m2 p) (h:Sat E I (p::ms') w)=>mhappen_any HK.out hI2 hh hA h);have hI3:=HK.out.happen hI2 hh;have HI3:=yH hI3;have HM:=yH hm;clear hh hI2 hI3 hm;obtain⟨ea,ek,el⟩:=ev;simp only[tryE,stopV,sideE] at H1;simp only[evV] at H2;go_wp2_with (first|(go_at_call 125;(with_reducible refine yI (H1.out _ hS) ?_);clear hS;rintro e w ⟨rfl,p1,q1,hA1,hQ1,hS⟩;have HA1:=yH hA1;have HQ1:=yH hQ1;clear hA1 hQ1)|((with_reducible refine isLoadT 85 ?_);refine ldPN (hS.mle (k:=0) rfl) rfl rfl ty_agg85 rfl (ev_mid _ _ _ _ _ _ _) ty_sz85 ?_;refine aM ?_)|(go_at_call 126;(with_reducible refine bD (H2.out _ _ _ HA1.out (hS.pick 1 rfl)) ?_);clear hS;intro w p2 HA2 hS;replace hS:=Sat.back (m:=p1) 1 rfl hS;simp only[zF,zG] at hS)|(refine aN 6 ?_;clear hS;intro X6 w hS)|(refine aL ?_)|(refine aS ?_;clear hS;intro w hS))
            go_roundg k
            case measure=>exact kIb k
            case rel=>exact⟨false,m3,p2,q1,rfl,HI3.out,HM.out,HA2.out,HQ1.out,hS.drop⟩
        | err er =>
          simp only at hm;simp only[tryE,stopV,sideE] at H1;by_cases hr:er=7/\room=false
          . rw[jAb hr] at hm
            obtain⟨rfl,rfl⟩:=hr;cases hh:m2.collect with
            | none=>rw[hh] at hm;cases hm
            | some x =>
              obtain⟨m3,kk⟩:=x;rw[hh] at hm;simp only[zK] at hm;have H2:=yH (λ(p:PH) (ms':List PH) (w:World) (hA:MgAt D m2 p) (h:Sat E I (p::ms') w)=>mcollect_any hh (HK.out.sane _ hI2) hA h);have hI3:Inv m3:=by
               unfold G.Mg.collect at hh;cases hc:m2.s.collect with
               | none=>rw[hc] at hh;cases hh
               | some y=>rw[hc] at hh;cases hh;exact HK.out.coll _ _ _ hI2 hc
              have HI3:=yH hI3;have HM:=yH hm;clear hh hI2 hI3 hm;go_wp2_with (first|(go_at_call 125;(with_reducible refine yI (H1.out _ hS) ?_);clear hS;rintro e w ⟨rfl,p1,q1,hA1,hQ1,hS⟩;have HA1:=yH hA1;have HQ1:=yH hQ1;clear hA1 hQ1)|(go_at_call 127;(with_reducible refine bD (H2.out _ _ _ HA1.out (hS.pick 1 rfl)) ?_);clear hS;intro w p2 HA2 hS;replace hS:=Sat.back (m:=p1) 1 rfl hS;simp only[zF,zG] at hS)|(refine aN 6 ?_;clear hS;intro X6 w hS)|(refine aG ?_)|(refine aL ?_)|(refine aS ?_;clear hS;intro w hS))
              go_roundg k
              case measure=>exact kIb k
              case rel=>exact⟨true,m3,p2,q1,rfl,HI3.out,HM.out,HA2.out,HQ1.out,hS.drop⟩
          . rw[jAa hr] at hm
            cases hm;have dn:((er:Int)==7)=false\/(((er:Int)==7)=true/\room=true):=by
             by_cases e1:er=7
             . refine .inr ⟨by simp only[jRb];omega,?_⟩
               cases room with
               | true=>rfl
               | false=>exact absurd ⟨e1,rfl⟩ hr
             . exact .inl (by simp;omega)
            clear hr;rcases dn with d1|⟨d1,rfl⟩
            all_goals
             go_wp2_with (first|(go_at_call 125;(with_reducible refine yI (H1.out _ hS) ?_);clear hS;rintro e w ⟨rfl,p1,q1,hA1,hQ1,hS⟩;have HA1:=yH hA1;have HQ1:=yH hQ1;clear hA1 hQ1)|(refine aN 6 ?_;clear hS;intro X6 w hS)|(refine aG ?_)|(refine aL ?_)|(refine aS ?_;clear hS;intro w hS))
             go_ret;exact⟨rfl,p1,q1,HA1.out,HQ1.out,hS.drop⟩
end
end Go.Proofs.YtidamcdklgfogaaGreat
