import Derived.Test.YtidamcdklgfogaaGreatUbd
set_option linter.unusedVariables false
set_option linter.unusedSimpArgs false
set_option maxRecDepth 100000
set_option maxHeartbeats 8000000
namespace Go.Proofs.YtidamcdklgfogaaGreat
section
open Go.RowKit
def PartsR(s:Int)(most:Int)(e:Ending):Prop:=∃k:Int,e=.returned (.int .i64 k)/\1<=k/\k<=most+1/\(k<=most->k=s)
theorem sizes_take_succ{l:List Tr}{k:Nat}{t:Tr}(h:l[k]?=some t):Tr.sizes (l.take (k+1))=Tr.sizes (l.take k)+t.size:=by
 induction l generalizing k with
 | nil=>simp at h
 | cons a l ih =>
   cases k with
   | zero =>
     simp only[zB,jEa] at h;subst h;simp[Tr.sizes]
   | succ k =>
     rw[List.take_succ_cons,List.take_succ_cons,Tr.sizes,Tr.sizes,ih (by simpa using h),kYb]
theorem parts_any(E:World):∀(b:Nat) (I:PH) (ms:List PH) (t:Tr) (most:Int) (w:World),t.size<=b->In I t->0<=most->most<=40->Sat E I ms w ->
  Calls Tryz.prog 37 #[t.val,.int .i64 most] w λe w'=>PartsR t.size most e/\Sat E I ms w':=by
 intro b
 induction b with
 | zero=>intro I ms t most w h;have:=t.size_pos;omega
 | succ b ih =>
   intro I ms t most w hsz hin h0 h40 hS;have IH:=yH (λ(ns:List PH) (k:Tr) (mo:Int) (w':World) (hk:k∈t.kids) (g0:0<=mo) (g1:mo<=40) (hS':Sat E I ns w')=>ih I ns k mo w' (by have:=Tr.size_kid hk;omega) (hin.kid k hk) g0 g1 hS');have Hin:=yH hin.at_;have Hlen:=hin.row.1;rw[t.size_eq];clear ih hin hsz;obtain⟨op,var,A,cap,kids⟩:=t;unfold Tr.val;simp only[Tr.op,Tr.var,Tr.A,Tr.kids,Tr.cap] at *
   go_enter Tryz.func37,Tryz.ntmps37;go_wp2_with (first|(refine aX ?_;clear hS;intro X w hS))
   have HS0:=yH hS;clear hS;go_loopw [5,6] (λv5 v6 wr=>∃(i:Nat) (q:Int),i<=kids.length/\v6=.int .i64 i/\v5=.int .i64 q/\1<=q/\q<=most+1/\(q<=most->q=1+Tr.sizes (kids.take i))/\Sat E I (PH.one X (.cells #[.int .i64 op,.int .i64 var,.slice A kids.length cap] 87)::ms) wr) (λ_ v6 _=>(kids.length-intOf v6).toNat)
   case atStart=>exact⟨0,1,jC _,rfl,rfl,by omega,by omega,λ_=>rfl,HS0.out⟩
   case round =>
    obtain⟨i,q,hi,rfl,rfl,q1,q2,q3,hS⟩:=hrel;clear HS0;have HQ:=yH q3;clear q3;by_cases hlt:i<kids.length
    . have i1:decide ((i:Int)<(kids.length:Int))=true:=by rw[jPb];omega
      by_cases hq:q<=most
      . have i2:decide (q<=most)=true:=by rw[jPb];omega
        obtain⟨Y,off,rfl,hc⟩:=Hin.out (by omega);have hget:=yA hlt;have hmem:=jWb hlt;generalize kids[i]=kd at *
        obtain⟨hcell,hkin⟩:=hc i kd hget;have hw:=IntWalk.wrap64_in (most-q) (by omega);have CK:=yH (λw' hS'=>IH.out (PH.one X (.cells #[.int .i64 op,.int .i64 var,.slice (some ⟨Y,off,none⟩) kids.length cap] 87)::ms) kd (most-q) w' hmem (by omega) (by omega) hS');have Hstep:=yH (sizes_take_succ hget);unfold Tr.cells at hcell;unfold Tr.val at CK;have k0:(0:Int)<=(i:Int):=by omega
        have k1:(i:Int)<(kids.length:Int):=by omega
        clear hget hc hmem hkin;generalize kd.size=sz at *
        go_wp2_with (first|(refine aG ?_)|(refine aL ?_)|(go_at_call 37;((with_reducible refine yI (CK.out _ hS) ?_);clear hS;rintro e w ⟨⟨k,rfl,g1,g2,g3⟩,hS⟩;have HG:=yH (And.intro g1 (And.intro g2 g3));clear g1 g2 g3)))
        obtain⟨g1,g2,g3⟩:=HG.out;have e1:=Hstep.out;have e2:=IntWalk.wrap64_in (q+k) (by omega);refine⟨⟨i+1,wrap64 (q+k),hlt,by go_num,rfl,?_,?_,λhle=>?_,hS⟩,by simp[intOf];omega⟩
        . rw[e2];omega
        . rw[e2];omega
        . rw[e2] at hle ⊢
          rw[e1,HQ.out hq] at *
          have:=g3 (by omega);omega
      . have i2:decide (q<=most)=false:=by rw[jD];omega
        go_wp2_with (first|(refine aG ?_)|(refine aL ?_))
        go_ret;exact⟨⟨q,rfl,q1,q2,λh=>absurd h (by omega)⟩,hS.drop⟩
    . obtain rfl:i=kids.length:=by omega
      have i1:decide ((kids.length:Int)<(kids.length:Int))=false:=by rw[jD];omega
      have HQ2:=yH (show q<=most->q=1+Tr.sizes kids from λh=>by have:=HQ.out h;rwa [kDa] at this);clear HQ;go_wp2_with (first|(refine aL ?_))
      go_ret;exact⟨⟨q,rfl,q1,q2,λh=>by have:=HQ2.out h;rw[this];omega⟩,hS.drop⟩
end
section
open Go.RowKit
def cntI(l:List Int)(v:Int):Nat:=(l.filter λx=>x==v).length
theorem cntI_take{l:List Int}{i:Nat}{x v:Int}(h:l[i]?=some x):cntI (l.take (i+1)) v=cntI (l.take i) v+(if x=v then 1 else 0):=by
 unfold cntI;rw[jR,h,qBb,yG];by_cases e:x=v
 . subst e;simp
 . simp[e]
theorem cntI_le(l:List Int)(v:Int):cntI l v<=l.length:=kG _ _
def RightR(l:List Int)(n:Nat)(e:Ending):Prop:=∃b:Bool,e=.returned (.bool b)/\(b=true->l.length=n/\∀v:Nat,v<n->cntI l v=1)
theorem rright_any{E w:World}{I:PH}{ms:List PH}{l:List Int}{n:Nat}{vl:Value}(hl:IntRo I vl l)(hn:n<=64)(hS:Sat E I ms w) :
  Calls Tryz.prog 35 #[vl,.int .i64 (n:Int)] w λe w'=>RightR l n e/\Sat E I ms w':=by
 obtain⟨A,c,rfl,hc⟩:=hl;by_cases hlen:l.length=n
 . have Hc:=yH hc
   have HS0:=yH hS;have HL:=yH hlen;clear hc hS;rw[hlen];clear hlen;go_enter Tryz.func35,Tryz.ntmps35;go_wp2_with (fail)
   go_loopw [5] (λv5 wr=>∃v:Nat,v<=n/\v5=.int .i64 (v:Int)/\(∀u:Nat,u<v->cntI l u=1)/\Sat E I ms wr) (λv5 _=>(n-intOf v5).toNat)
   case atStart=>exact⟨0,by omega,rfl,λu h=>by omega,HS0.out⟩
   case round =>
    clear HS0;obtain⟨v,hv,rfl,hpre,hS⟩:=hrel;have HPre:=yH hpre;clear hpre;by_cases hlt:v<n
    . have i1:(v:Int)<(n:Int):=by omega
      go_wp2_with (fail)
      have HS1:=yH hS;clear hS;go_loopw [6,7] (λv6 v7 wr=>∃i:Nat,i<=n/\v7=.int .i64 (i:Int)/\v6=.int .i64 ((cntI (l.take i) v:Nat):Int)/\Sat E I ms wr) (λ_ v7 _=>(n-intOf v7).toNat)
      case atStart=>exact⟨0,by omega,rfl,rfl,HS1.out⟩
      case round =>
       clear HS1;obtain⟨i,hi,rfl,rfl,hS⟩:=hrel;have hle:cntI (l.take i) v<=64:=by have:=cntI_le (l.take i) v;rw[jSa] at this;omega
       by_cases hlt2:i<n
       . obtain⟨x,hget⟩:∃x,l[i]?=some x:=⟨_,yA (by rw[HL.out];exact hlt2)⟩
         obtain⟨Y,off,rfl,hcs⟩:=Hc.out (by rw[HL.out];omega);have hat:=hcs i _ hget;have Hst:=yH (cntI_take (v:=(v:Int)) hget);clear hcs hget;have i2:(i:Int)<(n:Int):=by omega
         generalize cntI (l.take i) v=q at *
         by_cases hx:x=(v:Int)
         . have d1:(x==(v:Int))=true:=by rw[jRb];exact hx
           go_wp2_with (first|(refine aL ?_))
           exact⟨⟨i+1,by omega,by go_num,by rw[Hst.out,jAb hx];go_num,hS⟩,by simp[intOf];omega⟩
         . have d1:(x==(v:Int))=false:=by rw[jGb];exact hx
           go_wp2_with (first|(refine aL ?_))
           exact⟨⟨i+1,by omega,by go_num,by rw[Hst.out,jAa hx];rfl,hS⟩,by simp[intOf];omega⟩
       . obtain rfl:i=n:=by omega
         have i2:¬(i:Int)<(i:Int):=by omega
         have hq:cntI (l.take i) v=cntI l v:=by rw[<- HL.out,kDa]
         rw[hq] at hle ⊢;clear hq;by_cases h1:cntI l v=1
         . have d1:(((cntI l v:Nat):Int) != 1)=false:=by rw[h1];rfl
           have HN:=yH (λ(u:Nat) (hu:u<v+1)=>show cntI l u=1 from by
            by_cases e:u=v
            . subst e;exact h1
            . exact HPre.out u (by omega))
           clear HPre h1;generalize cntI l v=q at *
           go_wp2_with (fail)
           exact⟨⟨v+1,by omega,by go_num,HN.out,hS⟩,by simp[intOf];omega⟩
         . have d1:(((cntI l v:Nat):Int) != 1)=true:=by rw[bne_iff_ne];omega
           clear HPre h1;generalize cntI l v=q at *
           go_wp2_with (fail)
           go_ret;exact⟨⟨false,rfl,λh=>by cases h⟩,hS⟩
    . obtain rfl:v=n:=by omega
      have i1:¬(v:Int)<(v:Int):=by omega
      go_wp2_with (fail)
      go_ret;exact⟨⟨true,rfl,λ_=>⟨HL.out,HPre.out⟩⟩,hS⟩
 . have d1:(((l.length:Nat):Int) != (n:Int))=true:=by rw[bne_iff_ne];omega
   generalize l.length=q at *
   clear hc;go_enter Tryz.func35,Tryz.ntmps35;go_wp2_with (fail)
   go_ret;exact⟨⟨false,rfl,λh=>by cases h⟩,hS⟩
end
section
open Go.RowKit
def PlanR(l:List G.Ev)(n:Nat)(e:Ending):Prop:=∃x:Int,e=.returned (.int .i64 x)/\(x=0->l.length<=256/\∀(i:Nat) u,l[i]?=some u->G.evErr n u=0)
theorem evErr_zero'{n:Nat}{u:G.Ev}(h1:¬u.kind<1)(h2:¬3<u.kind)(h3:¬u.after<1)(h4:u.kind=2->¬u.level<0/\¬(n:Int)-2<u.level):G.evErr n u=0:=by
 unfold G.evErr;rw[jAa (by omega),jAa (by omega)]
theorem PlanR.bad(l:List G.Ev)(n:Nat)(x:Int)(hx:x≠0):PlanR l n (.returned (.int .i64 x)):=⟨x,rfl,λh=>absurd h hx⟩
theorem rplan_any{E w:World}{I:PH}{ms:List PH}{l:List G.Ev}{n:Nat}{vl:Value}(hl:WtR I vl l false)(hn:n<=64)(hS:Sat E I ms w) :
  Calls Tryz.prog 36 #[.int .i64 (n:Int),.int .i64 0,vl] w λe w'=>PlanR l n e/\Sat E I ms w':=by
 obtain⟨⟨A,c,rfl⟩,hc,_⟩:=hl;have Hc:=yH hc;clear hc;by_cases hmany:256<l.length
 . have hm2:(256:Int)<l.length:=by omega
   generalize hq:l.length=q at *
   go_enter Tryz.func36,Tryz.ntmps36;go_wp2
   go_ret;exact⟨PlanR.bad _ _ _ (by decide),hS⟩
 . have hll:(l.length:Int)<=256:=by omega
   have HL:=yH (show l.length<=256 from by omega);have HS0:=yH hS;clear hmany hS;generalize hq:l.length=q at *
   have HQ:=yH hq;clear hq;go_enter Tryz.func36,Tryz.ntmps36;go_wp2
   go_loopw [7] (λv7 wr=>∃i:Nat,i<=q/\v7=.int .i64 (i:Int)/\(∀j u,j<i->l[j]?=some u->G.evErr n u=0)/\Sat E I ms wr) (λv7 _=>(q-intOf v7).toNat)
   case atStart=>exact⟨0,by omega,rfl,λj u h=>by omega,HS0.out⟩
   case round =>
    clear HS0;obtain⟨i,hi,rfl,hpre,hS⟩:=hrel;have HPre:=yH hpre;clear hpre;by_cases hlt:i<q
    . obtain⟨u,hget⟩:∃u,l[i]?=some u:=⟨_,yA (by rw[HQ.out];exact hlt)⟩
      obtain⟨Y,off,c',e,hle,hcs⟩:=Hc.out (by omega);injection e with e1 e2 e3
      subst e1;have hcs:=hcs i u hget;have HNext:=yH (λ(h0:G.evErr n u=0) j x (hj:j<i+1) (hx:l[j]?=some x)=>show G.evErr n x=0 from by
       by_cases e:j=i
       . subst e;rw[hget] at hx;injection hx with hx;subst hx;exact h0
       . exact HPre.out j x (by omega) hx)
      obtain⟨a,k,lv⟩:=u;have c0:I.at Y (off+i*3)=some (.int .i64 a):=hcs 0 _ rfl;have c1:I.at Y (off+i*3+1)=some (.int .i64 k):=hcs 1 _ rfl;have c2:I.at Y (off+i*3+2)=some (.int .i64 lv):=hcs 2 _ rfl;have i1:(i:Int)<q:=by omega
      have e2:wrap64 ((n:Int)-2)=(n:Int)-2:=IntWalk.wrap64_in _ (by omega);clear hcs hget HPre hle e3;go_wp2_with (first|((with_reducible refine Qu ?_);((with_reducible refine Zs ?_);first|((with_reducible refine guarded_no ?hw ?_);(case hw=>(simp only[Region.wanted,yielded,zC,zA,zB,zK];  exact (rfl:(some true==some false)=false) ));(try simp only[Act.put,zE,zF,zG]))|((with_reducible refine Qy ?hw ?_);case hw=>(simp only[Region.wanted,yielded,zC,zA,zB,zK,jUa];done))|((refine' Ki (b:=_) ?hy ?_ ?_);(case hy=>(simp only[yielded,zC,zA,zB,zK];exact rfl));all_goals (intro hb;(try simp only[kC,jW] at hb);(try simp only[hb]);(try simp only[Act.put,zE,zF,zG]);first|((have hf:False:=by (simp at hb;omega));cases hf)|skip))))|(refine aL ?_))
      all_goals first
       | (go_ret;exact⟨PlanR.bad _ _ _ (by decide),hS⟩)
       | (refine⟨⟨i+1,by omega,by go_num,HNext.out (evErr_zero' ?_ ?_ ?_ ?_),hS⟩,by simp[intOf];omega⟩ <;> simp_all <;> omega)
    . obtain rfl:i=q:=by omega
      have i1:¬(i:Int)<(i:Int):=by omega
      go_wp2_with (fail)
      go_ret;exact⟨⟨0,rfl,λ_=>⟨by rw[HQ.out];exact HL.out,λj u hu=>HPre.out j u (by have:=(yE.1 hu).1;rw[HQ.out] at this;exact this) hu⟩⟩,hS⟩
end
section
open Go.RowKit
structure SmallOk (n:Nat) (order:List Int) (ts:List Tr) (evs:List G.Ev):Prop where
 n1:1<=n
 n6:n<=6
 ts5:ts.length<=5
 ev6:evs.length<=6
 ord:order=[]\/(order.length=n/\∀v:Nat,v<n->cntI order v=1)
 evs0:∀(i:Nat) u,evs[i]?=some u->G.evErr n u=0
 tsok:∀t∈ts,t.size<=40/\(Yk t 1 0).1=0/\∀x∈Xo t,x<(n:Int)
structure AskIn (I:PH) (vo ve vp:Value) (order:List Int) (ts:List Tr) (evs:List G.Ev):Prop where
 o:IntRo I vo order
 e:∃A c,ve=.slice A ts.length c/\Row I A ts
 ein:∀t∈ts,In I t
 p:WtR I vp evs false
def SmallR(vars:Int)(order:List Int)(ts:List Tr)(evs:List G.Ev)(e:Ending):Prop:=∃b:Bool,e=.returned (.bool b)/\(b=true->∃n:Nat,vars=n/\SmallOk n order ts evs)
theorem SmallR.no(vars:Int)(order:List Int)(ts:List Tr)(evs:List G.Ev):SmallR vars order ts evs (.returned (.bool false)):=⟨false,rfl,λh=>by cases h⟩
theorem vars_mem{t:Tr}(h:(Yk t 1 0).1=0){n:Int}(hx:∀x∈t.vars,x<n):∀x∈Xo t,x<n:=λx hm=>by
 unfold Tr.vars at hx;rw[jAb h] at hx;exact hx x (((ofL_all (Xo t) [] .nil).2 x).2 (.inr hm))
theorem small_any{E w:World}{I:PH}{ms:List PH}{vars:Int}{order:List Int}{ts:List Tr}{evs:List G.Ev}{vo ve vp:Value}(hA:AskIn I vo ve vp order ts evs)(hS:Sat E I ms w) :
  Calls Tryz.prog 13 #[.agg #[.int .i64 vars,vo,ve,vp]] w λe w'=>SmallR vars order ts evs e/\Sat E I ms w':=by
 obtain⟨A1,c1,rfl,ho⟩:=id hA.o;obtain⟨A2,c2,rfl,hrow⟩:=id hA.e;obtain⟨⟨A3,c3,rfl⟩,hwt,_⟩:=id hA.p;have HA:=yH hA;have HW:=yH hwt;have HRow:=yH hrow;have L1:=HRow.out.1;clear hA hwt hrow ho;by_cases hbad:vars<1\/6<vars\/5<ts.length\/6<evs.length
 . have hcs:decide (vars<1)=true\/(decide (vars<1)=false/\decide (6<vars)=true)\/(decide (vars<1)=false/\decide (6<vars)=false/\decide (5<(ts.length:Int))=true)\/(decide (vars<1)=false/\decide (6<vars)=false/\decide (5<(ts.length:Int))=false/\decide (6<(evs.length:Int))=true):=by
     simp only[jPa,jD];omega
   clear HA HW HRow hbad;have HNo:=yH (SmallR.no vars order ts evs);generalize hq1:ts.length=q1 at *
   generalize hq2:evs.length=q2 at *
   generalize hq3:order.length=q3 at *
   clear hq1 hq2 hq3;rcases hcs with h1|⟨h1,h2⟩|⟨h1,h2,h3⟩|⟨h1,h2,h3,h4⟩
   all_goals
    go_enter Tryz.func13,Tryz.ntmps13;go_wp2_with (first|((with_reducible refine Qu ?_);first|((with_reducible refine Zs ?_);first|go_skip|((with_reducible refine Qy ?hw ?_);case hw=>(simp only[Region.wanted,yielded,zC,zA,zB,zK,jUa];done)) )|((with_reducible refine Qe ?_);( (refine ld1 0 hS rfl rfl ?ha rfl rfl rfl ?_;(case ha=>first|exact Qh|exact Yc|exact ty_agg36)) );(try simp only[Act.put,zE,zF,zG]))|((with_reducible refine isBox ?_);refine bx hS rfl rfl rfl ?_;clear hS;intro X w hS;(try simp only[Act.eval,zD,zC,zB,zJ,Value.cells] at hS);(try simp only[Act.put,zE,zF,zG]))))
    go_ret;exact⟨HNo.out,hS.drop⟩
 . obtain⟨n,rfl⟩:∃n:Nat,vars=(n:Int):=⟨vars.toNat,by omega⟩
   have n1:1<=n:=by omega
   have n6:n<=6:=by omega
   have h1:decide ((n:Int)<1)=false:=by rw[jD];omega
   have h2:decide (6<(n:Int))=false:=by rw[jD];omega
   have h3:decide (5<(ts.length:Int))=false:=by rw[jD];omega
   have h4:decide (6<(evs.length:Int))=false:=by rw[jD];omega
   have HNo:=yH (SmallR.no n order ts evs);have HRt:=yH (λ(w:World) (ms:List PH) (hS:Sat E I ms w)=>rright_any (n:=n) HA.out.o (by omega) hS);have HPl:=yH (λ(w:World) (ms:List PH) (hS:Sat E I ms w)=>rplan_any (n:=n) HA.out.p (by omega) hS);have HB:=yH (show ts.length<=5/\evs.length<=6 from by omega);have b1:(ts.length:Int)<=5:=by omega
   have b2:(evs.length:Int)<=6:=by omega
   clear hbad;generalize hq1:ts.length=q1 at *
   generalize hq2:evs.length=q2 at *
   generalize hq3:order.length=q3 at *
   have HQ:=yH (And.intro hq1 (And.intro hq2 hq3));clear hq1 hq2 hq3;have hO:0<q3\/q3=0:=by omega
   have d0:0<q3->decide (0<(q3:Int))=true:=λh=>by rw[jPb];omega
   have d9:q3=0->decide (0<(q3:Int))=false:=λh=>by rw[jD];omega
   rcases hO with hO|hO
   all_goals
    first|(have d1:=d0 hO)|(have d1:=d9 hO)
    clear d0 d9;go_enter Tryz.func13,Tryz.ntmps13;go_wp2_with (first|(go_at_call 35;(with_reducible refine yI (HRt.out _ _ hS) ?_);clear hS;rintro e w ⟨⟨bR,rfl,hbR⟩,hS⟩;have HbR:=yH hbR;clear hbR)|(go_at_call 36;(with_reducible refine yI (HPl.out _ _ hS) ?_);clear hS;rintro e w ⟨⟨xP,rfl,hxP⟩,hS⟩;have HxP:=yH hxP;clear hxP)|((with_reducible refine Qu ?_);first|((with_reducible refine Zs ?_);first|go_skip|((with_reducible refine Qy ?hw ?_);case hw=>(simp only[Region.wanted,yielded,zC,zA,zB,zK,jUa];done))|((refine' Ki (b:=_) ?hy ?_ ?_);(case hy=>(simp only[yielded,zC,zA,zB,zK];exact rfl));all_goals (intro hb;(try simp only[jW] at hb);(try simp only[hb]);(try simp only[Act.put,zE,zF,zG]);  skip)))|((with_reducible refine Qe ?_);( (refine ld1 0 hS rfl rfl ?ha rfl rfl rfl ?_;(case ha=>first|exact Qh|exact ty_agg23|exact Yc|exact ty_agg36)) );(try simp only[Act.put,zE,zF,zG]))|((with_reducible refine isBox ?_);refine bx hS rfl rfl rfl ?_;clear hS;intro X w hS;(try simp only[Act.eval,zD,zC,zB,zJ,Value.cells] at hS);(try simp only[Act.put,zE,zF,zG]))))
   all_goals first|(go_ret;exact⟨HNo.out,hS.drop⟩)|skip
   all_goals
    have HEv:=yH (HxP.out (by simpa using ‹(xP != 0)=false›)).2;have HOrd:Hid (order=[]\/(order.length=n/\∀v:Nat,v<n->cntI order v=1)):=yH (by
     first
      | exact .inr (HbR.out (by simpa using ‹(!bR)=false›))
      | exact .inl (jQb (HQ.out.2.2.trans hO)))
    clear HxP HRt HPl hO d1 h1 h2 h3 h4;have HS0:=yH hS;clear hS;go_loopw [54] (λv54 wr=>∃i:Nat,i<=q2/\v54=.int .i64 (i:Int)/\Sat E I (PH.one X (.cells #[.int .i64 (n:Int),.slice A1 q3 c1,.slice A2 q1 c2,.slice A3 q2 c3] 38)::ms) wr) (λv54 _=>(q2-intOf v54).toNat)
    case atStart=>exact⟨0,by omega,rfl,HS0.out⟩
    case round =>
     clear HS0;obtain⟨i,hi,rfl,hS⟩:=hrel;by_cases hlt:i<q2
     . obtain⟨u,hget⟩:∃u,evs[i]?=some u:=⟨_,yA (by rw[HQ.out.2.1];exact hlt)⟩
       obtain⟨Y,off,c',e,hle,hcs⟩:=HW.out (by omega);injection e with e1 e2 e3
       subst e1;have hcs:=hcs i u hget;unfold gevC at hcs;have i1:(i:Int)<q2:=by omega
       have i0:(0:Int)<=i:=by omega
       clear hget hle e3;go_wp2_with (first|((with_reducible refine Qu ?_);first|((with_reducible refine Xi 4 ?_);(refine' al (z:=_) hS rfl rfl ?ha ?_);(case ha=>exact ty_z85);clear hS;intro Y2 w hS;(try simp only[Value.cells] at hS);(try simp only[Act.put,zE,zF,zG]))|((with_reducible refine Qe ?_);(first|(refine ld1 0 hS rfl rfl ?ha rfl rfl rfl ?_;(case ha =>  exact Qh ))|((refine' ldIN (vs:=_) hS rfl rfl ?ha rfl ?hc ?hb ?_);(case ha=>exact ty_agg85);(case hc=>assumption);(case hb=>exact ty_sz85)));(try simp only[Act.put,zE,zF,zG]))|((with_reducible refine Xa ?_);( (refine stN 0 hS rfl rfl rfl rfl rfl ?ha rfl rfl ?_;(case ha=>exact ty_sz85)) );clear hS;intro w hS;(try simp only[zG,Act.eval,zD,zC,zA,zB,zJ,Value.cells] at hS);(try simp only[Act.put])) ))
       all_goals first
        | (go_ret;exact⟨HNo.out,hS.drop.drop⟩)
        | exact⟨⟨i+1,by omega,by go_num,hS.drop⟩,by simp[intOf];omega⟩
     . obtain rfl:i=q2:=by omega
       have i1:¬(i:Int)<(i:Int):=by omega
       go_wp2_with (first|((with_reducible refine Qu ?_);  ((with_reducible refine Qe ?_);( (refine ld1 0 hS rfl rfl ?ha rfl rfl rfl ?_;(case ha =>  exact Yc )) );(try simp only[Act.put,zE,zF,zG])) ))
       have HS1:=yH hS;clear hS;go_loopw [65] (λv65 wr=>∃j:Nat,j<=q1/\v65=.int .i64 (j:Int)/\(∀k t,k<j->ts[k]?=some t->t.size<=40/\(Yk t 1 0).1=0/\∀x∈Xo t,x<(n:Int))/\Sat E I (PH.one X (.cells #[.int .i64 (n:Int),.slice A1 q3 c1,.slice A2 q1 c2,.slice A3 i c3] 38)::ms) wr) (λv65 _=>(q1-intOf v65).toNat)
       case atStart=>exact⟨0,by omega,rfl,λk t h=>by omega,HS1.out⟩
       case round =>
        clear HS1;obtain⟨j,hj,rfl,hpre,hS⟩:=hrel;have HPre:=yH hpre;clear hpre;by_cases hlt:j<q1
        . obtain⟨t,hget⟩:∃t,ts[j]?=some t:=⟨_,yA (by rw[HQ.out.1];exact hlt)⟩
          obtain⟨Y,off,rfl,hc⟩:=HRow.out.2 (by rw[HQ.out.1];omega);have hcs:=hc j t hget;have hin:=HA.out.ein t (jCb hget);have HNext:=yH (λ(h0:t.size<=40/\(Yk t 1 0).1=0/\∀x∈Xo t,x<(n:Int)) k x (hj:k<j+1) (hx:ts[k]?=some x)=>show x.size<=40/\(Yk x 1 0).1=0/\∀y∈Xo x,y<(n:Int) from by
           by_cases e:k=j
           . subst e;rw[hget] at hx;injection hx with hx;subst hx;exact h0
           . exact HPre.out k x (by omega) hx)
          have CP:=yH (λ(w:World) (ms:List PH) (hS:Sat E I ms w)=>parts_any E t.size I ms t 40 w (jBb _) hin (by decide) (by decide) hS);have CC:=yH (λ(w:World) (ms:List PH) (hS:Sat E I ms w)=>rCheck_any E I ms t w hin hS);have CV:=yH (λ(w:World) (ms:List PH) (hS:Sat E I ms w)=>rVars_any E I ms t w hin hS);have HVm:=yH (λh hx=>vars_mem (t:=t) (n:=(n:Int)) h hx);have i1:(j:Int)<q1:=by omega
          have i0:(0:Int)<=j:=by omega
          clear hget hc hin HPre;unfold Tr.val at CP CC CV;unfold Tr.cells at hcs;generalize (Yk t 1 0).1=xc at *
          generalize t.size=sz at *
          generalize Xo t=vl at *
          generalize t.vars=vs at *
          generalize t.op=op at *
          generalize t.var=var at *
          generalize t.A=tA at *
          generalize t.kids.length=tl at *
          generalize t.cap=tc at *
          go_wp2_with (first
           | (go_at_call 37;(with_reducible refine yI (CP.out _ _ hS) ?_);clear hS;rintro e w ⟨⟨kp,rfl,g1,g2,g3⟩,hS⟩;have HG:=yH (And.intro g2 g3);clear g1 g2 g3)
           | (go_at_call 38;(with_reducible refine yI (CC.out _ _ hS) ?_);clear hS;rintro e w ⟨rfl,hS⟩)
           | (go_at_call 39;(with_reducible refine yI (CV.out _ _ hS) ?_);clear hS;rintro e w ⟨vA,vc,vm,rfl,hIL,hS⟩;have HIL:=yH hIL;clear hIL)
           | ((with_reducible refine Qu ?_);first|((with_reducible refine Xi 6 ?_);(refine' al (z:=_) hS rfl rfl ?ha ?_);(case ha=>exact ty_z87);clear hS;intro Y2 w hS;(try simp only[Value.cells] at hS);(try simp only[Act.put,zE,zF,zG]))|((with_reducible refine Zs ?_);first|((with_reducible refine guarded_no ?hw ?_);(case hw=>(simp only[Region.wanted,yielded,zC,zA,zB,zK];  exact (rfl:(some true==some false)=false) ));(try simp only[Act.put,zE,zF,zG]))|((with_reducible refine Qy ?hw ?_);case hw=>(simp only[Region.wanted,yielded,zC,zA,zB,zK,jUa];done))|((refine' Ki (b:=_) ?hy ?_ ?_);(case hy=>(simp only[yielded,zC,zA,zB,zK];exact rfl));all_goals (intro hb;(try simp only[jW] at hb);(try simp only[hb]);(try simp only[Act.put,zE,zF,zG]);  skip)))|((with_reducible refine Qe ?_);(first|(refine ldN 0 hS rfl rfl ?ha rfl rfl ?hb ?_;(case ha=>exact Xl);(case hb=>exact Xd))|((refine' ldIN (vs:=_) hS rfl rfl ?ha rfl ?hc ?hb ?_);(case ha=>exact Xl);(case hc=>assumption);(case hb=>exact Xd)));(try simp only[Act.put,zE,zF,zG]))|((with_reducible refine Xa ?_);( (refine stN 0 hS rfl rfl rfl rfl rfl ?ha rfl rfl ?_;(case ha=>exact Xd)) );clear hS;intro w hS;(try simp only[zG,Act.eval,zD,zC,zA,zB,zJ,Value.cells] at hS);(try simp only[Act.put])) ))
          all_goals first|(go_ret;exact⟨HNo.out,hS.drop.drop⟩)|skip
          have HX:=yH (show sz<=40/\xc=0 from ⟨by have h1:=HG.out.2;have h2:kp<=40:=(by simpa using ‹decide (40<kp)=false›);have h3:=h1 h2;omega,by simpa using ‹(xc != 0)=false›⟩);clear HG CP CC CV;have HL:=HIL.out.1;generalize hv:vs.length=q4 at *
          have HV:=yH hv;clear hv;have HS2:=yH hS;clear hS;go_loopw [80] (λv80 wr=>∃k:Nat,k<=q4/\v80=.int .i64 (k:Int)/\(∀i x,i<k->vs[i]?=some x->x<(n:Int))/\Sat E I (vm::PH.one Y2 (.cells #[.int .i64 op,.int .i64 var,.slice tA tl tc] 87)::PH.one X (.cells #[.int .i64 (n:Int),.slice A1 q3 c1,.slice (some ⟨Y,off,none⟩) q1 c2,.slice A3 i c3] 38)::ms) wr) (λv80 _=>(q4-intOf v80).toNat)
          case atStart=>exact⟨0,by omega,rfl,λi x h=>by omega,HS2.out⟩
          case round =>
           clear HS2;obtain⟨k,hk,rfl,hpre,hS⟩:=hrel;have HP3:=yH hpre;clear hpre;by_cases hlt3:k<q4
           . obtain⟨x,hx⟩:∃x,vs[k]?=some x:=⟨_,yA (by rw[HV.out];exact hlt3)⟩
             obtain⟨Z,off3,rfl,hc3⟩:=HIL.out.2 (by rw[HV.out];omega);have hcell:vm.at Z (off3+k)=some (.int .i64 x):=hc3 k _ (by rw[jO,hx];rfl);have HN3:=yH (λ(h0:x<(n:Int)) i y (hi:i<k+1) (hy:vs[i]?=some y)=>show y<(n:Int) from by
              by_cases e:i=k
              . subst e;rw[hx] at hy;injection hy with hy;subst hy;exact h0
              . exact HP3.out i y (by omega) hy)
             have j1:(k:Int)<q4:=by omega
             have j0:(0:Int)<=k:=by omega
             clear hx hc3 HP3;go_wp2_with (first
              | ((with_reducible refine Qe ?_);(refine' Xx (v:=_) (.inr (List.Mem.head _)) hS rfl rfl ?ha rfl ?hc ?_);(case ha=>exact Qh);(case hc=>assumption);(try simp only[Act.put,zE,zF,zG]))
              | ((with_reducible refine Qu ?_);  ((with_reducible refine Qe ?_);( (refine ld1 2 hS rfl rfl ?ha rfl rfl rfl ?_;(case ha=>exact Qh)) );(try simp only[Act.put,zE,zF,zG])) ))
             all_goals first
              | (go_ret;exact⟨HNo.out,hS.drop.drop.drop⟩)
              | exact⟨⟨k+1,by omega,by go_num,HN3.out (by omega),hS⟩,by simp[intOf];omega⟩
           . obtain rfl:k=q4:=by omega
             have j1:¬(k:Int)<(k:Int):=by omega
             have HAll:=yH (HNext.out ⟨HX.out.1,HX.out.2,HVm.out HX.out.2 λx hx=>by
              obtain⟨i,hi,rfl⟩:=kXb.1 hx;exact HP3.out i _ (by rw[<- HV.out];exact hi) (yA hi)⟩)
             clear HP3 HNext HVm HX;go_wp2_with (fail)
             exact⟨⟨j+1,by omega,by go_num,HAll.out,hS.drop.drop⟩,by simp[intOf];omega⟩
        . obtain rfl:j=q1:=by omega
          have j1:¬(j:Int)<(j:Int):=by omega
          have HFin:Hid (SmallR n order ts evs (.returned (.bool true))):=yH ⟨true,rfl,λ_=>⟨n,rfl,⟨n1,n6,by rw[HQ.out.1];exact HB.out.1,by rw[HQ.out.2.1];exact HB.out.2,HOrd.out,HEv.out,λt ht=>by
           obtain⟨i,hi,rfl⟩:=kXb.1 ht;exact HPre.out i _ (by rw[<- HQ.out.1];exact hi) (yA hi)⟩⟩⟩
          clear HPre HEv HOrd;go_wp2_with (fail)
          go_ret;exact⟨HFin.out,hS.drop⟩
end
section
open Go.RowKit
def Yj(n k:Nat):List Bool:=(List.range k).map λi=>n.testBit i
theorem bitsL_succ(n k:Nat):Yj n (k+1)=Yj n k++[n.testBit k]:=by
 unfold Yj;rw[kR,jGa];rfl
theorem bitsL_len(n k:Nat):(Yj n k).length=k:=by unfold Yj;simp
theorem testBit_div(n i:Nat):n.testBit i=decide ((n/2^i)%2=1):=by rw[Nat.testBit_eq_decide_div_mod_eq]
theorem div_pow_succ(n i:Nat):n/2^(i+1)=n/2^i/2:=by rw[Nat.pow_succ,Nat.div_div_eq_div_mul]
theorem rlist_any{E w:World}{I:PH}{ms:List PH}(n k:Nat)(hn:n<=1000000)(hk:k<=64)(hS:Sat E I ms w) :
  Calls Tryz.prog 91 #[nv n,nv k] w λe w'=>∃v m,e=.returned v/\OwnP m 4 1 v (Yj n k).length ((Yj n k).map Value.bool)/\Sat E I (m::ms) w':=by
 go_enter Tryz.func91,Tryz.ntmps91;go_wp2_with (first|(refine aY ?_;clear hS;intro XS w hS))
 have HS0:=yH hS;have HO0:=yH (OwnP.lit XS 4 1 0 #[] (jC _) rfl);clear hS;go_loopw [0,5,6] (λv0 v5 v6 wr=>∃(i x:Nat) (m:PH),i<=k/\v6=.int .i64 (i:Int)/\v0=.int .i64 (x:Int)/\x=n/2^i/\OwnP m 4 1 v5 (Yj n i).length ((Yj n i).map Value.bool)/\Sat E I (m::ms) wr) (λ_ _ v6 _=>(k-intOf v6).toNat)
 case atStart=>exact⟨0,n,_,jC _,rfl,rfl,by simp,HO0.out,HS0.out⟩
 case round =>
  obtain⟨i,x,m,hi,rfl,rfl,hx,hO,hS⟩:=hrel;clear HS0 HO0;have hq:(Yj n i).length<=64:=by rw[bitsL_len];exact jFb hi hk
  obtain⟨A3,c3,rfl,_⟩:=hO.shape;by_cases hlt:i<k
  . have i1:(i:Int)<(k:Int):=by omega
    have hxn:x<=1000000:=by rw[hx];exact jFb (Nat.div_le_self _ _) hn
    have HX2:=yH (show x/2=n/2^(i+1) from by rw[div_pow_succ,<- hx]);have HB:=yH (show Yj n (i+1)=Yj n i++[((x:Int)%2==1)] from by rw[bitsL_succ,testBit_div,<- hx];congr 2;rw[kRb,jPb,jRb];omega);have t2:(x:Int).tdiv 2=((x/2:Nat):Int):=by rw[Int.tdiv_eq_ediv_of_nonneg (by omega)];omega
    clear hx;generalize Yj n i=row at *
    go_wp2_with (first|(at_builtin;(refine' apP (p:=_) (m:=_) (v:=_) (n:=_) (xs:=_) (news:=_) 1 (.inr (List.Mem.head _)) hS rfl rfl rfl Tryz.underlying24 bool_info rfl (by decide) rfl ?hown rfl ?hl ?hcl ?h1 ?h63 ?hby ?_);(case hown=>assumption);(case hcl=>exact Cells.one _ _ _ _);(case hl=>rfl);(case h1=>rfl);(case h63=>go_light;unfold maxLen;omega);(case hby=>go_light;omega);clear hS hO;intro v1 m1 w hO hS;(try simp only[zF,zG] at hS);(try simp only[Act.put,zE,zF,zG]))|((with_reducible refine Qu ?_);first|((with_reducible refine Kz ?_);(refine' bsl hS ?hr ?_);(case hr=>(intro w0;go_simp;rfl));clear hS;intro XS w hS;(try simp only[Act.put,zE,zF,zG]))))
    exact⟨⟨i+1,x/2,m1,hlt,by go_num,by  rfl ,HX2.out,by rw[HB.out,yG,jGa];exact hO,hS.drop⟩,by simp[intOf];omega⟩
  . obtain rfl:i=k:=by omega
    have i1:¬(i:Int)<(i:Int):=by omega
    have HO:=yH hO;clear hO hx;go_wp2_with (fail)
    go_ret;exact⟨_,rfl,m,HO.out,hS⟩
def tabL(t:Tr)(k:Nat):List Bool:=(List.range (2^k)).map λi=>t.value (Yj i k)
def tabP(t:Tr)(k i:Nat):List Bool:=(List.range i).map λi=>t.value (Yj i k)
theorem tabP_succ(t:Tr)(k i:Nat):tabP t k (i+1)=tabP t k i++[t.value (Yj i k)]:=by
 unfold tabP;rw[kR,jGa];rfl
theorem tabP_len(t:Tr)(k i:Nat):(tabP t k i).length=i:=by unfold tabP;simp
theorem OwnP.bro{m:PH}{v:Value}{l:List Bool}(h:OwnP m 4 1 v l.length (l.map Value.bool)):BoolRo m v l:=by
 obtain⟨A,c,rfl,hg⟩:=OwnP.bget h;refine⟨A,c,rfl,λhn=>?_⟩;obtain⟨X,rfl,_⟩:=hg 0 l[0] (yA hn);refine⟨X,0,rfl,λi x hx=>?_⟩;obtain⟨X',e,h2⟩:=hg i x hx;cases e;rw[jLb];exact h2
theorem wp_bslT{P:Program}{a:Act}{w E:World}{K:Act->World->Prop}{Q:Exit->Act->World->Prop}{I:PH}{ms:List PH}{dst:Option Tmp}{type:TypeId}{pos:String}{after:Array Edge}{g:Option (Nat×Bool)}{T:TypeId}{n:Nat}{parts:Array (Nat×Operand)}
  (hS:Sat E I ms w){cs:Array Value}{e:TypeId}(hr:∀w:World,(Instr.buildSlice T n (parts.map λ(i,x)=>(i,a.eval x))).run P w=.ok (.slice (some ⟨w.heap.size,0,none⟩) n n) (w.alloc (.cells cs e)))
  (h:∀X J w',I.le J->J X=some (.cells cs e (0,0))->Sat E J ms w'->K (a.put dst (.slice (some ⟨X,0,none⟩) n n)) w'):Oper.wp P ⟨dst,.buildSlice T n parts,type,pos,after,g⟩ a w K Q :=
 wp_bsl hS hr λX w' hS'=>by
  obtain⟨J,hJ,hm,hS2,_⟩:=hS'.ice;exact h X J w' hJ (hm X _ (PH.one_self _ _)) hS2
def rowC1(T:TypeId)(size:Nat)(c:List Nat)(n:Nat)(xs:List Value)(ms:List PH)(s:Nat)(vals:Nat->Value)(_:PH)(ns:List PH):Prop :=
 match s with
 | 0=>ns=ms
 | s+1=>s<c.length/\∃m',OwnP m' T size (vals (c.getD s 0)) n xs/\ns=ms.set 0 m'
theorem rowC1.gst{T:TypeId}{size:Nat}{c:List Nat}{n:Nat}{xs:List Value}{ms:List PH}(s:Nat)(vals vals':Nat->Value)(J:PH)(ns:List PH)(h:∀j∈c.take s,vals j=vals' j)(hg:rowC1 T size c n xs ms s vals J ns):rowC1 T size c n xs ms s vals' J ns:=by
 cases s with
 | zero=>exact hg
 | succ s =>
   obtain⟨h1,m,h2,h3⟩:=hg;refine⟨h1,m,?_,h3⟩;rw[<- h (c.getD s 0)]
   . exact h2
   . rw[yD,yA h1]
     exact List.mem_take_iff_getElem.2 ⟨s,by omega,rfl⟩
theorem rowC1.gle{T:TypeId}{size:Nat}{c:List Nat}{n:Nat}{xs:List Value}{ms:List PH}(s:Nat)(vals:Nat->Value)(J J':PH)(ns:List PH)(_:PH.le J J')(hg:rowC1 T size c n xs ms s vals J ns):rowC1 T size c n xs ms s vals J' ns:=hg
theorem rtable_any{E w:World}{I:PH}{ms:List PH}{t:Tr}(hin:In I t)(hok:(Yk t 1 0).1=0)(hsz:t.size<=100000)(k:Nat)(hk:k<=6)(hS:Sat E I ms w) :
  Calls Tryz.prog 43 #[t.val,nv k] w λe w'=>∃v m,e=.returned v/\OwnP m 4 1 v (2^k) ((tabL t k).map Value.bool)/\Sat E I (m::ms) w':=by
 have CC:=yH (λ(w:World) (ms:List PH) (hS:Sat E I ms w)=>rCheck_any E I ms t w hin hS);rw[hok] at CC;have hOk:=(rchk_ok t 1 0 (by omega) (by omega) (by omega) hok).1;have HList:=yH (λ(i:Nat) (w:World) (J:PH) (ms:List PH) (hi:i<=1000000) (hS:Sat E J ms w)=>rlist_any (E:=E) (I:=J) i k hi (by omega) hS);have HVal:=yH (λ(i:Nat) (w:World) (J:PH) (ms:List PH) (v:Value) (hJ:I.le J) (hb:BoolRo J v (Yj i k)) (hS:Sat E J ms w)=>rvalue_any E (Yj i k) v t.size J ms t w (jBb _) hsz (hin.le hJ) hOk hb hS);have HT:=yH (λi=>tabP_succ t k i);have HTl:=yH (λi=>tabP_len t k i);have HTa:Hid (tabL t k=tabP t k (2^k)):=yH rfl;have hNk:2^k<=64:=jFb (jTa (by decide) hk) (by decide);have HP0:Hid (tabP t k 0=[]):=yH rfl;have HPw:=yH (λi=>Nat.pow_succ 2 i);have HPl:=yH (λ(i:Nat) (hi:i<=k)=>show 2^i<=64 from jFb (jTa (by decide) (jFb hi hk)) (by decide));generalize tabL t k=TB at *
 generalize hN:2^k=N at *
 have HN:=yH hN;have hTV:=t.val_cells;have HCl:Hid (t.cells=[.int .i64 t.op,.int .i64 t.var,.slice t.A t.kids.length t.cap]):=yH rfl;unfold Tr.val at CC HVal hTV;unfold Tr.val;clear hin hok hOk hN hTV;generalize t.op=op at *
 generalize t.var=var at *
 generalize t.A=tA at *
 generalize t.kids.length=tl at *
 generalize t.cap=tc at *
 have e0:decide ((k:Int)<0)=false:=by rw[jD];omega
 have e12:decide ((k:Int)>12)=false:=by rw[jD];omega
 have e12':decide ((12:Int)<(k:Int))=false:=by rw[jD];omega
 go_enter Tryz.func43,Tryz.ntmps43;go_wp2_with (first
  | (go_at_call 38;(with_reducible refine yI (CC.out _ _ hS) ?_);clear hS;rintro e w ⟨rfl,hS⟩)
  | (refine aG ?_)|(refine aL ?_)|(refine aX ?_;clear hS;intro X w hS))
 have HS0:=yH hS;clear hS CC;go_loopw [5,6] (λv5 v6 wr=>∃i:Nat,i<=k/\v6=.int .i64 (i:Int)/\v5=.int .i64 ((2^i:Nat):Int)/\Sat E I (PH.one X (.cells #[.int .i64 op,.int .i64 var,.slice tA tl tc] 87)::ms) wr) (λ_ v6 _=>(k-intOf v6).toNat)
 case atStart=>exact⟨0,by omega,rfl,rfl,HS0.out⟩
 case round =>
  clear HS0;obtain⟨i,hi,rfl,rfl,hS⟩:=hrel;by_cases hlt:i<k
  . have hp:=HPl.out i hi
    have HP:=yH (HPw.out i);have i1:(i:Int)<(k:Int):=by omega
    generalize 2^i=p at *
    have e2:wrap64 (2*(p:Int))=2*(p:Int):=IntWalk.wrap64_in _ (by omega);go_wp2_with (fail)
    refine⟨⟨i+1,by omega,by go_num,?_,hS⟩,by simp[intOf];omega⟩;rw[HP.out];congr 1
    omega
  . obtain rfl:i=k:=by omega
    have i1:¬(i:Int)<(i:Int):=by omega
    rw[HN.out];go_wp2_with (first|(refine aY ?_;clear hS;intro XS w hS))
    have HS1:=yH hS;have HO1:=yH (OwnP.lit XS 4 1 0 #[] (jC _) rfl);clear hS;go_loopw [7,8] (λv7 v8 wr=>∃(j:Nat) (m:PH),j<=N/\v8=.int .i64 (j:Int)/\OwnP m 4 1 v7 j ((tabP t i j).map Value.bool)/\Sat E I (m::PH.one X (.cells #[.int .i64 op,.int .i64 var,.slice tA tl tc] 87)::ms) wr) (λ_ v8 _=>(N-intOf v8).toNat)
    case atStart=>exact⟨0,_,jC _,rfl,by rw[HP0.out];exact HO1.out,HS1.out⟩
    case round =>
     clear HS1 HO1;obtain⟨j,m,hj,rfl,hO,hS⟩:=hrel;obtain⟨A6,c6,rfl,_⟩:=hO.shape;by_cases hlt2:j<N
     . have j1:(j:Int)<(N:Int):=by omega
       have j0:(0:Int)<=(j:Int):=by omega
       have HO:=yH hO;have HTj:=yH (HT.out j);have HLj:=yH (λ(w:World) (J:PH) (ms:List PH) (hS:Sat E J ms w)=>HList.out j w J ms (by omega) hS);have HVj:=yH (HVal.out j);clear hO;go_wp2_with fail
       obtain⟨I1,lI,lx,hS1,bX⟩:=hS.sw.ice;have hcx:Cells I1 X 0 [.int .i64 op,.int .i64 var,.slice tA tl tc]:=λa v ha=>PH.at_le lx (by rw[jLb];exact Qb ha)
       clear hS lx;generalize t.value (Yj j i)=q at *
       generalize hbl:Yj j i=bl at *
       refine Qf [[],[],[],[],[2,3],[1,2,3,4],[1,2,3,4,5],[0,1,2,3,4,5,6],[0,1,2,3,4,5,6,7]] E I1 _
        [λv _=>v=.slice A6 j c6,λv _=>v=.agg #[.int .i64 op,.int .i64 var,.slice tA tl tc],λv _=>v=nv j,λv _=>v=nv i,λv J=>BoolRo J v bl,λv _=>v=.bool q,λv J=>∃Z,v=.slice (some ⟨Z,0,none⟩) 1 1/\J.at Z 0=some (.bool q),λ_ _=>True,λ_ _=>True] [7,8]
        (rowC1 4 1 [7,8] (j+1) ((tabP t i (j+1)).map Value.bool) _) (by kernel_rfl) (by kernel_rfl) (by decide) hS1 rfl ?last rowC1.gst rowC1.gle ?plain ?step ?fin
       case last =>
        repeat (first|exact Lasting.nil|refine Lasting.cons (λ_ _ _ _ h=>h) ?_|refine Lasting.cons (λ_ _ _ h9 h=>BoolRo.le h h9) ?_|refine Lasting.cons (λv I9 J9 h9 h=>by obtain⟨Z,e,hz⟩:=h;exact⟨Z,e,PH.at_le h9 hz⟩) ?_)
       case plain =>
        repeat' (first|exact trivial|apply And.intro)
        all_goals first|exact .inl rfl|skip
        all_goals
         refine .inr ?_;intro s vals J9 bs w hstop hg hJ9 hS hG;clear hG
         first
          | (have hv4:BoolRo J9 (vals 4) bl:=hg.get 4 (by decide)
             refine bS ?_;intro K HK
             (go_wp2_with (go_at_call 90;(with_reducible refine yI (HVj.out _ _ _ _ (PH.le.trans lI hJ9) hv4 hS) ?_);clear hS;rintro e w ⟨rfl,hS⟩))
             exact bP)
          | (refine bS ?_;intro K HK
             ((with_reducible refine atBslB ?_);(refine' wp_bslT hS ?hr ?_);(case hr=>(intro w0;go_simp;try rfl));clear hS;intro Z J2 w hJ2 hX2 hS;(try simp only[Act.put]);refine HK.out _ _ ⟨rfl,J2,hJ2,hS,?_⟩;clear HK;simp only[Facts];simp only[Qk,zH,zI,zE,zF,zG,zD,zC,zA,zB,zJ];exact⟨Z,rfl,by simp only[PH.at,hX2];rfl⟩))
          | (refine bS ?_;intro K HK
             (go_wp2_with (go_at_call 91;(with_reducible refine yI (HLj.out _ _ _ hS) ?_);clear hS;rintro e w ⟨vL,mL,rfl,hOL,hS⟩))
             obtain⟨J2,hJ2,hm2,hS2,_⟩:=hS.ice;refine HK.out _ _ ⟨rfl,J2,hJ2,hS2,?_⟩;clear HK;simp only[Facts];simp only[Qk,zH,zI,zD,zC,zA,zB,zJ];exact (OwnP.bro hOL).le hm2)
          | (simp only[zH,zI,Given,Facts] at hg;simp only[Qc,Qo,Qi,Qd,zH,zI,zA,zB,zK,jEb,Act.put,zE,zF,zG];refine bU ?_;intro K HK
             (first
               | (refine bK ?_)
               | (go_wp2_with fail))
             exact bP)
       case step =>
        refine⟨⟨trivial,?_⟩,?_⟩
        . intro vals J9 bs w hg hJ9 hS hG
          have hG:bs=_:=hG;subst hG;simp only[zH,zI,Given,Facts,kJb] at hg;obtain⟨e0,_,_,_,_,_,Z,e7,h7⟩:=hg;have hg:=And.intro e0 e7;simp only[Qc,Qo,Qi,Qd,zH,zI,zA,zB,zK,jEb,Act.put,zE,zF,zG,hg];refine⟨?_⟩;refine wpStep_of (λK hK=>?_);have HK:=yH hK;clear hK;rw[jAb (by rfl)];refine wp_apS hS 0 rfl (p:=J9) (.inl (PH.le.refl _)) rfl Tryz.underlying24 bool_info rfl (by decide) rfl HO.out rfl (news:=[.bool q]) rfl (λ_=>?_) (λu hu=>by rw[jKb] at hu;rw[hu];rfl) (by unfold maxLen;omega) (by omega) λv' m' w2 hO2 hS2=>?_
          . refine⟨Z,0,rfl,λj v hj=>?_⟩
            cases j with
            | zero=>simp only[zB,jEa] at hj;rw[<- hj];exact h7
            | succ j=>simp at hj
          . refine HK.out _ _ ⟨rfl,J9,_,PH.le.refl _,hS2,trivial,by decide,m',?_,rfl⟩
            simp only[Qk,zI,Act.put,zE,zF,zG,zD,zC,zA,zB,zJ];rw[Qq,HTj.out,jGa];exact hO2
        . intro vals J9 bs w hg hJ9 hS hG
          obtain⟨_,m',hO2,rfl⟩:=hG;simp only[zI] at hO2;refine bS ?_;intro K HK;refine wp_as ?_;refine HK.out _ _ ⟨rfl,J9,_,PH.le.refl _,hS,trivial,by decide,m',?_,rfl⟩;simp only[Qk,zH,zI,Act.put,zE,zF,zG,zD,zC,zA,zB,zJ];rw[Qq];exact hO2
       case fin =>
        intro vals J9 bs w hJ9 hg hS hG;obtain⟨_,m',hO2,rfl⟩:=hG;have hS:=hS.less hJ9;simp only[zG] at hS;simp only[zH,zI] at hO2;have hS:=(bX _ _ hS).sw;have HO2:=yH hO2;clear hO2 hJ9 bX hcx hS1 lI;simp only[yB,yC,Nat.reduceAdd,Below_,Facts,zH,zI,kS,kJb] at hg;obtain⟨⟨⟨⟨⟨⟨e0,e1⟩,e2⟩,e3⟩,e4⟩,e5⟩,Z,e6,h6⟩:=hg;have hg:=And.intro e0 (And.intro e1 (And.intro e2 (And.intro e3 (And.intro e5 e6))));simp only[yB,yC,Nat.reduceAdd,Qc,Qo,Qi,zA,zB,zK,jEb,Act.put,zE,zF,zG,hg];refine⟨?_⟩;clear hg e0 e1 e2 e3 e4 e5 e6 h6;go_wp2_with fail
        exact⟨⟨j+1,m',by omega,by go_num,HO2.out,hS⟩,by simp[intOf];omega⟩
     . obtain rfl:j=N:=by omega
       have j1:¬(j:Int)<(j:Int):=by omega
       have HO:=yH (show OwnP m 4 1 (.slice A6 j c6) j (TB.map Value.bool) from by rw[HTa.out];exact hO);clear hO;go_wp2_with (fail)
       go_ret;exact⟨_,rfl,m,HO.out,hS.sw.drop⟩
end
namespace G
theorem bubM_nil{m m':Mg}(h:bubM [] m=some (m',true)):m=m':=by
 unfold bubM at h;simp only[jEa,jIa,kJb] at h;exact h
theorem bubM_cons{k:Nat}{l:List Nat}{m m':Mg}(h:bubM (k::l) m=some (m',true)):∃m1,m.swap (k:Int)=some (m1,0)/\bubM l m1=some (m',true):=by
 unfold bubM at h;cases hs:m.swap (k:Int) with
 | none=>rw[hs] at h;cases h
 | some q =>
   obtain⟨m1,e⟩:=q;rw[hs] at h;by_cases e0:e=0
   . subst e0
     exact⟨m1,rfl,by simpa using h⟩
   . simp[e0] at h
theorem arrM_nil{len i:Nat}{m m':Mg}(h:arrM len [] i m=some (m',true)):m=m':=by
 rw[arrM] at h;simp only[jEa,jIa,kJb] at h;exact h
theorem arrM_cons{len i:Nat}{v:Int}{l:List Int}{m m':Mg}(hi:i<=len)(h:arrM len (v::l) i m=some (m',true)) :
  m.s.vars.length=len/\∃a m1,i<=a/\a<len/\(∀j,i<=j->j<a->∀x,m.s.vars[j]?=some x->((x:Nat):Int)≠v)/\(∀x,m.s.vars[a]?=some x->((x:Nat):Int)=v)/\bubM (downTo i (a-i)) m=some (m1,true)/\arrM len l (i+1) m1=some (m',true):=by
 rw[arrM] at h;by_cases hl:m.s.vars.length=len
 . rw[jAa (by simp[hl])] at h
   refine⟨hl,?_⟩;simp only[] at h;generalize hk:(m.s.vars.drop i).findIdx (λx=>((x:Nat):Int)==v)=k at *
   by_cases hat:i+k=len
   . rw[jAb hat] at h;simp at h
   . rw[jAa hat] at h
     have hle:k<=(m.s.vars.drop i).length:=by rw[<- hk];exact List.findIdx_le_length
     rw[kHb,hl] at hle;have hlt:k<(m.s.vars.drop i).length:=by rw[kHb,hl];omega
     have hf:=kXa (w:=(by rw[hk];exact hlt:(m.s.vars.drop i).findIdx (λx=>((x:Nat):Int)==v)<(m.s.vars.drop i).length));cases hb:bubM (downTo i (i+k-i)) m with
     | none=>rw[hb] at h;cases h
     | some q =>
       obtain⟨m1,b⟩:=q;rw[hb] at h;cases b with
       | false=>simp at h
       | true =>
         refine⟨i+k,m1,by omega,by omega,λj h1 h2 x hx=>?_,λx hx=>?_,hb,h⟩
         . have h3:j-i<(m.s.vars.drop i).findIdx (λx=>((x:Nat):Int)==v):=by rw[hk];omega
           have h4:=List.not_of_lt_findIdx h3;have hjl:j<m.s.vars.length:=(yE.1 hx).1;have h5:(m.s.vars.drop i)[j-i]'(by rw[kHb];omega)=x:=by
            rw[List.getElem_drop]
            have:=(yE.1 hx).2;rw[<- this];congr 1
            omega
           rw[h5] at h4
           simpa using h4
         . have hjl:i+k<m.s.vars.length:=(yE.1 hx).1
           have h5:(m.s.vars.drop i)[k]'hlt=x:=by
            rw[List.getElem_drop];exact (yE.1 hx).2
           simp only[hk] at hf;rw[h5] at hf
           simpa using hf
 . rw[jAb hl] at h
   simp at h
end G
section
open Go.RowKit
theorem InvS.swapM{S:G.Sem}{n c r:Nat}{Φ:Int->Option G.Fn}{H:List (Int×Nat)}{m m':G.Mg}(hH:H.length<1152921504606846976)(hr:r<=900000)(h:InvS S n c Φ H r m){k:Int}{e:Nat}(hm:m.swap k=some (m',e)):InvS S n c Φ H r m':=by
 unfold G.Mg.swap at hm;cases hs:m.s.swap k with
 | none=>rw[hs] at hm;cases hm
 | some q =>
   obtain⟨s',e'⟩:=q;rw[hs] at hm;simp only[Option.map_some,jEa,jIa] at hm;rw[<- hm.1];exact (InvS.keeps hH hr).swap m s' k e' h hs
theorem OwnP.nget{m:PH}{e:TypeId}{v:Value}{l:List Nat}{n:Nat}(h:OwnP m e 1 v n (l.flatMap ivC))(hn:l.length=n):∃A c,v=.slice A n c/\∀(i:Nat) x,l[i]?=some x->∃X,A=some ⟨X,0,none⟩/\m.at X i=some (nv x):=by
 have he:∀l:List Nat,l.flatMap ivC=l.map nv:=λl=>by
  induction l with
  | nil=>rfl
  | cons x l ih=>rw[jMb,ih];rfl
 rw[he] at h;obtain⟨A,c,rfl,_⟩:=h.shape;refine⟨A,c,rfl,λi x hx=>?_⟩;obtain⟨X,hX⟩:=h.cells (by rw[<- hn];have:=(yE.1 hx).1;omega);refine⟨X,hX.1,?_⟩
 have:=hX.2 i (nv x) (by rw[jO,hx];rfl)
 rwa [jLb] at this
theorem warrange_any{S:G.Sem}{n:Nat}{E w:World}{I p:PH}{ms:List PH}{D:Nat}{m m':G.Mg}(hs:G.Sd S n m)(hn:n<=64)(hr:m.s.pl.room<=900000)(hb:m.hs.length<1000000){order:List Int}{vo:Value}(ho:IntRo I vo order)(hlo:order.length<=64)(hm:G.arrM order.length order 0 m=some (m',true))(hA:MgAt D m p)(hS:Sat E I (p::ms) w) :
  Calls Tryz.prog 41 #[vPt D,vo] w λe w'=>e=.returned (.bool true)/\∃p',MgAt D m' p'/\Sat E I (p'::ms) w':=by
 obtain⟨A,c,rfl,hc⟩:=ho;have HO:=yH hc;have hH:m.hs.length<1152921504606846976:=by omega
 have HI0:=yH (InvS.of hs);have HSw:=yH (λ(mi mj:G.Mg) (k:Int) (e:Nat) (h:InvS S n m.next m.fn m.hs m.s.pl.room mi) (hk:mi.swap k=some (mj,e))=>InvS.swapM hH hr h hk);have HCs:=yH (λ(w:World) (q:PH) (ms:List PH) (mi mj:G.Mg) (k:Int) (h:InvS S n m.next m.fn m.hs m.s.pl.room mi) (hk:mi.swap k=some (mj,0)) (hA:MgAt D mi q) (hS:Sat E I (q::ms) w)=>wswap_any h.ok (by rw[h.room];exact hr) hk hA hS);have HM0:=yH hm;have HA0:=yH hA;have HS0:=yH hS;clear hc hm hA hS hs hb hH hr;generalize hq:order.length=q at *
 have HQ:=yH hq;clear hq;generalize m.next=x1 at *
 generalize m.fn=x2 at *
 generalize m.hs=x3 at *
 generalize m.s.pl.room=x4 at *
 have hS:=HS0.out;go_enter Tryz.func41,Tryz.ntmps41;go_wp2_with (fail)
 clear hS;go_loopw [5] (λv5 wr=>∃(i:Nat) (mi:G.Mg) (pi:PH),i<=q/\v5=.int .i64 (i:Int)/\InvS S n x1 x2 x3 x4 mi/\G.arrM q (order.drop i) i mi=some (m',true)/\MgAt D mi pi/\Sat E I (pi::ms) wr) (λv5 _=>(q-intOf v5).toNat)
 case atStart=>exact⟨0,m,p,by omega,rfl,HI0.out,HM0.out,HA0.out,HS0.out⟩
 case round =>
  clear HS0 HA0 HI0 HM0;obtain⟨i,mi,pi,hi,rfl,hI,hm,hA,hS⟩:=hrel;by_cases hlt:i<q
  . obtain⟨v,hget⟩:∃v,order[i]?=some v:=⟨_,yA (by rw[HQ.out];exact hlt)⟩
    have hd:order.drop i=v::order.drop (i+1):=by
     have h1:=yE.1 hget;rw[jL h1.1,h1.2]
    rw[hd] at hm;obtain⟨hvl,a,m1,ha1,ha2,hne,heq,hbub,hrest⟩:=G.arrM_cons hi hm;obtain⟨X,off,rfl,hcs⟩:=HO.out (by omega);have ov:=hcs i v hget;have HI:=yH hI;have HR:=yH hrest;have HB:=yH hbub;have HNe:=yH hne;have HEq:=yH heq;have HA:=yH hA;have HOr:=yH (λ(w:World) (h:Sat E I (pi::ms) w)=>morder_any hA h);have i1:(i:Int)<(q:Int):=by omega
    have i0:(0:Int)<=(i:Int):=by omega
    clear hd hm hcs hget hI hrest hbub hne heq hA;rw[hvl] at HOr;have HVl:=yH hvl;clear hvl;have d0:((q:Int) != (q:Int))=false:=by simp
    go_wp2_with ( (go_at_call 18;(with_reducible refine yI (HOr.out _ hS) ?_);clear hS;rintro e w ⟨vO,mO,rfl,hO,hS⟩;have HOw:=yH hO;obtain⟨AO,cO,rfl,_⟩:=OwnP.shape hO;clear hO)
     )
    have HS1:=yH hS;clear hS;go_loopw [7] (λv7 wr=>∃b:Nat,i<=b/\b<=a/\v7=.int .i64 (b:Int)/\Sat E I (mO::pi::ms) wr) (λv7 _=>(a-intOf v7).toNat)
    case atStart=>exact⟨i,jBb _,ha1,rfl,HS1.out⟩
    case round =>
     clear HS1;obtain⟨b,hb1,hb2,rfl,hS⟩:=hrel;obtain⟨x,hx⟩:∃x,mi.s.vars[b]?=some x:=⟨_,yA (by rw[HVl.out];omega)⟩;obtain⟨AO',cO',e,hg⟩:=OwnP.nget HOw.out HVl.out;injection e with e1 e2 e3
     subst e1;obtain⟨XO,rfl,hat⟩:=hg b x hx;have y1:=Ql (hS.mle (k:=0) rfl) hat;have y2:=Ql hS.ile ov;have j0:(0:Int)<=(b:Int):=by omega
     have j1:(b:Int)<(q:Int):=by omega
     have j2:decide ((b:Int)<(q:Int))=true:=by rw[jPb];omega
     by_cases hba:b<a
     . have j3:((x:Int) != v)=true:=by rw[bne_iff_ne];exact HNe.out b hb1 hba x hx
       clear hg e3 hx hat;go_wp2_with fail
       go_quiet (fail)
       replace hS:=hS.drewN nq;clear y1 y2;go_wp2_with (fail)
       exact⟨⟨b+1,by omega,hba,by go_num,hS⟩,by simp[intOf];omega⟩
     . obtain rfl:b=a:=by omega
       have j3:((x:Int) != v)=false:=by rw[bne_eq_false_iff_eq];exact HEq.out x hx
       clear hg e3 hx hat;go_wp2_with fail
       go_quiet (fail)
       replace hS:=hS.drewN nq;clear y1 y2;have j4:((b:Int)==(q:Int))=false:=by rw[jGb];omega
       go_wp2_with (fail)
       have HS2:=yH hS;clear hS;go_loopw [7] (λv7 wr=>∃(d:Nat) (md:G.Mg) (pd:PH),i<=d/\d<=b/\v7=.int .i64 (d:Int)/\InvS S n x1 x2 x3 x4 md/\G.bubM (G.downTo i (d-i)) md=some (m1,true)/\MgAt D md pd/\Sat E I (mO::pd::ms) wr) (λv7 _=>intOf v7-i |>.toNat)
       case atStart=>exact⟨b,mi,pi,hb1,jBb _,rfl,HI.out,HB.out,HA.out,HS2.out⟩
       case round =>
        clear HS2 HA HI HB;obtain⟨d,md,pd,hd1,hd2,rfl,hI,hbub,hA,hS⟩:=hrel;by_cases hdi:i<d
        . have k1:decide ((d:Int)>(i:Int))=true:=by rw[jPb];omega
          have hdn:G.downTo i (d-i)=(d-1)::G.downTo i (d-1-i):=by
           rw[show d-i=(d-1-i)+1 by omega,G.downTo_succ,show i+(d-1-i)=d-1 by omega]
          rw[hdn] at hbub;obtain⟨me,hsw,hbe⟩:=G.bubM_cons hbub;have HIe:=yH (HSw.out md me _ 0 hI hsw);have HBe:=yH hbe;have hsw2:md.swap ((d:Int)-1)=some (me,0):=by rw[show (d:Int)-1=((d-1:Nat):Int) by omega];exact hsw
          have HC:=yH (λ(w:World) (ms:List PH) (h:Sat E I (pd::ms) w)=>HCs.out w pd ms md me _ hI hsw2 hA h);clear hdn hbub hsw hsw2 hbe hI hA;have k2:0<d:=by omega
          go_wp2_with ( (go_at_call 84;(with_reducible refine bD (HC.out _ _ hS.sw) ?_);clear hS;intro w pe HAe hS;have hS:=hS.sw)
           )
          exact⟨⟨d-1,me,pe,by omega,by omega,by congr 1;omega,HIe.out,HBe.out,HAe.out,hS⟩,by simp[intOf];omega⟩
        . obtain rfl:d=i:=by omega
          have k1:decide ((d:Int)>(d:Int))=false:=by rw[jD];omega
          rw[qCa] at hbub;obtain rfl:=G.bubM_nil hbub;have HI2:=yH hI;have HA2:=yH hA;clear hbub hI hA;go_wp2_with (fail)
          exact⟨⟨d+1,md,pd,by omega,by go_num,HI2.out,HR.out,HA2.out,hS.drop⟩,by simp[intOf];omega⟩
  . obtain rfl:i=q:=by omega
    have i1:¬(i:Int)<(i:Int):=by omega
    rw[kVa (by rw[HQ.out];exact jBb _)] at hm;obtain rfl:=G.arrM_nil hm;have HA2:=yH hA;clear hm hI hA;go_wp2_with (fail)
    go_ret;exact⟨rfl,pi,HA2.out,hS⟩
end
namespace G
theorem filt_len(l:List Int)(n:Nat):(l.filter λx=>decide (0<=x/\x<((n+1:Nat):Int))).length=(l.filter λx=>decide (0<=x/\x<(n:Int))).length+(l.filter λx=>x==(n:Int)).length:=by
 induction l with
 | nil=>rfl
 | cons a l ih =>
   simp only[kLa];by_cases h1:a=(n:Int)
   . subst h1
     rw[jAb (by rw[jPb];omega),jAa (by rw[jPb];omega),jAb (by simp),yB,yB,ih];omega
   . rw[jAa (c:=(a==(n:Int))=true) (by simpa using h1)]
     by_cases h2:0<=a/\a<(n:Int)
     . rw[jAb (by rw[jPb];omega),jAb (by rw[jPb];exact h2),yB,yB,ih]
       omega
     . rw[jAa (by rw[jPb];omega),jAa (by rw[jPb];exact h2),ih]
theorem filt_all(l:List Int):∀n:Nat,(∀v:Nat,v<n->(l.filter λx=>x==(v:Int)).length=1)->(l.filter λx=>decide (0<=x/\x<(n:Int))).length=n
 | 0,_=>by
   rw[List.length_eq_zero_iff,kPa];intro a _;simp
 | n+1,h=>by rw[filt_len,filt_all l n λv hv=>h v (by omega),h n (by omega)]
theorem perm_of_count{l:List Int}{n:Nat}(hl:l.length=n)(hc:∀v:Nat,v<n->(l.filter λx=>x==(v:Int)).length=1):∃o:List Nat,l=o.map (λv=>((v:Nat):Int))/\o.length=n/\o.Nodup/\∀v∈o,v<n:=by
 have hf:=filt_all l n hc;have hall:∀x∈l,0<=x/\x<(n:Int):=by
  have:=List.length_filter_eq_length_iff.1 (hf.trans hl.symm);intro x hx
  simpa using this x hx
 have he:l=(l.map Int.toNat).map (λv=>((v:Nat):Int)):=by
  rw[jXa];conv=>lhs;rw[<- List.map_id l]
  refine jXb λx hx=>?_
  show x=((x.toNat:Nat):Int)
  have:=(hall x hx).1;omega
 refine⟨l.map Int.toNat,he,by rw[jHb];exact hl,?_,λv hv=>?_⟩
 . rw[List.nodup_iff_count]
   intro a;by_cases ha:a∈l.map Int.toNat
   . obtain⟨x,hx,rfl⟩:=jF.1 ha
     have h1:=hall x hx;have h2:=hc x.toNat (by omega);rw[List.count_eq_length_filter,List.filter_map,jHb];have h3:(l.filter ((λy=>y==x.toNat) ∘ Int.toNat))=l.filter λy=>y==((x.toNat:Nat):Int):=by
      refine List.filter_congr λy hy=>?_
      have:=hall y hy;show (y.toNat==x.toNat)=(y==((x.toNat:Nat):Int))
      rw[kRb,jRb,jRb];omega
     rw[h3,h2];exact jBb _
   . rw[List.count_eq_zero_of_not_mem ha]
     omega
 . obtain⟨x,hx,rfl⟩:=jF.1 hv
   have:=hall x hx;omega
theorem evsErr_all{n:Nat}:∀{l:List Ev},(∀(i:Nat) u,l[i]?=some u->evErr n u=0)->evsErr n l=0
 | [],_=>rfl
 | a::l,h=>by
   unfold evsErr;rw[jAb (h 0 a rfl)];exact evsErr_all λi u hu=>h (i+1) u (by simpa using hu)
variable{S:Sem} {n:Nat}
theorem setup3(hS1:∀φ ψ χ,S 1 φ ψ χ=iteF φ ψ χ){room:Nat}{order:List Int}{es:List Ex}{plan:List Ev}(hn:n<=6)(hroom:room=4*2^(2*n)+192*2^n)
  (ho:order=[]\/∃o:List Nat,order=o.map (λv=>((v:Nat):Int))/\o.length=n/\o.Nodup/\∀v∈o,v<n)(hes:∀e∈es,ExOk n e)(h40:∀e∈es,e.sz<=40)(h5:es.length<=5)(hp:plan.length<=6)(he:evsErr n plan=0) :
  ∃m1 m2 l,arrM order.length order 0 (Mg.new n room)=some (m1,true)/\Sd S n (Mg.new n room)/\ListSt S n 50 room es m1 [] m2 l/\Sd S n m2/\m2.waits=[]/\m2.fresh=true/\m2.s.vars.length=n/\Ready S n room es plan { m2 with waits:=plan,calls:=0,fresh:=false } l:=by
 have p1:2^n<=64:=jFb (jTa (by decide) hn) (by decide);have p0:0<2^n:=Nat.pow_pos (by decide);have p2:2^(2*n)<=4096:=jFb (jTa (by decide) (show 2*n<=12 by omega)) (by decide);have p3:2^(n+1)=2^n*2:=Nat.pow_succ 2 n;have hr1:1<=room/\room<=1048576:=by rw[hroom];omega
 have hszs:∀l:List Ex,(∀e∈l,e.sz<=40)->Ex.szs l<=40*l.length:=λl h=>by
  induction l with
  | nil=>simp[Ex.szs]
  | cons a l ih =>
    rw[Ex.szs,yB]
    have:=h a (.head _)
    have:=ih λe he=>h e (.tail _ he)
    omega
 have hsz:=hszs es h40;obtain⟨h0,_⟩:=Snd.new (S:=S) (n:=n) (by omega) hr1.1 hr1.2;obtain⟨m1,r1,a1,hhs,hnx,hrm,hws,hfr,hf1⟩:=arrM_new (S:=S) (n:=n) (by omega) hr1.1 hr1.2 ho;have fit:Fit n 50 m1 (40+es.length+3) (3*Ex.szs es):=⟨by omega,by decide,by rw[hrm,hroom,p3];omega,by rw[hws];decide,by omega⟩;obtain⟨m2,l,r2,g2⟩:=listM2_ok hS1 (mx:=40) es m1 [] hes h40 a1.ok fit;have hw2:m2.waits=[]:=by
  obtain⟨w,hw⟩:=g2.waits;rw[hws] at hw;exact (List.append_eq_nil_iff.1 hw.symm).2
 obtain⟨m3,r3,g3,g4,g5,g6,g7,g8⟩:=plan_ok g2.ok hw2 (by omega:plan.length<=256) he;have e3:m3={ m2 with waits:=plan,calls:=0,fresh:=false }:=by
  unfold Mg.plan at r3;rw[hw2,jAa (by simp;omega),g2.ok.vars,jAb he] at r3
  have:=jNa Prod.fst r3
  simpa using this.symm
 refine⟨m1,m2,l,r1,h0,⟨by rw[r2];simp,a1.ok,.inr ⟨40,h40,fit⟩,hes,hrm⟩,g2.ok,hw2,g2.fresh.trans hfr,g2.ok.vars,?_⟩;rw[<- e3];refine⟨g3,by rw[g8,g2.room,hrm],g6,by rw[g4,g2.len,hhs];omega,g2.lk,by rw[g7];have:=g2.cost;omega,λi h hi=>by rw[g5];exact g2.vals i h hi,λk=>?_⟩;by_cases e0:k=0
 . rw[jAb e0,e0];exact g3.c01.1
 rw[jAa e0];by_cases e1:k=1
 . rw[jAb e1,e1];exact g3.c01.2
 rw[jAa e1];by_cases el:k∈l.map (λh=>((h:Nat):Int))
 . rw[jAb el]
 . rw[jAa el,g5,g2.fn k λh hh e=>el (e ▸ jWa hh),hf1,jAa e0,jAa e1]
end G
end Go.Proofs.YtidamcdklgfogaaGreat
