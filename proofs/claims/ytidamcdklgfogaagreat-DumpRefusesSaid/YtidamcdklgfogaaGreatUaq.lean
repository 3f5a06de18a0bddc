import Derived.Test.YtidamcdklgfogaaGreatUap
import Derived.Deep.CutRange
import Derived.Deep.CutBlock
set_option linter.unusedVariables false
set_option linter.unusedSimpArgs false
set_option maxRecDepth 100000
set_option maxHeartbeats 8000000
namespace Go.Proofs.YtidamcdklgfogaaGreat
section
open Go.RowKit
def RowT(I:PH)(v:Value)(T:List G.Td):Prop:=(∃A c,v=.slice A T.length c)/\∀(i:Nat) t,T[i]?=some t->∃A c,v=.slice (some ⟨A,0,none⟩) T.length c/\Cells I A (i*9) (tdC t)
theorem RowT.le{I J:PH}{v:Value}{T:List G.Td}(h:RowT I v T)(hJ:I.le J):RowT J v T:=⟨h.1,λi t ht=>by
 obtain⟨A,c,h1,h2⟩:=h.2 i t ht;exact⟨A,c,h1,h2.le hJ⟩⟩
theorem OwnP.rowT{m:PH}{v:Value}{T:List G.Td}{e:TypeId}(h:OwnP m e 9 v T.length (T.flatMap tdC)):RowT m v T:=by
 refine⟨?_,λi t ht=>?_⟩
 . obtain⟨A,c,h1,_⟩:=h.shape
   exact⟨A,c,h1⟩
 . obtain⟨A,c,rfl,_⟩:=h.ptr (by have:=(yE.1 ht).1;omega)
   exact⟨A,c,rfl,Qs tdC_len h ht⟩
def SeenR(rs:List (Rw (Int×Int)))(q:List (Nat×Nat)):Prop:=rs.map (·.k)=q.map (λp=>((p.1:Int),(p.2:Int)))/\∀r∈rs,r.v=.bool true
theorem SeenR.get:∀{rs:List (Rw (Int×Int))} {q:List (Nat×Nat)},SeenR rs q->∀a b:Nat,getR rs ((a:Int),(b:Int))=if q.contains (a,b)=true then some (.bool true) else none
 | [],q,h,a,b=>by
   have:q=[]:=by
    have:=h.1;cases q with
    | nil=>rfl
    | cons x q=>cases this
   subst this;rfl
 | r::rs,q,h,a,b=>by
   obtain⟨h1,h2⟩:=h;cases q with
   | nil=>cases h1
   | cons x q =>
     rw[jDb,jDb] at h1;injection h1 with h1 h3
     have ih:=SeenR.get (rs:=rs) (q:=q) ⟨h3,λr' hr=>h2 r' (kJa _ hr)⟩ a b;unfold getR at ih ⊢;rw[List.find?_cons];by_cases hx:x=(a,b)
     . have:decide (r.k=((a:Int),(b:Int)))=true:=by rw[jPa,h1,hx]
       rw[this,List.contains_cons,hx];simp[h2 r qCb]
     . have:decide (r.k=((a:Int),(b:Int)))=false:=by
         rw[jD,h1];intro e;injection e with e1 e2
         exact hx (Prod.ext (by omega) (by omega))
       have h4:((a,b)==x)=false:=by rw[jGb];exact λe=>hx e.symm
       rw[this,List.contains_cons,h4,Bool.false_or];exact ih
theorem SeenR.push{rs:List (Rw (Int×Int))}{q:List (Nat×Nat)}(h:SeenR rs q)(a b c:Nat):SeenR (rs++[⟨((a:Int),(b:Int)),.bool true,c⟩]) (q++[(a,b)]):=by
 refine⟨by rw[jGa,jGa,h.1];rfl,λr hr=>?_⟩;rcases jH.1 hr with hr|hr
 . exact h.2 r hr
 . rw[jKb] at hr;rw[hr]
def keysOf(t:G.Td):List (Nat×Nat):=[(t.ll,t.hl),(t.lh,t.hh)]
theorem wants_fold(s:G.St)(x:Nat)(T:List G.Td):s.wants x T=(T.foldl (λq t=>(keysOf t).foldl (G.wish (s.tab x)) q) ([],0)).2:=rfl
theorem wish_eq(t:List G.Ent)(q:List (Nat×Nat)×Nat)(k0 k1:Nat):G.wish t q (k0,k1)=if G.flipIf k0 (k1%2==1)=G.flipIf k1 (k1%2==1)\/(G.findT t (G.flipIf k0 (k1%2==1)) (G.flipIf k1 (k1%2==1))).isSome=true\/(q.1.contains (G.flipIf k0 (k1%2==1),G.flipIf k1 (k1%2==1)))=true then q else (q.1++[(G.flipIf k0 (k1%2==1),G.flipIf k1 (k1%2==1))],q.2+1):=by
 unfold G.wish;rw[norm_eq]
theorem swants_any{E w:World}{I:PH}{ms:List PH}{S x:Nat}{s:G.St}{v:Value}{T:List G.Td}(hx:x<s.tabs.length)(hR:StR I S s)(hT:RowT I v T)(hlen:T.length<=1048577)(hB:∀t∈T,t.ll<4611686018427387904/\t.lh<4611686018427387904/\t.hl<4611686018427387904/\t.hh<4611686018427387904)(hS:Sat E I ms w) :
  Calls Tryz.prog 141 #[vPt S,nv x,v] w λe w'=>e=.returned (nv (s.wants x T))/\Sat E I ms w':=by
 obtain⟨h0,L,P,vV,vL,vT,vC,gs,h1,iS1,i3,h4,h5,h6,h7,h8,h9,hP,h11,hgs,h13,h14⟩:=hR;obtain⟨TT,cT,rfl,hgt⟩:=h13 (by omega);have hg:=yA (l:=gs) (i:=x) (by omega);have htt:=yA (l:=s.tabs) (i:=x) hx;have htb:s.tabs[x]=s.tab x:=by unfold G.St.tab;rw[yD,htt];rfl
 have iT:=hgt x _ hg;have hTab:=h14 x _ _ hg htt;rw[htb] at hTab;generalize gs[x]=g at *
 have hxi:(x:Int)<(s.tabs.length:Int):=by omega
 have hx64:s.tabs.length<=64:=h0.tabs;have hwf:=wants_fold s x T;obtain⟨A0,c0,rfl⟩:=hT.1;have HRow:=yH hT.2;have HB:=yH hB;have HTab:=yH hTab;have Hwf:=yH hwf;have hl1:(T.length:Int)<=1048577:=by omega
 clear h0 h1 iS1 h4 h5 h6 h7 h8 h9 hP h11 hgs h13 h14 hgt hg htt htb hT hB hTab hwf;generalize htx:s.tab x=tb at *
 generalize hn:T.length=n at *
 go_enter Tryz.func141,Tryz.ntmps141;go_wp2_with ( ((with_reducible refine isMakeMap ?_);refine mkM ekey hS rfl rfl ?_;clear hS;intro M w hS;refine aM ?_) )
 go_loopw [8,22] (λv8 v22 wr=>∃(i:Nat) (q:List (Nat×Nat)×Nat) (rs:List (Rw (Int×Int))) (c:Nat),i<=n/\v22=.int .i64 (i:Int)/\v8=.int .i64 (q.2:Int)/\q.2<=2*i/\q=(T.take i).foldl (λq t=>(keysOf t).foldl (G.wish tb) q) ([],0)/\SeenR rs q.1/\MapOk rs c/\Sat E I (PH.one M (Qj ekey rs c)::ms) wr) (λ_ v22 _=>(n-intOf v22).toNat)
 case atStart=>exact⟨0,([],0),[],0,jC _,rfl,rfl,jBb _,rfl,⟨rfl,λr hr=>by cases hr⟩,MapOk.nil,hS⟩
 case round =>
  clear hS;obtain⟨i,q0,rs0,c1,hin,rfl,rfl,hq2,hq,hsn,hok,hS⟩:=hrel;have Hq:=yH hq;have Hsn:=yH hsn;have Hok:=yH hok;clear hq hsn hok;by_cases hlt:i<n
  . obtain⟨t,ht⟩:∃t,T[i]?=some t:=⟨_,yA (by omega)⟩
    obtain⟨A,c9,hv,hcell⟩:=HRow.out i t ht;injection hv with hv _ hc
    subst hv hc;have hcell:Cells I A (i*9) [nv t.id,nv t.n.v,nv t.n.lo,nv t.n.hi,nv t.n.refs,nv t.ll,nv t.lh,nv t.hl,nv t.hh]:=hcell;have htk:T.take (i+1)=T.take i++[t]:=by rw[jR,ht];rfl
    have htB:=HB.out t (jCb ht);have Ht:=yH htk;have HtB:=yH htB;have ii:(i:Int)<(n:Int):=by omega
    clear ht htk htB;go_wp2_with (first|((with_reducible refine Kz ?_);(refine' bsl hS ?hr ?_);(case hr=>(intro w0;go_simp;rfl));clear hS;intro XS w hS;refine aM ?_)|(refine aN 10 ?_;clear hS;intro X10 w hS)|(refine aL ?_)|(refine aS ?_;clear hS;intro w hS))
    obtain⟨J,lJ,lXS,hS2,bXS⟩:=hS.ice;have hS:=hS2.drop;have jA:Cells J XS 0 [nv t.ll,nv t.hl,nv t.lh,nv t.hh]:=(Cells.one XS #[nv t.ll,nv t.hl,nv t.lh,nv t.hh] 204 (0,0)).le lXS;have jk:∀j:Nat,j<2->∃k0 k1,(keysOf t)[j]?=some (k0,k1)/\Cells J XS (j*2) [nv k0,nv k1]/\k0<4611686018427387904/\k1<4611686018427387904:=λj hj=>by
     have hb:=HtB.out;rcases (show j=0\/j=1 by omega) with rfl|rfl
     . exact⟨t.ll,t.hl,rfl,λk u hk=>by
        refine jA k u ?_
        match k,hk with
        | 0,hk=>exact hk
        | 1,hk=>exact hk
        | k+2,hk=>simp at hk,hb.1,hb.2.2.1⟩
     . exact⟨t.lh,t.hh,rfl,λk u hk=>by
        have:=jA (2+k) u (by
         match k,hk with
         | 0,hk=>exact hk
         | 1,hk=>exact hk
         | k+2,hk=>simp at hk)
        rw[jLb] at this;rw[show 1*2+k=2+k by omega];exact this,hb.2.1,hb.2.2.2⟩
    have Hjk:=yH jk;have j3:J.at S 2=some (.slice (some ⟨TT,0,none⟩) s.tabs.length cT):=PH.at_le lJ i3;have jT:J.at TT x=some (vPt g):=PH.at_le lJ iT;have HTJ:=yH (HTab.out.le lJ);have HlJ:=yH lJ;clear hS2 bXS lXS jA jk hcell lJ;go_loopw [8,38] (λv8 v38 wr=>∃(j:Nat) (q:List (Nat×Nat)×Nat) (rs:List (Rw (Int×Int))) (c:Nat),j<=2/\v38=.int .i64 (j:Int)/\v8=.int .i64 (q.2:Int)/\q.2<=2*i+j/\q=((keysOf t).take j).foldl (G.wish tb) q0/\SeenR rs q.1/\MapOk rs c/\Sat E J (PH.one M (Qj ekey rs c)::ms) wr) (λ_ v38 _=>(2-intOf v38).toNat)
    case atStart=>exact⟨0,q0,rs0,c1,by omega,rfl,rfl,hq2,rfl,Hsn.out,Hok.out,hS⟩
    case round =>
     clear hS Hsn Hok;obtain⟨j,q,rs,c,hj2,rfl,rfl,hqn,hq,hsn,hok,hS⟩:=hrel;have Hqj:=yH hq;have Hsn:=yH hsn;have Hok:=yH hok;clear hq hsn hok;by_cases hjl:j<2
     . obtain⟨k0,k1,hk,hkc,hb0,hb1⟩:=Hjk.out j hjl
       have htk2:(keysOf t).take (j+1)=(keysOf t).take j++[(k0,k1)]:=by rw[jR,hk];rfl
       have hstep:((keysOf t).take (j+1)).foldl (G.wish tb) q0=G.wish tb q (k0,k1):=by rw[htk2,kSa,<- Hqj.out];rfl
       rw[wish_eq] at hstep;have hno:=λw'=>enorm_any w' k0 k1 hb0 hb1
       have hF:=λ(w':World) (hle:J.le (Qa w'))=>tfind_any (HTJ.out.le hle) (G.flipIf k0 (k1%2==1)) (G.flipIf k1 (k1%2==1))
       generalize hga:G.flipIf k0 (k1%2==1)=a at *
       generalize hgb:G.flipIf k1 (k1%2==1)=b at *
       have HNo:=yH hno;have Hstep:=yH hstep;have hget:=Hsn.out.get a b;have jj:(j:Int)<2:=by omega
       have hn2:q.2<=2097156:=by omega
       clear hk htk2 hno hstep hb0 hb1;by_cases hab:a=b
       . subst hab
         have HF:=yH hF;have hw:a=a\/(G.findT tb a a).isSome=true\/(q.1.contains (a,a))=true:=.inl rfl;have Hw:=yH hw;clear hF hget hw;go_wp2_with (first|(go_at_call 133;with_reducible refine bC (HNo.out _) ?_)|(go_at_call 134;with_reducible refine bC (HF.out _ hS.ile) ?_)|(refine aN 12 ?_;clear hS;intro X12 w hS)|(refine aN 18 ?_;clear hS;intro X18 w hS)|(refine aL ?_)|(refine aS ?_;clear hS;intro w hS))
         refine⟨⟨j+1,q,rs,c,by omega,by go_num,rfl,by omega,?_,Hsn.out,Hok.out,hS.drop.drop⟩,by simp[intOf];omega⟩;rw[Hstep.out,jAb Hw.out]
       . have habi:¬(a:Int)=(b:Int):=by omega
         have habb:((a:Int)==(b:Int))=false:=by simpa using habi
         cases hf:G.findT tb a b with
         | some id =>
           rw[hf] at hF;have HF:=yH hF;have hw:a=b\/(G.findT tb a b).isSome=true\/(q.1.contains (a,b))=true:=.inr (.inl (by rw[hf];rfl));have Hw:=yH hw;clear hF hget hw hf;go_wp2_with (first|(go_at_call 133;with_reducible refine bC (HNo.out _) ?_)|(go_at_call 134;with_reducible refine bC (HF.out _ hS.ile) ?_)|(refine aN 12 ?_;clear hS;intro X12 w hS)|(refine aN 18 ?_;clear hS;intro X18 w hS)|(refine aL ?_)|(refine aS ?_;clear hS;intro w hS))
           refine⟨⟨j+1,q,rs,c,by omega,by go_num,rfl,by omega,?_,Hsn.out,Hok.out,hS.drop.drop⟩,by simp[intOf];omega⟩;rw[Hstep.out,jAb Hw.out]
         | none =>
           rw[hf] at hF;have HF:=yH hF;cases hct:q.1.contains (a,b) with
           | true =>
             rw[hct,jAb rfl] at hget;have Hget:=yH hget;have hw:a=b\/(G.findT tb a b).isSome=true\/(q.1.contains (a,b))=true:=.inr (.inr hct);have Hw:=yH hw;clear hF hget hw hf hct;go_wp2_with (first|(go_at_call 133;with_reducible refine bC (HNo.out _) ?_)|(go_at_call 134;with_reducible refine bC (HF.out _ hS.ile) ?_)|((with_reducible refine Kb ?_);refine lk1 (x:=((a:Int),(b:Int))) (p:=PH.one M (Qj ekey rs c)) hS (.inr (jCb (i:=2) rfl)) (PH.one_self _ _) kE Tryz.underlying237 ty_z4 rfl rfl rfl rfl Hget.out ?_;simp only[zJ];refine aM ?_)|(refine aN 12 ?_;clear hS;intro X12 w hS)|(refine aN 18 ?_;clear hS;intro X18 w hS)|(refine aG ?_)|(refine aL ?_)|(refine aS ?_;clear hS;intro w hS))
             refine⟨⟨j+1,q,rs,c,by omega,by go_num,rfl,by omega,?_,Hsn.out,Hok.out,hS.drop.drop⟩,by simp[intOf];omega⟩;rw[Hstep.out,jAb Hw.out]
           | false =>
             rw[hct,jAa (by simp)] at hget;have Hget:=yH hget;have hw:¬(a=b\/(G.findT tb a b).isSome=true\/(q.1.contains (a,b))=true):=by rw[hf,hct];simp[hab]
             have Hw:=yH hw;clear hF hget hw hf hct;go_wp2_with (first|(go_at_call 133;with_reducible refine bC (HNo.out _) ?_)|(go_at_call 134;with_reducible refine bC (HF.out _ hS.ile) ?_)|((with_reducible refine Kb ?_);refine lk1 (x:=((a:Int),(b:Int))) (p:=PH.one M (Qj ekey rs c)) hS (.inr (jCb (i:=2) rfl)) (PH.one_self _ _) kE Tryz.underlying237 ty_z4 rfl rfl rfl rfl Hget.out ?_;simp only[Option.getD_none];refine aM ?_)|((with_reducible refine isUpdate ?_);refine muNew (x:=((a:Int),(b:Int))) hS 2 rfl kE Tryz.underlying237 rfl rfl rfl rfl rfl Hok.out Hget.out ?_;clear hS;intro w hS;(try simp only[zF,zG] at hS);(try simp only[Act.put]))|(refine aN 12 ?_;clear hS;intro X12 w hS)|(refine aN 18 ?_;clear hS;intro X18 w hS)|(refine aG ?_)|(refine aL ?_)|(refine aS ?_;clear hS;intro w hS))
             refine⟨⟨j+1,(q.1++[(a,b)],q.2+1),rs++[⟨((a:Int),(b:Int)),.bool true,c⟩],c+1,by omega,by go_num,by go_num,by show q.2+1<=_;omega,?_,Hsn.out.push a b c,Hok.out.push Hget.out _,hS.drop.drop⟩,by simp[intOf];omega⟩;rw[Hstep.out,jAa Hw.out]
     . have hje:j=2:=by omega
       subst hje;go_wp2_with fail
       refine⟨⟨i+1,q,rs,c,by omega,by go_num,rfl,by omega,?_,Hsn.out,Hok.out,hS.less HlJ.out⟩,by simp[intOf];omega⟩;rw[Ht.out,kSa,<- Hq.out,Hqj.out];rfl
  . have hin2:i=n:=by omega
    subst hin2;go_wp2_with fail
    go_ret;refine⟨?_,hS.drop⟩
    have:=Hq.out;rw[jK (by omega)] at this;show Ending.returned (.int .i64 (q0.2:Int))=_
    rw[Hwf.out,<- this]
end
section
open Go.RowKit
theorem own_set{m':PH}{e:TypeId}{A:Option Addr}{n c i:Nat}{l:List Nat}{x:Nat}(hi:i<l.length)(h:OwnP m' e 1 (.slice A n c) n (spl (l.flatMap ivC) i (Value.cells (nv x)).toList)):OwnP m' e 1 (.slice A n c) n ((l.set i x).flatMap ivC):=by
 rw[<- flat_set Kt _ _ hi,jG];exact h
theorem lswap_any{E w:World}{I mV mL:PH}{ms:List PH}{L k a b:Nat}{vV vL:Value}{vs lv:List Nat}(i0:I.at L 0=some vV)(i1:I.at L 1=some vL)(hV:OwnP mV 3 1 vV vs.length (vs.flatMap ivC))(hL:OwnP mL 3 1 vL lv.length (lv.flatMap ivC))
  (hk:k+1<vs.length)(ha:vs[k]?=some a)(hb:vs[k+1]?=some b)(hal:a<lv.length)(hbl:b<lv.length)(hn1:vs.length<=64)(hn2:lv.length<=64)(hS:Sat E I (mV::mL::ms) w) :
  Calls Tryz.prog 144 #[vPt L,nv k] w λe w'=>e=.returned (.tuple #[])/\∃mV' mL',OwnP mV' 3 1 vV vs.length (((vs.set k b).set (k+1) a).flatMap ivC)/\OwnP mL' 3 1 vL lv.length (((lv.set a (k+1)).set b k).flatMap ivC)/\Sat E I (mV'::mL'::ms) w':=by
 obtain⟨V,cV,rfl,_⟩:=hV.ptr (by omega);obtain⟨LL,cL,rfl,_⟩:=hL.ptr (by omega);generalize hk1:k+1=k1 at *
 have hkk:(k:Int)+1=(k1:Int):=by omega
 have hk0:k<vs.length:=by omega
 have cA:Cells mV V k (ivC a):=by have:=Qs Kt hV ha;rwa [jG] at this
 have cB:Cells mV V k1 (ivC b):=by have:=Qs Kt hV hb;rwa [jG] at this
 have h1:∀m',OwnP m' 3 1 (.slice (some ⟨V,0,none⟩) vs.length cV) vs.length (spl (vs.flatMap ivC) k (Value.cells (nv b)).toList)->OwnP m' 3 1 (.slice (some ⟨V,0,none⟩) vs.length cV) vs.length ((vs.set k b).flatMap ivC):=λm' h=>own_set hk0 h
 have h2:∀m',OwnP m' 3 1 (.slice (some ⟨V,0,none⟩) vs.length cV) vs.length (spl ((vs.set k b).flatMap ivC) k1 (Value.cells (nv a)).toList)->OwnP m' 3 1 (.slice (some ⟨V,0,none⟩) vs.length cV) vs.length (((vs.set k b).set k1 a).flatMap ivC):=λm' h=>own_set (by simpa using hk) h
 have h3:∀m',OwnP m' 3 1 (.slice (some ⟨LL,0,none⟩) lv.length cL) lv.length (spl (lv.flatMap ivC) a (Value.cells (nv k1)).toList)->OwnP m' 3 1 (.slice (some ⟨LL,0,none⟩) lv.length cL) lv.length ((lv.set a k1).flatMap ivC):=λm' h=>own_set hal h
 have h4:∀m',OwnP m' 3 1 (.slice (some ⟨LL,0,none⟩) lv.length cL) lv.length (spl ((lv.set a k1).flatMap ivC) b (Value.cells (nv k)).toList)->OwnP m' 3 1 (.slice (some ⟨LL,0,none⟩) lv.length cL) lv.length (((lv.set a k1).set b k).flatMap ivC):=λm' h=>own_set (by simpa using hbl) h
 have H1:=yH h1;have H2:=yH h2;have H3:=yH h3;have H4:=yH h4;have HV:=yH hV;have HL:=yH hL;have ki:(k:Int)<(vs.length:Int):=by omega
 have k1i:(k1:Int)<(vs.length:Int):=by omega
 have ai:(a:Int)<(lv.length:Int):=by omega
 have bi:(b:Int)<(lv.length:Int):=by omega
 obtain⟨J,lJ,lV,hS1,bV⟩:=hS.ice;have j0:J.at L 0=some (.slice (some ⟨V,0,none⟩) vs.length cV):=PH.at_le lJ i0;have jA:J.at V k=some (nv a):=PH.at_le lV (cA.at 0 rfl);have jB:J.at V k1=some (nv b):=PH.at_le lV (cB.at 0 rfl);have HbV:=yH bV;clear h1 h2 h3 h4 hV hL cA cB ha hb hS bV lV lJ;generalize hvn:vs.length=n at *
 generalize hln:lv.length=n2 at *
 go_enter Tryz.func144,Tryz.ntmps144;go_wp2_with fail
 refine Qf [[],[0],[0,1],[0,1,2],[],[0,1,2,3,4],[0,1,2,3,4,5],[],[7],[7,8],[7,8,9],[],[11],[7,8,9,10,11,12],[7,8,9,10,11,12,13],[0,1,2,3,4,5,6],[0,1,2,3,4,5,6,7,8,9,10,11,12,13,14,15]] E J _
  [λv _=>v=vPt L,λv _=>v=vPt L,λv _=>v=vPt L,λv _=>v=.slice (some ⟨V,0,none⟩) n cV,λv _=>v=nv k,λv _=>v=.pointer (some ⟨V,k,none⟩),λv _=>v=nv a,λv _=>v=vPt L,λv _=>v=vPt L,λv _=>v=vPt L,λv _=>v=.slice (some ⟨V,0,none⟩) n cV,λv _=>v=nv k,λv _=>v=nv k1,λv _=>v=.pointer (some ⟨V,k1,none⟩),λv _=>v=nv b,λv _=>v=nv a,λv _=>v=nv b] []
  (λ_ _ _ ns=>ns=mL::ms) (by kernel_rfl) (by kernel_rfl) (by decide) hS1 rfl ?last (λ_ _ _ _ _ _ h=>h) (λ_ _ _ _ _ _ h=>h) ?plain ?step ?fin
 case last=>exact bL
 case plain=>(repeat' (first|exact trivial|apply And.intro)) <;>  (refine .inr ?_;intro s vals J bs w hstop hg hJ hS hG;clear hG;refine bS ?_;intro K HK;(first|(refine bJ ?_)|(go_wp2_with (fail)));exact bO)
 case step=>trivial
 case fin =>
  intro vals J9 bs w hJ hg hS hG;have hG:bs=_:=hG;subst hG;have hS:=HbV.out _ _ (hS.less hJ);clear j0 jA jB HbV hJ hS1;refine bH ?_;clear hg;go_wp2_with fail
  refine Qf [[],[0],[0,1],[0,1,2],[],[],[5],[5,6],[5,6,7],[],[9],[],[],[0,1,2,3,4,5,6,7,8,11],[0,1,2,3,4,5,6,7,8,11,13],[0,1,2,3,4,5,6,7,8,9,10,11,12,13,14],[0,1,2,3,4,5,6,7,8,9,10,11,12,13,14,15]] E I _
   [λv _=>v=vPt L,λv _=>v=vPt L,λv _=>v=vPt L,λv _=>v=.slice (some ⟨V,0,none⟩) n cV,λv _=>v=nv k,λv _=>v=vPt L,λv _=>v=vPt L,λv _=>v=vPt L,λv _=>v=.slice (some ⟨V,0,none⟩) n cV,λv _=>v=nv k,λv _=>v=nv k1,λv _=>v=nv b,λv _=>v=nv a,λv _=>v=.pointer (some ⟨V,k,none⟩),λ_ _=>True,λv _=>v=.pointer (some ⟨V,k1,none⟩),λ_ _=>True] [14,16]
   (set2G _ 0 0 (λm'=>OwnP m' 3 1 (.slice (some ⟨V,0,none⟩) n cV) n ((vs.set k b).flatMap ivC)) (λm'=>OwnP m' 3 1 (.slice (some ⟨V,0,none⟩) n cV) n (((vs.set k b).set k1 a).flatMap ivC))) (by kernel_rfl) (by kernel_rfl) (by decide) hS rfl ?last (λ_ _ _ _ _ _ h=>h) (λ_ _ _ _ _ _ h=>h) ?plain ?step ?fin
  case last=>exact bL
  case plain=>(repeat' (first|exact trivial|apply And.intro)) <;> first|exact .inl rfl|(refine .inr ?_;intro s vals J bs w hstop hg hJ hS hG;clear hG;refine bS ?_;intro K HK;(first|(refine bJ ?_)|(go_wp2_with (fail)));exact bO)
  case step =>
   refine⟨⟨trivial,?_⟩,?_⟩
   . intro vals J bs w hg hJ hS hG
     have hG:bs=_:=hG;subst hG;refine bS ?_;intro K HK;refine Zz (i:=k) hS 0 rfl rfl rfl rfl HV.out (jG k).symm hk0 Yg rfl (iv_one b) λm' w hO' hS=>?_
     exact HK.out _ _ ⟨rfl,J,_,PH.le.refl _,hS,trivial,m',H1.out _ hO',rfl⟩
   . intro vals J bs w hg hJ hS hG
     refine Veil.out ?_;obtain⟨mm,hmm,hG⟩:=hG;subst hG;refine⟨?_⟩;refine bS ?_;intro K HK;refine Zz (i:=k1) hS 0 rfl rfl rfl rfl hmm (jG k1).symm hk Yg rfl (iv_one a) λm' w hO' hS=>?_
     exact HK.out _ _ ⟨rfl,J,_,PH.le.refl _,hS,trivial,mm,m',hmm,H2.out _ hO',rfl⟩
  case fin =>
   intro vals J9 bs w hJ hg hS hG;obtain⟨_,mV',_,hV',hns⟩:=hG;subst hns;have hS:=hS.less hJ;simp only[zG] at hS;have HV':=yH hV';clear hV' hJ;refine bH ?_;clear hg;go_wp2_with fail
   refine Qf [[],[0],[0,1],[0,1,2],[],[],[5],[5,6],[5,6,7],[],[],[10],[],[0,1,2,3,4,5,6,7,8,10,11],[0,1,2,3,4,5,6,7,8,10,11,13],[0,1,2,3,4,5,6,7,8,9,10,11,12,13,14],[0,1,2,3,4,5,6,7,8,9,10,11,12,13,14,15]] E I _
    [λv _=>v=vPt L,λv _=>v=vPt L,λv _=>v=.pointer (some ⟨L,1,none⟩),λv _=>v=.slice (some ⟨LL,0,none⟩) n2 cL,λv _=>v=nv a,λv _=>v=vPt L,λv _=>v=vPt L,λv _=>v=.pointer (some ⟨L,1,none⟩),λv _=>v=.slice (some ⟨LL,0,none⟩) n2 cL,λv _=>v=nv b,λv _=>v=nv k,λv _=>v=nv k1,λv _=>v=nv k,λv _=>v=.pointer (some ⟨LL,a,none⟩),λ_ _=>True,λv _=>v=.pointer (some ⟨LL,b,none⟩),λ_ _=>True] [14,16]
    (set2G _ 1 1 (λm'=>OwnP m' 3 1 (.slice (some ⟨LL,0,none⟩) n2 cL) n2 ((lv.set a k1).flatMap ivC)) (λm'=>OwnP m' 3 1 (.slice (some ⟨LL,0,none⟩) n2 cL) n2 (((lv.set a k1).set b k).flatMap ivC))) (by kernel_rfl) (by kernel_rfl) (by decide) hS rfl ?last (λ_ _ _ _ _ _ h=>h) (λ_ _ _ _ _ _ h=>h) ?plain ?step ?fin
   case last=>exact bL
   case plain=>(repeat' (first|exact trivial|apply And.intro)) <;> first|exact .inl rfl|(refine .inr ?_;intro s vals J bs w hstop hg hJ hS hG;clear hG;refine bS ?_;intro K HK;(first|(refine bJ ?_)|(go_wp2_with (fail)));exact bO)
   case step =>
    refine⟨⟨trivial,?_⟩,?_⟩
    . intro vals J bs w hg hJ hS hG
      have hG:bs=_:=hG;subst hG;refine bS ?_;intro K HK;refine Zz (i:=a) hS 1 rfl rfl rfl rfl HL.out (jG a).symm hal Yg rfl (iv_one k1) λm' w hO' hS=>?_
      exact HK.out _ _ ⟨rfl,J,_,PH.le.refl _,hS,trivial,m',H3.out _ hO',rfl⟩
    . intro vals J bs w hg hJ hS hG
      refine Veil.out ?_;obtain⟨mm,hmm,hG⟩:=hG;subst hG;refine⟨?_⟩;refine bS ?_;intro K HK;refine Zz (i:=b) hS 1 rfl rfl rfl rfl hmm (jG b).symm hbl Yg rfl (iv_one k) λm' w hO' hS=>?_
      exact HK.out _ _ ⟨rfl,J,_,PH.le.refl _,hS,trivial,mm,m',hmm,H4.out _ hO',rfl⟩
   case fin =>
    intro vals J9 bs w hJ hg hS hG;obtain⟨_,mL',_,hL',hns⟩:=hG;subst hns;have hS:=hS.less hJ;simp only[zG,zF] at hS;have HL':=yH hL';clear hL' hJ;refine bH ?_;clear hg;go_wp2_with fail
    go_end0
    exact⟨rfl,mV',mL',HV'.out,HL'.out,hS⟩
end
namespace G
theorem PlOk.take_keep{p p':Pl}{n:Nd}{id:Nat}(h:PlOk p)(ht:p.take n=some (some (p',id))):PlOk p'/\∀i m,p.nd i=some m->p'.nd i=some m:=by
 by_cases hm:many p.slots<p.room
 . obtain⟨p1,id1,h1,h2,_,h4,h5,h6,_⟩:=(h.take n).1 hm
   rw[h1] at ht;injection ht with ht;injection ht with ht;injection ht with e1 e2
   subst e1 e2;refine⟨h2,λi m hi=>?_⟩;rw[h6,Qr _ _ (λe=>by rw[e,h5] at hi;cases hi)];exact hi
 . rw[(h.take n).2 hm] at ht
   injection ht with ht;cases ht
theorem PlOk.put_keep{p:Pl}(h:PlOk p)(id:Nat)(n:Nd):PlOk (p.put id n)/\∀i,(p.nd i).isSome=true->((p.put id n).nd i).isSome=true:=by
 cases hn:p.nd id with
 | some m =>
   obtain⟨h1,h2,_⟩:=h.put (m:=n) hn;refine⟨h1,λi hi=>?_⟩;rw[h2];unfold Zh;split
   . rfl
   . exact hi
 | none =>
   have:p.put id n=p:=by unfold Pl.put;rw[hn];rfl
   rw[this];exact⟨h,λ_ h=>h⟩
theorem St.more_only:∀(k:Nat) (s s':St) (f:Nat),St.more k s f=some s'->s'.pl=s.pl/\s'.tabs=s.tabs/\s'.vars=s.vars/\s'.lev=s.lev
 | 0,s,s',f,h=>by unfold St.more at h;cases h
 | k+1,s,s',f,h=>by
   unfold St.more at h;split at h
   . cases h;exact⟨rfl,rfl,rfl,rfl⟩
   . split at h
     . cases h
     . split at h
       . split at h
         . split at h
           . split at h
             . cases h
             . split at h
               . cases h
               . rename_i s1 h1
                 have a:=St.more_only k _ _ _ h1;have b:=St.more_only k _ _ _ h;exact⟨b.1.trans a.1,b.2.1.trans a.2.1,b.2.2.1.trans a.2.2.1,b.2.2.2.trans a.2.2.2⟩
           . cases h
         . cases h;exact⟨rfl,rfl,rfl,rfl⟩
       . cases h
theorem St.less_only:∀(k:Nat) (s s':St) (f:Nat),St.less k s f=some s'->s'.pl=s.pl/\s'.tabs=s.tabs/\s'.vars=s.vars/\s'.lev=s.lev
 | 0,s,s',f,h=>by unfold St.less at h;cases h
 | k+1,s,s',f,h=>by
   unfold St.less at h;split at h
   . cases h;exact⟨rfl,rfl,rfl,rfl⟩
   . split at h
     . cases h
     . split at h
       . cases h
       . split at h
         . split at h
           . split at h
             . cases h
             . split at h
               . cases h
               . rename_i s1 h1
                 have a:=St.less_only k _ _ _ h1;have b:=St.less_only k _ _ _ h;exact⟨b.1.trans a.1,b.2.1.trans a.2.1,b.2.2.1.trans a.2.2.1,b.2.2.2.trans a.2.2.2⟩
           . cases h
         . cases h;exact⟨rfl,rfl,rfl,rfl⟩
theorem mem_putT{t:List Ent}{lo hi id:Nat}{e:Ent}(h:e∈putT t lo hi id):e∈t\/e.id=id:=by
 unfold putT at h;split at h
 . exact .inl h
 . rcases jH.1 h with h|h
   . exact .inl h
   . rw[jKb] at h;exact .inr (by rw[h])
theorem tab_set(s:St){v x:Nat}{t:List Ent}:({ s with tabs:=s.tabs.set v t }.tab x=s.tab x)\/({ s with tabs:=s.tabs.set v t }.tab x=t/\x=v):=by
 unfold St.tab;by_cases hx:x=v
 . subst hx
   by_cases hl:x<s.tabs.length
   . refine .inr ⟨?_,rfl⟩
     rw[yD];show ((s.tabs.set x t)[x]?).getD []=t
     rw[jP hl];rfl
   . refine .inl ?_
     show (s.tabs.set x t).getD x []=_
     rw[List.set_eq_of_length_le (by omega)]
 . refine .inl ?_
   rw[yD,yD];show ((s.tabs.set v t)[x]?).getD []=_
   rw[jQa (λe=>hx e.symm)]
end G
section
open Go.RowKit
structure Sane (s:G.St):Prop where
 pl:G.PlOk s.pl
 tab:TabLt s
theorem TabLt.set{s:G.St}(h:TabLt s){v:Nat}{t:List G.Ent}(ht:∀e∈t,e.id<4194304):TabLt { s with tabs:=s.tabs.set v t }:=λx e he=>by
 rcases G.tab_set s (v:=v) (x:=x) (t:=t) with h1|⟨h1,_⟩
 . rw[h1] at he;exact h x e he
 . rw[h1] at he;exact ht e he
theorem Sane.add{s s':G.St}{v lo hi id:Nat}(h:Sane s)(ha:s.add v lo hi=some (some (s',id))):Sane s'/\(∀i m,s.nd i=some m->s'.nd i=some m)/\s'.tabs.length=s.tabs.length/\id<4194304:=by
 have hid:=add_lt ha;unfold G.St.add at ha;split at ha
 . cases ha
 . cases ha
 . rename_i p id' ht
   split at ha
   . injection ha with ha;injection ha with ha;injection ha with e1 e2
     subst e1 e2;obtain⟨h1,h2⟩:=h.pl.take_keep ht;refine⟨⟨h1,?_⟩,h2,by simp,hid⟩;exact TabLt.set (s:={ s with pl:=p,cnt:=_,dead:=_ }) h.tab λe he=>by
      rcases G.mem_putT he with he|he
      . exact h.tab v e he
      . rw[he];exact hid
   . cases ha
theorem edge_lt{id:Nat}(h:id<4194304)(t:Bool):G.edge id t<4611686018427387904:=by
 unfold G.edge;exact Kh (by omega) _
theorem Sane.below{s s':G.St}{x a b r:Nat}(h:Sane s)(hm:s.below x a b=some (s',r))(ha:a<4611686018427387904):Sane s'/\(∀i m,s.nd i=some m->s'.nd i=some m)/\s'.tabs.length=s.tabs.length/\r<4611686018427387904:=by
 unfold G.St.below at hm;split at hm
 . cases hm;exact⟨h,λ_ _ h=>h,rfl,ha⟩
 . simp only[] at hm
   split at hm
   . rename_i id hf
     cases hm;obtain⟨e,he,hi⟩:=find_mem hf;exact⟨h,λ_ _ h=>h,rfl,edge_lt (by rw[<- hi];exact h.tab _ e he) _⟩
   . split at hm
     . rename_i s1 id had
       cases hm;obtain⟨h1,h2,h3,h4⟩:=h.add had;exact⟨h1,h2,h3,edge_lt h4 _⟩
     . cases hm
theorem Sane.of{s s':G.St}(h:Sane s)(hp:s'.pl=s.pl)(ht:s'.tabs=s.tabs):Sane s':=⟨by rw[hp];exact h.pl,λv e he=>h.tab v e (by unfold G.St.tab at he ⊢;rwa [ht] at he)⟩
theorem mem_cutT{t:List G.Ent}{lo hi:Nat}{e:G.Ent}(h:e∈G.cutT t lo hi):e∈t:=by unfold G.cutT at h;exact (jQ.1 h).1
theorem Sane.away:∀{l:List (Nat×G.Nd)} {s s':G.St},Sane s->s.away l=some s'->Sane s'/\s'.vars=s.vars/\s'.lev=s.lev/\s'.tabs.length=s.tabs.length
 | [],s,s',h,ha=>by cases ha;exact⟨h,rfl,rfl,rfl⟩
 | (id,n)::l,s,s',h,ha=>by
   unfold G.St.away at ha;split at ha
   . obtain⟨h1,h2,h3,h4⟩:=Sane.away (s:={ s with tabs:=s.tabs.set n.v (G.cutT (s.tab n.v) n.lo n.hi),pl:=s.pl.give id }) ⟨h.pl.give_any id,TabLt.set (s:={ s with pl:=_ }) h.tab λe he=>h.tab n.v e (mem_cutT he)⟩ ha
     exact⟨h1,h2,h3,by rw[h4];simp⟩
   . cases ha
theorem Sane.collect{s s':G.St}{c:Nat}(h:Sane s)(hc:s.collect=some (s',c)):Sane s'/\s'.vars=s.vars/\s'.lev=s.lev/\s'.tabs.length=s.tabs.length:=by
 unfold G.St.collect at hc;split at hc
 . cases hc;exact⟨h,rfl,rfl,rfl⟩
 . split at hc
   . cases hc
   . simp only[kB] at hc
     obtain⟨s1,h1,h2⟩:=hc;cases h2;obtain⟨a,b,c,d⟩:=h.away h1;exact⟨a.of rfl rfl,b,c,d⟩
theorem split_lt{s:G.St}(hp:PlFit s.pl){f v:Nat}(hf:f<4611686018427387904):(s.split f v).1<4611686018427387904/\(s.split f v).2<4611686018427387904:=by
 rw[G.split_eq];cases hn:s.nd (f/2) with
 | none=>exact⟨hf,hf⟩
 | some n =>
   simp only[];have hnf:=hp.nd _ n (G.Pl.nd_some.1 hn).2;split
   . exact⟨Kh hnf.2.1 _,Kh hnf.2.2.1 _⟩
   . exact⟨hf,hf⟩
theorem turn_facts{s:G.St}(hp:PlFit s.pl){x y:Nat}{T:List G.Td}(hT:s.turn x y=some T):T.length<=(s.tab x).length/\∀t∈T,s.nd t.id=some t.n/\t.ll<4611686018427387904/\t.lh<4611686018427387904/\t.hl<4611686018427387904/\t.hh<4611686018427387904:=by
 obtain⟨h1,_⟩:=G.St.turnOf_eq hT;refine⟨?_,λt ht=>?_⟩
 . rw[h1]
   refine jFb (List.length_filterMap_le _ _) ?_;rw[(G.perm_isort _).length_eq,jHb];exact jBb _
 . rw[h1] at ht
   obtain⟨id,_,hid⟩:=List.mem_filterMap.1 ht;unfold G.St.tdOf at hid;cases hn:s.nd id with
   | none=>rw[hn] at hid;cases hid
   | some n =>
     rw[hn] at hid;simp only[] at hid;split at hid
     . injection hid with hid
       subst hid;have hnf:=hp.nd _ n (G.Pl.nd_some.1 hn).2;exact⟨hn,(split_lt hp hnf.2.1).1,(split_lt hp hnf.2.1).2,(split_lt hp hnf.2.2.1).1,(split_lt hp hnf.2.2.1).2⟩
     . cases hid
theorem StAt.openLev{E w:World}{I m:PH}{ms:List PH}{S:Nat}{s:G.St}(hA:StAt S s m)(hS:Sat E I (m::ms) w) :
  ∃(J:PH) (L:Nat) (vV vL:Value) (mV mL:PH) (ns:List PH),I.le J/\J.at S 0=some (vPt L)/\J.at L 0=some vV/\J.at L 1=some vL/\OwnP mV 3 1 vV s.vars.length (s.vars.flatMap ivC)/\OwnP mL 3 1 vL s.lev.length (s.lev.flatMap ivC)/\Sat E J (mV::mL::ns) w /\
    ∀mV' mL' vs lv w',OwnP mV' 3 1 vV s.vars.length (vs.flatMap ivC)->OwnP mL' 3 1 vL s.lev.length (lv.flatMap ivC)->vs.length=s.vars.length->lv.length=s.lev.length->(∀c∈vs,c<=1048576)->(∀c∈lv,c<=1048576)->Sat E J (mV'::mL'::ns) w'->∃m',StAt S { s with vars:=vs,lev:=lv } m'/\Sat E I (m'::ms) w':=by
 obtain⟨h0,L,P,vV,vL,vT,vC,gs,mV,mL,mP,mT,mC,tms,hbd,hV,hL,hP,hT,hC,hgs,htm,htab⟩:=hA;have hS:=Sat.unpack hbd hS;simp only[List.cons_append] at hS;obtain⟨J1,l1,lS,hS1,bS⟩:=hS.ice;obtain⟨J2,l2,lL,hS2,bL⟩:=hS1.ice;refine⟨J2,L,vV,vL,mV,mL,_,l1.trans l2,PH.at_le l2 (PH.at_le lS (Qb rfl)),PH.at_le lL (Qb rfl),PH.at_le lL (Qb rfl),hV,hL,hS2,λmV' mL' vs lv w' hv' hl' e1 e2 b1 b2 hS'=>?_⟩;have h3:=bS _ _ (bL _ _ hS');exact StAt.close (s:={ s with vars:=vs,lev:=lv }) ⟨by rw[e1];exact h0.vars,by rw[e2];exact h0.lev,h0.tabs,h0.cnt,h0.cntb,h0.dead,b2,b1⟩ (by show OwnP _ _ _ _ vs.length _;rw[e1];exact hv') (by show OwnP _ _ _ _ lv.length _;rw[e2];exact hl') hP hT hC hgs htm htab h3
end
section
open Go.RowKit
theorem Sane.mkE{s s':G.St}{v lo hi:Int}{r er:Nat}(h:Sane s)(hm:s.mkE v lo hi=some (s',r,er))(hlo:lo<4611686018427387904):Sane s'/\r<4611686018427387904:=by
 unfold G.St.mkE at hm;split at hm
 . cases hm;exact⟨h,by omega⟩
 . split at hm
   . cases hm;exact⟨h,by omega⟩
   . split at hm
     . cases hm;exact⟨h,by omega⟩
     . split at hm
       . cases hm;exact⟨h,by omega⟩
       . simp only[] at hm
         split at hm
         . split at hm
           . rename_i id hf
             cases hm;obtain⟨e,he,hi⟩:=find_mem hf;exact⟨h,edge_lt (by rw[<- hi];exact h.tab _ e he) _⟩
           . split at hm
             . cases hm
             . cases hm;exact⟨h,by omega⟩
             . rename_i s1 id had
               cases hm;obtain⟨h1,h2,h3,h4⟩:=h.add had;exact⟨h1,edge_lt h4 _⟩
         . cases hm
theorem Sane.mk_{m m':G.Mg}{v lo hi:Int}{rs:G.Rs Nat}(h:Sane m.s)(hm:m.mk_ v lo hi=some (m',rs))(hlo:lo<4611686018427387904):Sane m'.s/\∀r,rs=.ok r->r<4611686018427387904:=by
 have key:∀m1:G.Mg,m1.s=m.s->m1.mkS v lo hi=some (m',rs)->Sane m'.s/\∀r,rs=.ok r->r<4611686018427387904:=λm1 e hm=>by
  unfold G.Mg.mkS at hm;split at hm
  . cases hm
  . rename_i s r er hk
    rw[e] at hk;obtain⟨h1,h2⟩:=h.mkE hk hlo;split at hm
    . cases hm;exact⟨h1,λr' e=>by cases e;exact h2⟩
    . cases hm;exact⟨h1,λr' e=>by cases e⟩
 unfold G.Mg.mk_ at hm;simp only[] at hm;split at hm
 . split at hm
   . cases hm;exact⟨h,λr' e=>by cases e⟩
   . exact key { m with calls:=G.wrapI (m.calls+1) } rfl hm
 . exact key { m with calls:=G.wrapI (m.calls+1) } rfl hm
def LtE:Nat ⊕ (Nat×Nat×Nat×Bool)->Prop
 | .inl r=>r<4611686018427387904
 | .inr (a,b,c,_)=>a<4611686018427387904/\b<4611686018427387904/\c<4611686018427387904
theorem iteT_lt{f g h:Nat}(hf:f<4611686018427387904)(hg:g<4611686018427387904)(hh:h<4611686018427387904):LtE (iteT f g h):=by
 unfold iteT;have h1:=flip_lt hf;have h2:=λb=>Kh hg b
 have h3:=λb=>Kh hh b
 repeat' split
 all_goals first|exact hg|exact hh|exact hf|exact h1|exact⟨h1,h3 _,h2 _⟩|exact⟨hf,h2 _,h3 _⟩
theorem iteE_lt{f g h:Nat}(hf:f<4611686018427387904)(hg:g<4611686018427387904)(hh:h<4611686018427387904):LtE (G.iteE f g h):=by
 rw[iteE_T];refine iteT_lt hf ?_ ?_
 . split
   . omega
   . split
     . omega
     . exact hg
 . split
   . omega
   . split
     . omega
     . exact hh
theorem splitI_lt{s:G.St}(hp:PlFit s.pl){f:Nat}(hf:f<4611686018427387904)(v:Int):(s.splitI f v).1<4611686018427387904/\(s.splitI f v).2<4611686018427387904:=by
 cases hn:s.nd (f/2) with
 | none=>rw[splitI_none hn];exact⟨hf,hf⟩
 | some n =>
   rw[splitI_some hn];obtain⟨_,h2,h3,_⟩:=hp.nd _ _ (G.Pl.nd_some.1 hn).2;split
   . exact⟨Kh h2 _,Kh h3 _⟩
   . exact⟨hf,hf⟩
def iteRest(k:Nat)(m:G.Mg):Bool×(Nat ⊕ (Nat×Nat×Nat))->G.Step Nat
 | (t,.inl r)=>some (m,.ok (G.flipIf r t))
 | (t,.inr (f,g,h)) =>
   match m.me.get 1 f g h with
   | some r=>some (m,.ok (G.flipIf r t))
   | none =>
     (G.Mg.ite k m (m.s.splitI f (m.s.topE [f,g,h]).1).1 (m.s.splitI g (m.s.topE [f,g,h]).1).1 (m.s.splitI h (m.s.topE [f,g,h]).1).1).then λm' lo =>
     (G.Mg.ite k m' (m.s.splitI f (m.s.topE [f,g,h]).1).2 (m.s.splitI g (m.s.topE [f,g,h]).1).2 (m.s.splitI h (m.s.topE [f,g,h]).1).2).then λm' hi =>
     (m'.mk_ (m.s.topE [f,g,h]).1 lo hi).then λm' r=>some ({ m' with me:=m'.me.put 1 f g h r },.ok (G.flipIf r t))
theorem ite_succ(k:Nat)(m:G.Mg)(f g h:Nat):G.Mg.ite (k+1) m f g h=iteRest k m (G.iteN 3 false f g h):=rfl
theorem iteN_succ(k:Nat)(t:Bool)(f g h:Nat):G.iteN (k+1) t f g h=match G.iteE f g h with
 | .inl r=>(t,.inl r)
 | .inr (a,b,c,n)=>if a=f/\b=g/\c=h then (t ^^ n,.inr (f,g,h)) else G.iteN k (t ^^ n) a b c:=rfl
theorem NumR.three{I:PH}{X:Nat}{x y z:Nat}(h:(PH.one X (.cells #[nv x,nv y,nv z] 102)).le I):NumR I (.slice (some ⟨X,0,none⟩) 3 3) [x,y,z] :=
 (OwnP.num (l:=[x,y,z]) (OwnP.lit X 102 1 3 #[nv x,nv y,nv z] (by decide) rfl)).le h
theorem MeFit.get{me:G.Memo}(h:MeFit me){op a b c r:Nat}(hg:me.get op a b c=some r):r<4611686018427387904:=by
 unfold G.Memo.get at hg;split at hg
 . rename_i e he
   split at hg
   . injection hg with hg;rw[<- hg];exact (h _ _ he).2.2.2.2
   . cases hg
 . cases hg
def IteC(X D k:Nat):Prop:=∀(m m':G.Mg) (f g h:Nat) (rs:G.Rs Nat),G.Mg.ite k m f g h=some (m',rs)->Sane m.s->f<4611686018427387904->g<4611686018427387904->h<4611686018427387904->∀(E:World) (I p:PH) (ms:List PH) (w:World),I.at X 0=some (vPt D)->MgAt D m p->Sat E I (p::ms) w ->
 Calls Tryz.prog 64 #[vPt X,nv f,nv g,nv h] w λe w'=>e=Yl nv rs/\Sane m'.s/\(∀r,rs=.ok r->r<4611686018427387904)/\∃p',MgAt D m' p'/\Sat E I (p'::ms) w'
theorem xite_step(X D k:Nat)(ih:IteC X D k):IteC X D (k+1):=by
 intro m m' f g h rs hm hs hf hg hh E I p ms w hX hA hS;rw[ite_succ] at hm;have HE:=yH (λ(f g h:Nat) (hf:f<4611686018427387904) (hg:g<4611686018427387904) (hh:h<4611686018427387904) (w':World)=>eite_any (w:=w') f g h hf hg hh);have HP:=yH (λ(w':World) (n:Nat) (b:Bool) (h:n<4611686018427387904)=>Zn (w:=w') n b h);have HN0:Hid (G.iteN 3 false f g h=G.iteN 3 false f g h):=yH rfl;generalize hN:G.iteN 3 false f g h=N at *
 have HM:=yH hm;have HI:=yH ih;have HA:=yH hA;have HNs:=yH hN;clear hm ih hA hN HN0;go_enter Tryz.func64,Tryz.ntmps64
 go_upto_block 0 with fail
 go_cut [1,2,3,9] from 8 to 63 (λv1 v2 v3 v9 wc=>∃(f g h:Nat) (t:Bool),v1=nv f/\v2=nv g/\v3=nv h/\v9=.bool t/\f<4611686018427387904/\g<4611686018427387904/\h<4611686018427387904/\N=(t,.inr (f,g,h))/\Sat E I (p::ms) wc)
 case first =>
  go_wp2_with fail
  go_loopw [1,2,3,9,27] (λv1 v2 v3 v9 v27 wr=>∃(i f g h:Nat) (t:Bool),v1=nv f/\v2=nv g/\v3=nv h/\v9=.bool t/\v27=.int .i64 (i:Int)/\i<=3/\f<4611686018427387904/\g<4611686018427387904/\h<4611686018427387904/\G.iteN (3-i) t f g h=N/\Sat E I (p::ms) wr) (λ_ _ _ _ v27 _=>(3-intOf v27).toNat)
  case atStart=>exact⟨0,f,g,h,false,rfl,rfl,rfl,rfl,rfl,by omega,hf,hg,hh,HNs.out,hS⟩
  case round =>
   clear hS hf hg hh HNs;obtain⟨i,f,g,h,t,rfl,rfl,rfl,rfl,rfl,hi,hf,hg,hh,hN,hS⟩:=hrel;have hEl:=iteE_lt hf hg hh;by_cases hi3:i=3
   . subst hi3
     have hN':N=(t,.inr (f,g,h)):=hN.symm;go_wp2_with fail
     go_meet
     case rel=>exact⟨f,g,h,t,rfl,rfl,rfl,rfl,hf,hg,hh,hN',hS⟩
   . have hiN:(i:Int)<3:=by omega
     have HEc:=yH (HE.out f g h hf hg hh);rw[show 3-i=(2-i)+1 by omega,iteN_succ] at hN;cases he:G.iteE f g h with
     | inl r =>
       rw[he] at hN hEl HEc;have hm:=HM.out;rw[<- hN] at hm;cases hm;simp only[iteV] at HEc;have hr:r<4611686018427387904:=hEl;clear HE HM HI hN hEl he;go_wp2_with (first|(go_at_call 106;with_reducible refine bC (HEc.out _) ?_)|(go_at_call 50;with_reducible refine bC (HP.out _ _ _ hr) ?_))
       go_ret;exact⟨rfl,hs,(λr' e=>by cases e;exact Kh hr _),p,HA.out,hS⟩
     | inr q =>
       obtain⟨a,b,c,n⟩:=q;rw[he] at hN hEl HEc;simp only[iteV] at HEc;obtain⟨ha,hb,hc⟩:=hEl;simp only at hN;by_cases hsame:a=f/\b=g/\c=h
       . rw[jAb hsame] at hN
         obtain⟨rfl,rfl,rfl⟩:=hsame;clear HE HM HI he;go_wp2_with (first|(go_at_call 106;with_reducible refine bC (HEc.out _) ?_)|(refine aG ?_))
         go_meet
         case rel=>exact⟨a,b,c,t ^^ n,rfl,rfl,rfl,rfl,hf,hg,hh,hN.symm,hS⟩
       . rw[jAa hsame] at hN
         have dn:((a:Int)==(f:Int))=false\/(((a:Int)==(f:Int))=true/\((b:Int)==(g:Int))=false)\/(((a:Int)==(f:Int))=true/\((b:Int)==(g:Int))=true/\((c:Int)==(h:Int))=false):=by
          by_cases e1:a=f
          . by_cases e2:b=g
            . have e3:c≠h:=λe3=>hsame ⟨e1,e2,e3⟩
              exact .inr (.inr ⟨by simp only[jRb];omega,by simp only[jRb];omega,by simp;omega⟩)
            . exact .inr (.inl ⟨by simp only[jRb];omega,by simp;omega⟩)
          . exact .inl (by simp;omega)
         clear HE HM HI he hsame;rcases dn with d1|⟨d1,d2⟩|⟨d1,d2,d3⟩
         all_goals
          go_wp2_with (first|(go_at_call 106;with_reducible refine bC (HEc.out _) ?_)|(refine aG ?_))
          exact⟨⟨i+1,a,b,c,t ^^ n,rfl,rfl,rfl,rfl,by go_num,by omega,ha,hb,hc,by rw[<- hN];congr 1;omega,hS⟩,by simp[intOf];omega⟩
 case rest =>
  clear hS hf hg hh HNs HE;obtain⟨f,g,h,t,rfl,rfl,rfl,rfl,hf,hg,hh,hN,hS⟩:=hcut;have hm:=HM.out;rw[hN] at hm;clear HM hN;simp only[iteRest] at hm;have hfit:=HA.out.fit;obtain⟨S,M,H,wv,mS,mM,mH,mW,hSt,hMe,hHs,hW,hS⟩:=HA.out.open_ hS;have hpf:PlFit m.s.pl:=by obtain⟨_,_,P,_,_,_,_,_,_,_,mP,_,_,_,_,_,_,hP,_⟩:=hSt;exact hP.1
  have hmf:=hMe.1;have hget:∀w',Sat E I (PH.one D (.cells (Xe S M H (m.next:Int) wv m.calls) 117)::mS::mM::mH::mW::ms) w'->Calls Tryz.prog 107 #[vPt M,nv 1,nv f,nv g,nv h] w' λe w''=>e=.returned (match m.me.get 1 f g h with|some r=>.tuple #[nv r,.bool true]|none=>.tuple #[.int .i64 0,.bool false])/\∃p',MgAt D m p'/\Sat E I (p'::ms) w'':=λw' h' =>
   (mget_any 1 f g h (by omega) hf hg hh hMe (h'.pick 2 rfl)).mono (by
     rintro e w'' ⟨rfl,mM',hMe',h''⟩;replace h'':=Sat.back (m:=mM) 2 rfl h'';simp only[zF,zG] at h'';exact⟨rfl,MgAt.close (m:=m) hfit hSt hMe' hHs hW h''⟩)
  unfold Xe at hS hget;have HTop:=yH (λ(w':World) (hX':(Qa w').at X 0=some (vPt D)) (hR:MgR (Qa w') D m) (vl:Value) (hl:NumR (Qa w') vl [f,g,h])=>xtop_any hX' hR [f,g,h] vl hl (λx hx=>by simp only[jBa,jCa,jJb] at hx;rcases hx with rfl|rfl|rfl <;> assumption) (by simp));generalize (m.s.topE [f,g,h]).1=v at *
  cases hg1:m.me.get 1 f g h with
  | some r =>
    rw[hg1] at hm;cases hm;have hr:=hmf.get hg1;simp only[hg1] at hget;have HG:=yH hget;clear hget hg1 HTop HI hSt hMe hHs hW hmf hpf;go_wp2_with (first|(go_at_call 107;(with_reducible refine bD (HG.out _ hS) ?_);clear hS;intro w p1 HA1 hS)|(go_at_call 50;with_reducible refine bC (HP.out _ _ _ hr) ?_)|(refine aL ?_))
    go_ret;exact⟨rfl,hs,(λr' e=>by cases e;exact Kh hr _),p1,HA1.out,hS⟩
  | none =>
    rw[hg1] at hm;simp only[hg1] at hget;have HG:=yH hget;have HSf:=yH (λ(w':World) (hX':(Qa w').at X 0=some (vPt D)) (hR:MgR (Qa w') D m)=>xsplit_any hX' hR f v hf);have HSg:=yH (λ(w':World) (hX':(Qa w').at X 0=some (vPt D)) (hR:MgR (Qa w') D m)=>xsplit_any hX' hR g v hg);have HSh:=yH (λ(w':World) (hX':(Qa w').at X 0=some (vPt D)) (hR:MgR (Qa w') D m)=>xsplit_any hX' hR h v hh);obtain⟨bf0,bf1⟩:=splitI_lt hpf hf v;obtain⟨bg0,bg1⟩:=splitI_lt hpf hg v;obtain⟨bh0,bh1⟩:=splitI_lt hpf hh v;generalize (m.s.splitI f v).1=f0 at *
    generalize (m.s.splitI f v).2=f1 at *
    generalize (m.s.splitI g v).1=g0 at *
    generalize (m.s.splitI g v).2=g1 at *
    generalize (m.s.splitI h v).1=h0 at *
    generalize (m.s.splitI h v).2=h1 at *
    clear hget hg1 hSt hMe hHs hW hmf hpf;cases k1:G.Mg.ite k m f0 g0 h0 with
    | none=>rw[k1] at hm;cases hm
    | some q1 =>
      obtain⟨m1,r1⟩:=q1;rw[k1] at hm;have H1:=yH (HI.out m m1 f0 g0 h0 r1 k1 hs bf0 bg0 bh0 E I);clear k1;cases r1 with
      | stop st =>
        cases hm;simp only[Yl] at H1;clear HI;go_wp2_with (first|(go_at_call 107;(with_reducible refine yI (HG.out _ hS) ?_);clear hS HG;rintro e w ⟨rfl,p1,hA1,hS⟩;have HA1:=yH hA1;clear hA1)|(go_at_call 52;(with_reducible refine yI (HTop.out _ (PH.at_le hS.ile hX) (HA1.out.read.le (hS.mle (k:=1) rfl)) _ (NumR.three (hS.mle (k:=0) rfl))) ?_);rintro e w9 ⟨rfl,hb⟩;replace hS:=(hS.below_ hb).drop;clear hb)|(go_at_call 53;first|((with_reducible refine bB hS (HSf.out _ (PH.at_le hS.ile hX) (HA1.out.read.le (hS.mle (k:=0) rfl))) ?_);clear hS;intro w9 hS)|((with_reducible refine bB hS (HSg.out _ (PH.at_le hS.ile hX) (HA1.out.read.le (hS.mle (k:=0) rfl))) ?_);clear hS;intro w9 hS)|((with_reducible refine bB hS (HSh.out _ (PH.at_le hS.ile hX) (HA1.out.read.le (hS.mle (k:=0) rfl))) ?_);clear hS;intro w9 hS))|(go_at_call 64;(with_reducible refine yI (H1.out _ _ _ hX HA1.out hS) ?_);clear hS;rintro e w ⟨rfl,hs1,hr1,p2,hA2,hS⟩;have HA2:=yH hA2;clear hA2)|(refine aL ?_)|(refine aY ?_;clear hS;intro XS w hS))
        refine⟨rfl,?_⟩;exact And.intro rfl ⟨hs1,(λ_ e=>by cases e),p2,HA2.out,hS⟩
      | ok lo =>
        simp only[G.Step.then] at hm;simp only[Yl] at H1;cases k2:G.Mg.ite k m1 f1 g1 h1 with
        | none=>rw[k2] at hm;cases hm
        | some q2 =>
          obtain⟨m2,r2⟩:=q2;rw[k2] at hm;have H2:=yH (λhs1=>HI.out m1 m2 f1 g1 h1 r2 k2 hs1 bf1 bg1 bh1 E I);clear k2 HI;cases r2 with
          | stop st =>
            cases hm;simp only[Yl] at H2;go_wp2_with (first|(go_at_call 107;(with_reducible refine yI (HG.out _ hS) ?_);clear hS HG;rintro e w ⟨rfl,p1,hA1,hS⟩;have HA1:=yH hA1;clear hA1)|(go_at_call 52;(with_reducible refine yI (HTop.out _ (PH.at_le hS.ile hX) (HA1.out.read.le (hS.mle (k:=1) rfl)) _ (NumR.three (hS.mle (k:=0) rfl))) ?_);rintro e w9 ⟨rfl,hb⟩;replace hS:=(hS.below_ hb).drop;clear hb)|(go_at_call 53;first|((with_reducible refine bB hS (HSf.out _ (PH.at_le hS.ile hX) (HA1.out.read.le (hS.mle (k:=0) rfl))) ?_);clear hS;intro w9 hS)|((with_reducible refine bB hS (HSg.out _ (PH.at_le hS.ile hX) (HA1.out.read.le (hS.mle (k:=0) rfl))) ?_);clear hS;intro w9 hS)|((with_reducible refine bB hS (HSh.out _ (PH.at_le hS.ile hX) (HA1.out.read.le (hS.mle (k:=0) rfl))) ?_);clear hS;intro w9 hS))|(go_at_call 64;first|((with_reducible refine yI (H1.out _ _ _ hX HA1.out hS) ?_);clear hS;rintro e w ⟨rfl,hs1,hr1,p2,hA2,hS⟩;have HA2:=yH hA2;have Hs1:=yH hs1;clear hA2 hs1 HA1 H1)|((with_reducible refine yI (H2.out Hs1.out _ _ _ hX HA2.out hS) ?_);clear hS;rintro e w ⟨rfl,hs2,hr2,p3,hA3,hS⟩;have HA3:=yH hA3;clear hA3))|(refine aL ?_)|(refine aY ?_;clear hS;intro XS w hS))
            refine⟨rfl,?_⟩;exact And.intro rfl ⟨hs2,(λ_ e=>by cases e),p3,HA3.out,hS⟩
          | ok hi =>
            simp only at hm;simp only[Yl] at H2;cases k3:m2.mk_ v (lo:Int) (hi:Int) with
            | none=>rw[k3] at hm;cases hm
            | some q3 =>
              obtain⟨m3,r3⟩:=q3;rw[k3] at hm;have H3:=yH (λ(p:PH) (w:World) (hlo:(lo:Int)<4611686018427387904) (hhi:(hi:Int)<4611686018427387904) (hs2:Sane m2.s) (hA:MgAt D m2 p) (hS:Sat E I (p::ms) w)=>xmk_any v (lo:Int) (hi:Int) k3 hX (by omega) (by omega) hs2.tab hA hS);have H4:=yH (λ(hlo:(lo:Int)<4611686018427387904) (hs2:Sane m2.s)=>hs2.mk_ k3 hlo);clear k3;cases r3 with
              | stop st =>
                cases hm;simp only[Yl] at H3;go_wp2_with (first|(go_at_call 107;(with_reducible refine yI (HG.out _ hS) ?_);clear hS HG;rintro e w ⟨rfl,p1,hA1,hS⟩;have HA1:=yH hA1;clear hA1)|(go_at_call 52;(with_reducible refine yI (HTop.out _ (PH.at_le hS.ile hX) (HA1.out.read.le (hS.mle (k:=1) rfl)) _ (NumR.three (hS.mle (k:=0) rfl))) ?_);rintro e w9 ⟨rfl,hb⟩;replace hS:=(hS.below_ hb).drop;clear hb)|(go_at_call 53;first|((with_reducible refine bB hS (HSf.out _ (PH.at_le hS.ile hX) (HA1.out.read.le (hS.mle (k:=0) rfl))) ?_);clear hS;intro w9 hS)|((with_reducible refine bB hS (HSg.out _ (PH.at_le hS.ile hX) (HA1.out.read.le (hS.mle (k:=0) rfl))) ?_);clear hS;intro w9 hS)|((with_reducible refine bB hS (HSh.out _ (PH.at_le hS.ile hX) (HA1.out.read.le (hS.mle (k:=0) rfl))) ?_);clear hS;intro w9 hS))|(go_at_call 64;first|((with_reducible refine yI (H1.out _ _ _ hX HA1.out hS) ?_);clear hS;rintro e w ⟨rfl,hs1,hr1,p2,hA2,hS⟩;have hl1:=hr1 _ rfl;have HA2:=yH hA2;have Hs1:=yH hs1;clear hA2 hs1 HA1 H1 hr1)|((with_reducible refine yI (H2.out Hs1.out _ _ _ hX HA2.out hS) ?_);clear hS;rintro e w ⟨rfl,hs2,hr2,p3,hA3,hS⟩;have hl2:=hr2 _ rfl;have HA3:=yH hA3;have Hs2:=yH hs2;clear hA3 hs2 HA2 H2 hr2))|(go_at_call 63;(with_reducible refine bD (H3.out _ _ (by omega) (by omega) Hs2.out HA3.out hS) ?_);clear hS;intro w p4 HA4 hS)|(refine aL ?_)|(refine aY ?_;clear hS;intro XS w hS))
                refine⟨rfl,?_⟩;exact And.intro rfl ⟨(H4.out (by omega) Hs2.out).1,(λ_ e=>by cases e),p4,HA4.out,hS⟩
              | ok r =>
                cases hm;simp only[Yl] at H3;go_wp2_with (first|(go_at_call 107;(with_reducible refine yI (HG.out _ hS) ?_);clear hS HG;rintro e w ⟨rfl,p1,hA1,hS⟩;have HA1:=yH hA1;clear hA1)|(go_at_call 52;(with_reducible refine yI (HTop.out _ (PH.at_le hS.ile hX) (HA1.out.read.le (hS.mle (k:=1) rfl)) _ (NumR.three (hS.mle (k:=0) rfl))) ?_);rintro e w9 ⟨rfl,hb⟩;replace hS:=(hS.below_ hb).drop;clear hb)|(go_at_call 53;first|((with_reducible refine bB hS (HSf.out _ (PH.at_le hS.ile hX) (HA1.out.read.le (hS.mle (k:=0) rfl))) ?_);clear hS;intro w9 hS)|((with_reducible refine bB hS (HSg.out _ (PH.at_le hS.ile hX) (HA1.out.read.le (hS.mle (k:=0) rfl))) ?_);clear hS;intro w9 hS)|((with_reducible refine bB hS (HSh.out _ (PH.at_le hS.ile hX) (HA1.out.read.le (hS.mle (k:=0) rfl))) ?_);clear hS;intro w9 hS))|(go_at_call 64;first|((with_reducible refine yI (H1.out _ _ _ hX HA1.out hS) ?_);clear hS;rintro e w ⟨rfl,hs1,hr1,p2,hA2,hS⟩;have hl1:=hr1 _ rfl;have HA2:=yH hA2;have Hs1:=yH hs1;clear hA2 hs1 HA1 H1 hr1)|((with_reducible refine yI (H2.out Hs1.out _ _ _ hX HA2.out hS) ?_);clear hS;rintro e w ⟨rfl,hs2,hr2,p3,hA3,hS⟩;have hl2:=hr2 _ rfl;have HA3:=yH hA3;have Hs2:=yH hs2;clear hA3 hs2 HA2 H2 hr2))|(go_at_call 63;(with_reducible refine yI (H3.out _ _ (by omega) (by omega) Hs2.out HA3.out hS) ?_);clear hS;rintro e w ⟨rfl,p4,hA4,hS⟩;have hfit4:=hA4.fit;have hr4:=(H4.out (by omega) Hs2.out).2 _ rfl;refine Veil.out ?_;obtain⟨S4,M4,H4',wv4,mS4,mM4,mH4,mW4,hSt4,hMe4,hHs4,hW4,hS⟩:=hA4.open_ hS;unfold Xe at hS;refine⟨?_⟩;have HA4:=yH hMe4;have Hc4:=yH (λ(mM':PH) (me':G.Memo) (w':World) (a:Xk M4 me' mM') (b:Sat E I (PH.one D (.cells (Xe S4 M4 H4' (m3.next:Int) wv4 m3.calls) 117)::mS4::mM'::mH4::mW4::ms) w')=>MgAt.close (m:={ m3 with me:=me' }) hfit4 hSt4 a hHs4 hW4 b);clear hA4 hfit4 hSt4 hMe4 hHs4 hW4)|(go_at_call 108;(with_reducible refine yI (mput_any 1 f g h r (by omega) hf hg hh hr4 HA4.out (hS.pick 2 rfl)) ?_);clear hS;rintro e w ⟨rfl,mM5,hMe5,hS⟩;replace hS:=Sat.back (m:=mM4) 2 rfl hS;simp only[zF,zG] at hS;have HM5:=yH hMe5;clear hMe5)|(go_at_call 50;with_reducible refine bC (HP.out _ _ _ hr4) ?_)|(refine aL ?_)|(refine aY ?_;clear hS;intro XS w hS))
                go_ret;exact⟨rfl,(H4.out (by omega) Hs2.out).1,Kh hr4 _,Hc4.out _ _ _ HM5.out hS⟩
theorem xite_any(X D:Nat):∀k,IteC X D k
 | 0=>λm m' f g h rs hm=>by cases hm
 | k+1=>xite_step X D k (xite_any X D k)
end
end Go.Proofs.YtidamcdklgfogaaGreat
