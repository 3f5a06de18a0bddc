import Derived.Test.YtidamcdklgfogaaGreatUbe
import Derived.Laws.BytesArg
import Derived.Deep.DeepCutAuto
import Derived.Deep.QuietTactic
set_option linter.unusedVariables false
set_option linter.unusedSimpArgs false
set_option maxRecDepth 100000
set_option maxHeartbeats 8000000
namespace Go.Proofs.YtidamcdklgfogaaGreat
section
open Go.RowKit
theorem results_tmp4{fn:Func}{t u v x:Tmp}(h:fn.results = #[.tmp t,.tmp u,.tmp v,.tmp x])(tmps:Array Value)(P:Program)(w:World) :
  (results fn tmps).run P w=.ok (.tuple #[tmps.getD t undef,tmps.getD u undef,tmps.getD v undef,tmps.getD x undef]) w:=by
 simp[results,h]
theorem rows_info:(Tryz.prog.info? 24).map (λi=>(i.zero,i.size,i.bytes))=some (some (.slice none 0 0),1,24):=by kernel_rfl
def TabRo(J:PH)(v:Value)(l:List (List Bool)):Prop:=∃A c,v=.slice A l.length c/\(0<l.length->∃X off,A=some ⟨X,off,none⟩/\∀(i:Nat) t,l[i]?=some t->∃u,J.at X (off+i)=some u/\BoolRo J u t)
theorem TabRo.le{I J:PH}{v:Value}{l:List (List Bool)}(h:TabRo I v l)(hJ:I.le J):TabRo J v l:=by
 obtain⟨A,c,rfl,h2⟩:=h;refine⟨A,c,rfl,λhn=>?_⟩;obtain⟨X,o,e,h3⟩:=h2 hn;refine⟨X,o,e,λi t ht=>?_⟩;obtain⟨u,h4,h5⟩:=h3 i t ht;exact⟨u,PH.at_le hJ h4,h5.le hJ⟩
theorem OwnP.broN{m:PH}{v:Value}{k:Nat}{l:List Bool}(h:OwnP m 4 1 v k (l.map Value.bool))(hn:l.length=k):BoolRo m v l:=by
 subst hn;exact OwnP.bro h
def SetupR(S:G.Sem)(n:Nat)(ts:List Tr)(evs:List G.Ev)(E:World)(I:PH)(ms:List PH)(e:Ending)(w':World):Prop:=∃D m p l J vl vx,e=.returned (.tuple #[vPt D,vl,vx,.bool true])/\G.Ready S n (Zp n) (Tr.exs ts) evs m l/\m.s.vars.length=n/\I.le J/\IntRo J vl (l.map λh:Nat=>(h:Int))/\TabRo J vx (ts.map λt=>tabL t n)/\MgAt D m p/\Sat E J (p::ms) w'
def newG(m0:G.Mg)(ms:List PH)(s:Nat)(vals:Nat->Value)(_:PH)(ns:List PH):Prop :=
 match s with
 | 0=>ns=ms
 | 1=>∃D p,MgAt D m0 p/\ns=p::ms/\vals 5=.tuple #[vPt D,.int .i64 0]
 | 2=>∃D p,MgAt D m0 p/\ns=p::ms/\vals 6=.tuple #[vPt D,.int .i64 0]
 | 3=>∃D p,MgAt D m0 p/\ns=p::ms/\vals 6=.tuple #[vPt D,.int .i64 0]/\vals 7=vPt D
 | _=>∃D p,MgAt D m0 p/\ns=p::ms/\vals 6=.tuple #[vPt D,.int .i64 0]/\vals 7=vPt D/\vals 9=vPt D
theorem newG.gst{m0:G.Mg}{ms:List PH}(s:Nat)(vals vals':Nat->Value)(J:PH)(ns:List PH)(h:∀j∈[5,6,7,9].take s,vals j=vals' j)(hg:newG m0 ms s vals J ns):newG m0 ms s vals' J ns:=by
 match s,hg,h with
 | 0,hg,_=>exact hg
 | 1,⟨D,p,h1,h2,h3⟩,h=>exact⟨D,p,h1,h2,by rw[<- h 5 (by decide)];exact h3⟩
 | 2,⟨D,p,h1,h2,h3⟩,h=>exact⟨D,p,h1,h2,by rw[<- h 6 (by decide)];exact h3⟩
 | 3,⟨D,p,h1,h2,h3,h4⟩,h=>exact⟨D,p,h1,h2,by rw[<- h 6 (by decide)];exact h3,by rw[<- h 7 (by decide)];exact h4⟩
 | s+4,⟨D,p,h1,h2,h3,h4,h5⟩,h =>
   have h:∀j∈[5,6,7,9],vals j=vals' j:=λj hj=>h j (by rw[jK (by simp)];exact hj)
   exact⟨D,p,h1,h2,by rw[<- h 6 (by decide)];exact h3,by rw[<- h 7 (by decide)];exact h4,by rw[<- h 9 (by decide)];exact h5⟩
theorem newG.gle{m0:G.Mg}{ms:List PH}(s:Nat)(vals:Nat->Value)(J J':PH)(ns:List PH)(_:PH.le J J')(hg:newG m0 ms s vals J ns):newG m0 ms s vals J' ns:=hg
section
variable{S:G.Sem} {n:Nat} {E w:World} {I:PH} {ms:List PH} {order:List Int} {ts:List Tr} {evs:List G.Ev} {vo ve vp:Value}
theorem SmallOk.perm(h:SmallOk n order ts evs):order=[]\/∃o:List Nat,order=o.map (λv=>((v:Nat):Int))/\o.length=n/\o.Nodup/\∀v∈o,v<n:=by
 rcases h.ord with h|⟨h1,h2⟩
 . exact .inl h
 . exact .inr (G.perm_of_count h1 h2)
theorem SmallOk.data(hS1:∀φ ψ χ,S 1 φ ψ χ=G.iteF φ ψ χ)(h:SmallOk n order ts evs) :
  ∃m1 m2 l,G.arrM order.length order 0 (G.Mg.new n (Zp n))=some (m1,true)/\G.Sd S n (G.Mg.new n (Zp n))/\G.ListSt S n 50 (Zp n) (Tr.exs ts) m1 [] m2 l/\G.Sd S n m2/\m2.waits=[]/\m2.fresh=true/\m2.s.vars.length=n/\G.Ready S n (Zp n) (Tr.exs ts) evs { m2 with waits:=evs,calls:=0,fresh:=false } l:=by
 refine G.setup3 hS1 h.n6 rfl h.perm (λe he=>?_) (λe he=>?_) (by rw[Tr.exs_len];exact h.ts5) h.ev6 (G.evsErr_all h.evs0)
 . rw[Tr.exs_map] at he
   obtain⟨t,ht,rfl⟩:=jF.1 he;obtain⟨_,h2,h3⟩:=h.tsok t ht;exact Tr.exOk (rchk_ok t 1 0 (by omega) (by omega) (by omega) h2).1 h3
 . rw[Tr.exs_map] at he
   obtain⟨t,ht,rfl⟩:=jF.1 he;rw[Tr.ex_sz];exact (h.tsok t ht).1
theorem roomOf_le(hn:n<=6):1<=Zp n/\Zp n<=900000:=by
 have p0:0<2^n:=Nat.pow_pos (by decide);have p1:2^n<=64:=jFb (jTa (by decide) hn) (by decide);have p2:2^(2*n)<=4096:=jFb (jTa (by decide) (show 2*n<=12 by omega)) (by decide);unfold Zp;omega
theorem setup_any(hS1:∀φ ψ χ,S 1 φ ψ χ=G.iteF φ ψ χ)(hok:SmallOk n order ts evs)(hA:AskIn I vo ve vp order ts evs)(hS:Sat E I ms w) :
  Calls Tryz.prog 14 #[.agg #[nv n,vo,ve,vp]] w λe w'=>SetupR S n ts evs E I ms e w':=by
 obtain⟨m1,m2,l,q1,q2,q3,q4,q5,q6,q7,q8⟩:=hok.data hS1;have hr:=roomOf_le hok.n6;obtain⟨A2,c2,rfl,hrow⟩:=id hA.e;obtain⟨⟨A3,c3,rfl⟩,hwt,_⟩:=id hA.p;have HRm:=yH (λw=>room_any n hok.n6 w);have HNew:=yH (λ(w:World) (J:PH) (ms:List PH) (hS:Sat E J ms w)=>ddnew_any n (Zp n) (by have:=hok.n6;omega) hr.1 (by omega) hS);have HArr:=yH (λ(w:World) (D:Nat) (p:PH) (ms:List PH) (hM:MgAt D (G.Mg.new n (Zp n)) p) (hS:Sat E I (p::ms) w)=>warrange_any q2 (by have:=hok.n6;omega) hr.2 (by show 2<1000000;decide) hA.o (by rcases hok.ord with h|h;(· rw[h];simp);(· rw[h.1];have:=hok.n6;omega)) q1 hM hS);have HPlan:=yH (λ(w:World) (D:Nat) (p J:PH) (ms:List PH) (hJ:I.le J) (hM:MgAt D m2 p) (hS:Sat E J (p::ms) w)=>mplan_any (hA.p.le hJ) q5 q6 (by have:=hok.ev6;omega) (by rw[q7];exact G.evsErr_all hok.evs0) (by rw[q7];have:=hok.n6;omega) hM hS);have HBuild:=yH (λ(w:World) (D:Nat) (p J:PH) (ms:List PH) (t:Tr) (mi ma:G.Mg) (g:Nat) (ht:t∈ts) (hJ:I.le J) (h1:G.Sd S n mi) (h2:G.Fit n 50 mi (t.ex.sz+3) (3*t.ex.sz)) (h3:mi.s.pl.room=Zp n) (hx:G.ExOk n t.ex) (h4:G.buildM t.ex mi=some (ma,g,true)) (hM:MgAt D mi p) (hS:Sat E J (p::ms) w)=>wbuild_any hS1 hr.2 100000 (jBb _) t E J ms w D mi ma p g (by have:=(hok.tsok t ht).1;omega) ((hA.ein t ht).le hJ) hx h1 h2 h3 h4 hM hS);have HTab:=yH (λ(w:World) (J:PH) (ms:List PH) (t:Tr) (ht:t∈ts) (hJ:I.le J) (hS:Sat E J ms w)=>rtable_any (k:=n) ((hA.ein t ht).le hJ) (hok.tsok t ht).2.1 (by have:=(hok.tsok t ht).1;omega) hok.n6 hS);have HRow:=yH hrow;have HL5:=yH hok.ts5;have HRd:=yH q8;have HVs:=yH q7;have HSt0:=yH q3;have HStep:=yH (λ(i:Nat) (t:Tr) (mi:G.Mg) (acc:List Nat) (ht:ts[i]?=some t) (q:G.ListSt S n 50 (Zp n) (Tr.exs (ts.drop i)) mi acc m2 l)=>by
  rw[Tr.exs_drop ht] at q;exact (And.intro q (q.step hS1)))
 have b5:ts.length<=5:=hok.ts5;have HO:=yH hA.o;obtain⟨A1,c1,rfl,_⟩:=id hA.o;clear hok hA hS1 q1 q2 q3 q4 q5 q6 q7 q8 hrow hwt hr;generalize hRR:Zp n=R at *
 have HRR:=yH hRR;clear hRR;generalize hq1:ts.length=N at *
 generalize hq2:evs.length=N2 at *
 generalize hq3:order.length=N3 at *
 have HQ:=yH hq1;clear hq1 hq2 hq3;go_enter Tryz.func14,Tryz.ntmps14;go_wp2_with (first|(refine aX ?_;clear hS;intro X w hS))
 obtain⟨I1,lI,lx,hS1,bX⟩:=hS.ice;have x0:I1.at X 0=some (nv n):=PH.at_le lx (Qb rfl);clear lI lx hS;refine Qf [[],[0],[],[2],[2,3],[0,1,2,3,4],[0,1,2,3,4,5],[0,1,2,3,4,5,6],[0,1,2,3,4,5,6],[0,1,2,3,4,5,6,7],[0,1,2,3,4,5,6,7,8,9]] E I1 _
  [λv _=>v=.pointer (some ⟨X,0,none⟩),λv _=>v=nv n,λv _=>v=.pointer (some ⟨X,0,none⟩),λv _=>v=nv n,λv _=>v=nv R,λ_ _=>True,λv _=>∃D:Nat,v=.tuple #[vPt D,.int .i64 0],λ_ _=>True,λv _=>v=.int .i64 0,λ_ _=>True,λv _=>v=.int .i64 0] [5,6,7,9]
  (newG (G.Mg.new n R) _) (by kernel_rfl) (by kernel_rfl) (by decide) hS1 rfl ?last newG.gst newG.gle ?plain ?step ?fin
 case last=>exact bL
 case plain =>
  repeat' (first|exact trivial|apply And.intro)
  all_goals first|exact .inl rfl|skip
  all_goals
   refine .inr ?_;intro s vals J9 bs w hstop hg hJ9 hS hG;clear hG
   first
    | (have hx6:∃D:Nat,vals 6=.tuple #[vPt D,.int .i64 0]:=hg.get 6 (by decide)
       obtain⟨D,hD⟩:=hx6;simp only[zH,zI,Given,Facts] at hg;simp only[Qc,Qo,Qi,Qd,zH,zI,zA,zB,zK,jEb,Act.put,zE,zF,zG,hD];refine⟨?_⟩;refine wpStep_of (λK hK=>?_);have HK:=yH hK;clear hK;rw[jAb (by rfl)];go_wp2_with fail
       exact bP)
    | (refine bS ?_;intro K HK
       (first
         | (refine bK ?_)
         | (go_wp2_with (go_at_call 40;(with_reducible refine yI (HRm.out _) ?_);rintro e w2 ⟨rfl,rfl⟩)))
       exact bP)
 case step =>
  refine⟨⟨⟨⟨trivial,?_⟩,?_⟩,?_⟩,?_⟩
  . intro vals J bs w hg hJ hS hG
    have hG:bs=_:=hG;subst hG;refine bS ?_;intro K HK;go_wp2_with (go_at_call 26;(with_reducible refine yI (HNew.out _ _ _ hS) ?_);clear hS;rintro e w ⟨D,p,rfl,hM,hS⟩;have HM:=yH hM;clear hM)
    exact HK.out _ _ ⟨rfl,J,_,PH.le.refl _,hS,trivial,D,p,HM.out,rfl,Qq _ _ _⟩
  . intro vals J bs w hg hJ hS hG
    obtain⟨D,p,hM,rfl,h5⟩:=hG;have HM:=yH hM;clear hM;simp only[zH,zI,Given,Facts] at hg;simp only[Qc,Qo,Qi,Qd,zH,zI,zA,zB,zK,jEb,Act.put,zE,zF,zG,h5];refine⟨?_⟩;refine wpStep_of (λK hK=>?_);have HK:=yH hK;clear hK;rw[jAb (by rfl)];go_wp2_with fail
    exact HK.out _ _ ⟨rfl,J,_,PH.le.refl _,hS,⟨D,rfl⟩,D,p,HM.out,rfl,Qq _ _ _⟩
  . intro vals J bs w hg hJ hS hG
    obtain⟨D,p,hM,rfl,h6⟩:=hG;have HM:=yH hM;clear hM;simp only[zH,zI,Given,Facts] at hg;simp only[Qc,Qo,Qi,Qd,zH,zI,zA,zB,zK,jEb,Act.put,zE,zF,zG,h6];refine⟨?_⟩;refine wpStep_of (λK hK=>?_);have HK:=yH hK;clear hK;rw[jAb (by rfl)];go_wp2_with fail
    exact HK.out _ _ ⟨rfl,J,_,PH.le.refl _,hS,trivial,D,p,HM.out,rfl,(Qw _ _ (by decide)).trans h6,Qq _ _ _⟩
  . intro vals J bs w hg hJ hS hG
    obtain⟨D,p,hM,rfl,h6,h7⟩:=hG;have HM:=yH hM;clear hM;simp only[zH,zI,Given,Facts] at hg;simp only[Qc,Qo,Qi,Qd,zH,zI,zA,zB,zK,jEb,Act.put,zE,zF,zG,h6,h7];refine⟨?_⟩;refine wpStep_of (λK hK=>?_);have HK:=yH hK;clear hK;rw[jAb (by rfl)];go_wp2_with fail
    exact HK.out _ _ ⟨rfl,J,_,PH.le.refl _,hS,trivial,D,p,HM.out,rfl,(Qw _ _ (by decide)).trans h6,(Qw _ _ (by decide)).trans h7,Qq _ _ _⟩
 case fin =>
  intro vals J9 bs w hJ hg hS hG;obtain⟨D,p0,hM,rfl,h6,h7,h9⟩:=hG;have hS:=(bX _ _ (hS.less hJ)).sw;have HM:=yH hM;clear hM hJ bX x0 hS1;simp only[yB,yC,Nat.reduceAdd,Below_,Facts,zH,zI,kS,kJb] at hg;obtain⟨⟨⟨⟨⟨⟨⟨e0,e1⟩,e2⟩,e3⟩,e4⟩,_⟩,e8⟩,e10⟩:=hg;simp only[yB,yC,Nat.reduceAdd,Qc,Qo,Qi,zA,zB,zK,jEb,Act.put,zE,zF,zG,e0,e1,e2,e3,e4,e8,e10,h6,h7,h9];refine⟨?_⟩;clear e0 e1 e2 e3 e4 e8 e10 h6 h7 h9;generalize vals 5=v5;go_wp2_with (first
   | (go_at_call 41;(with_reducible refine bD (HArr.out _ _ _ _ HM.out hS) ?_);clear hS;intro w p1 HM1 hS)
   | (refine aG ?_)|(refine aL ?_))
  have HS1:=yH (Sat.up2 (hS.empty).empty);clear hS;go_loopw [8,9,40] (λv8 v9 v40 wr=>∃(i:Nat) (mi:G.Mg) (acc:List Nat) (us:List Value) (J pi mr mx:PH),i<=N/\v40=.int .i64 (i:Int)/\acc.length=i/\us.length=i/\OwnP mr 3 1 v8 acc.length (acc.map nv)/\OwnP mx 24 1 v9 us.length us/\(∀(k:Nat) u,us[k]?=some u->∃t,ts[k]?=some t/\BoolRo J u (tabL t n))/\G.ListSt S n 50 R (Tr.exs (ts.drop i)) mi acc m2 l/\MgAt D mi pi/\I.le J/\Sat E J (pi::mr::mx::PH.one X (.cells #[nv n,.slice A1 N3 c1,.slice A2 N c2,.slice A3 N2 c3] 38)::ms) wr) (λ_ _ v40 _=>(N-intOf v40).toNat)
  case atStart=>exact⟨0,m1,[],[],I,p1,Ku,Ku,jC _,rfl,rfl,rfl,OwnP.nil _ _,OwnP.nil _ _,λk u h=>by simp at h,HSt0.out,HM1.out,PH.le.refl _,HS1.out⟩
  case round =>
   clear HS1 HM1 HM HSt0 HArr HNew HRm;obtain⟨i,mi,acc,us,J,pi,mr,mx,hi,rfl,hacc,hus,hO,hOx,htb,hst,hM,hJ,hS⟩:=hrel;obtain⟨Aa,ca,rfl,_⟩:=OwnP.shape hO;obtain⟨Ab,cb,rfl,_⟩:=OwnP.shape hOx;by_cases hlt:i<N
   . obtain⟨t,hget⟩:∃t,ts[i]?=some t:=⟨_,yA (by rw[HQ.out];exact hlt)⟩
     obtain⟨Y,off,rfl,hc⟩:=HRow.out.2 (by rw[HQ.out];omega);have hcell:=(hc i t hget).le hJ;obtain⟨hq,hfe,ma,g,hbu,hst2⟩:=HStep.out i t mi acc hget hst;have HBt:=yH (λ(w:World) (ms:List PH) (hS:Sat E J (pi::ms) w)=>HBuild.out w D pi J ms t mi ma g (jCb hget) hJ hq.ok hfe hq.room (hq.oks _ (.head _)) hbu hM hS);have HTt:=yH (λ(w:World) (ms:List PH) (hS:Sat E J ms w)=>HTab.out w J ms t (jCb hget) hJ hS);have HSt2:=yH hst2;have HJ0:=yH hJ;have HTb:=yH htb;have HGt:=yH hget;have HOx:=yH hOx;have HLen:=yH (And.intro hacc hus);have la:acc.length<=5:=by omega
     have lb:us.length<=5:=by omega
     unfold Tr.cells at hcell;unfold Tr.val at HBt HTt;have k0:(0:Int)<=(i:Int):=by omega
     have k1:(i:Int)<(N:Int):=by omega
     clear hget hc hst hq hfe hbu hst2 hM hJ htb hOx hacc hus;generalize t.op=op at *
     generalize t.var=var at *
     generalize t.A=tA at *
     generalize t.kids.length=tl at *
     generalize t.cap=tc at *
     go_wp2_with (first
      | (go_at_call 42;(with_reducible refine bD (HBt.out _ _ hS.sw) ?_);clear hS;intro w pa HMa hS)
      | (go_at_call 43;(with_reducible refine yI (HTt.out _ _ hS) ?_);clear hS;rintro e w ⟨vT,mT,rfl,hOT,hS⟩;obtain⟨AT,cT,rfl,_⟩:=OwnP.shape hOT;obtain⟨J2,lJ2,lm2,hS2,_⟩:=hS.ice;have HBo:=yH hOT;have HLe:=yH (And.intro lJ2 lm2);clear hS hOT lJ2 lm2;have hS:=hS2;clear hS2;have HOi:=yH hO;clear hO;have hO:=HOx.out)
      | (at_builtin;(refine' apP (p:=_) (m:=_) (v:=_) (n:=_) (xs:=_) (news:=_) 3 (.inr (List.Mem.head _)) hS rfl rfl rfl Tryz.underlying23 Ko rfl (by decide) rfl ?hown rfl ?hl ?hcl ?h1 ?h63 ?hby ?_);(case hown=>assumption);(case hcl=>exact Cells.one _ _ _ _);(case hl=>rfl);(case h1=>rfl);(case h63=>go_light;unfold maxLen;omega);(case hby=>go_light;omega);clear hS hO;intro v1 m1 w hO hS;(try simp only[zF,zG] at hS);(try simp only[Act.put,zE,zF,zG]))
      | (at_builtin;(refine' apP (p:=_) (m:=_) (v:=_) (n:=_) (xs:=_) (news:=_) 5 (.inr (List.Mem.head _)) hS rfl rfl rfl Tryz.underlying42 rows_info rfl (by decide) rfl ?hown rfl ?hl ?hcl ?h1 ?h63 ?hby ?_);(case hown=>assumption);(case hcl=>exact Cells.one _ _ _ _);(case hl=>rfl);(case h1=>rfl);(case h63=>go_light;unfold maxLen;omega);(case hby=>go_light;omega);clear hS hO;intro v1 m1 w hO hS;(try simp only[zF,zG] at hS);(try simp only[Act.put,zE,zF,zG]))
      | ((with_reducible refine Qu ?_);first|((with_reducible refine Xi 11 ?_);(refine' al (z:=_) hS rfl rfl ?ha ?_);(case ha=>exact ty_z87);clear hS;intro Y11 w hS;(try simp only[Value.cells] at hS);(try simp only[Act.put,zE,zF,zG]))|((with_reducible refine Qe ?_);(first|(refine ld1 5 hS rfl rfl ?ha rfl rfl rfl ?_;(case ha =>  exact Qh ))|(refine ldN 0 hS rfl rfl ?ha rfl rfl ?hb ?_;(case ha=>exact Xl);(case hb=>exact Xd))|(refine ldN 2 hS rfl rfl ?ha rfl rfl ?hb ?_;(case ha=>exact Xl);(case hb=>exact Xd))|((refine' ldIN (vs:=_) hS rfl rfl ?ha rfl ?hc ?hb ?_);(case ha=>exact Xl);(case hc=>assumption);(case hb=>exact Xd)));(try simp only[Act.put,zE,zF,zG]))|((with_reducible refine Xa ?_);( (refine stN 0 hS rfl rfl rfl rfl rfl ?ha rfl rfl ?_;(case ha=>exact Xd)) );clear hS;intro w hS;(try simp only[zG,Act.eval,zD,zC,zA,zB,zJ,Value.cells] at hS);(try simp only[Act.put]))|((with_reducible refine Kz ?_);(refine' bsl hS ?hr ?_);(case hr=>(intro w0;go_simp;rfl));clear hS;intro XS w hS;(try simp only[Act.put,zE,zF,zG]))))
     have hbo:BoolRo J2 _ (tabL t n):=(OwnP.broN HBo.out (by unfold tabL;simp)).le HLe.out.2;exact⟨⟨i+1,ma,acc++[g],us++[_],J2,pa,_,m1,by omega,by go_num,by rw[yG,HLen.out.1];rfl,by rw[yG,HLen.out.2];rfl,by rw[yG,jGa];exact HOi.out,by rw[yG];exact hO,λk u hu=>by
      by_cases hk:k<us.length
      . rw[jHa hk] at hu
        obtain⟨t',h1,h2⟩:=HTb.out k u hu;exact⟨t',h1,h2.le HLe.out.1⟩
      . rw[jOa (by omega)] at hu
        have hk0:k-us.length=0:=by
         have:=(yE.1 hu).1;simp at this
         omega
        rw[hk0] at hu;simp only[zB,jEa] at hu;subst hu
        have:k=i:=by have:=HLen.out.2;omega
        subst this;exact⟨t,HGt.out,hbo⟩,HSt2.out,HMa.out,PH.le.trans HJ0.out HLe.out.1,hS.drop.drop.sw.drop⟩,by simp[intOf];omega⟩
   . obtain rfl:i=N:=by omega
     have k2:¬(i:Int)<(i:Int):=by omega
     rw[kVa (by rw[HQ.out];exact jBb _),Tr.exs] at hst;obtain⟨rfl,rfl⟩:=hst.done;have HPl:=yH (λ(w:World) (ms:List PH) (hS:Sat E J (pi::ms) w)=>HPlan.out w D pi J ms hJ hM hS);have HJ0:=yH hJ;have HOi:=yH hO;have HOx:=yH hOx;have HTb:=yH htb;have HLen:=yH (And.intro hacc hus);clear hst hM hJ hO hOx htb hacc hus HPlan HBuild HTab HStep;go_wp2_with (first
      | (go_at_call 44;(with_reducible refine bD (HPl.out _ _ hS) ?_);clear hS;intro w p9 HM9 hS)
      | (refine aL ?_))
     skip
     refine bodyPost_ret (results_tmp4 rfl _ _ _) rfl ?_;obtain⟨J1,a1,b1,hS1,_⟩:=hS.sw.ice;obtain⟨J2,a2,b2,hS2,_⟩:=hS1.sw.ice;refine⟨D,{ mi with waits:=evs,calls:=0,fresh:=false },p9,acc,J2,_,_,rfl,(by rw[HRR.out];exact HRd.out),HVs.out,PH.le.trans HJ0.out (PH.le.trans a1 a2),?_,?_,HM9.out,hS2.sw.drop⟩
     . obtain⟨A,c,e,hg⟩:=OwnP.iget HOi.out rfl
       refine⟨A,c,by rw[jHb];exact e,λhn=>?_⟩;rw[jHb] at hn;obtain⟨Z,rfl,_⟩:=hg 0 acc[0] (yA hn);refine⟨Z,0,rfl,λk x hx=>?_⟩;rw[jO] at hx;obtain⟨h,hh,rfl⟩:=kB.1 hx;obtain⟨Z',ez,hz⟩:=hg k h hh;cases ez;rw[jLb];exact PH.at_le a2 (PH.at_le b1 hz)
     . obtain⟨A,c,e,_⟩:=OwnP.shape HOx.out
       have hul:us.length=(ts.map λt=>tabL t n).length:=by rw[jHb,HQ.out];exact HLen.out.2
       refine⟨A,c,by rw[<- hul];exact e,λhn=>?_⟩;rw[<- hul] at hn;have hO:=HOx.out;rw[e] at hO;obtain⟨Z,rfl,hz⟩:=OwnP.cells hO hn;refine⟨Z,0,rfl,λk tb htb=>?_⟩;rw[jO] at htb;obtain⟨t,ht,rfl⟩:=kB.1 htb;have hk:k<us.length:=by rw[HLen.out.2];have:=(yE.1 ht).1;rw[HQ.out] at this;exact this
       obtain⟨t',h1,h2⟩:=HTb.out k us[k] (yA hk);rw[ht] at h1;injection h1 with h1
       subst h1;exact⟨us[k],PH.at_le b2 (hz k _ (yA hk)),h2.le (PH.le.trans a1 a2)⟩
end
end
section
open Go.RowKit
end
section
def dg(n:Nat):List Nat:=if n<10 then [n] else dg (n/10)++[n%10]
termination_by n
decreasing_by omega
def val(l:List Nat):Nat:=l.foldl (λa d=>10*a+d) 0
theorem dg_small{n:Nat}(h:n<10):dg n=[n]:=by rw[dg,jAb h]
theorem dg_big{n:Nat}(h:10<=n):dg n=dg (n/10)++[n%10]:=by rw[dg,jAa (by omega)]
theorem dg_lt(n:Nat):∀d∈dg n,d<10:=by
 induction n using Nat.strongRecOn with
 | _ n ih =>
   by_cases h:n<10
   . rw[dg_small h];simpa using h
   . rw[dg_big (by omega)]
     intro d hd;rcases jH.1 hd with h1|h1
     . exact ih (n/10) (by omega) d h1
     . simp at h1;omega
theorem dg_ne(n:Nat):dg n≠[]:=by
 by_cases h:n<10
 . rw[dg_small h];simp
 . rw[dg_big (by omega)];simp
def bytes(l:List Nat):List UInt8:=l.map λd=>UInt8.ofNat (48+d)
theorem dg_len_le(n k:Nat)(h:n<10^k)(hk:0<k):(dg n).length<=k:=by
 induction k generalizing n with
 | zero=>omega
 | succ k ih =>
   by_cases h1:n<10
   . rw[dg_small h1];simp
   . rw[dg_big (by omega),yG,List.length_singleton]
     have hk':0<k:=by
      rcases kQb k with rfl|hk'
      . simp at h;omega
      . exact hk'
     have:=ih (n/10) (by rw[Nat.pow_succ] at h;omega) hk';omega
end
section
open Go.ChangeShapes Go.WideShapes Go.ChangeAt Go.RowKit
def I64(a:Int):Prop := -9223372036854775808<=a/\a<=9223372036854775807
theorem reti{k:IntKind}{a b:Int}(h:a=b):Ending.returned (.int k a)=.returned (.int k b):=by rw[h]
theorem size_any(n:Int)(w:World)(hn:I64 n) :
  Calls Tryz.prog 77 #[.int .i64 n] w λr w'=>r=.returned (.int .u64 (n.natAbs:Int))/\w=w':=by
 by_cases h:n<0
 . go_enter Tryz.func77,Tryz.ntmps77
   go_wp2
   go_ret;refine⟨reti ?_,rfl⟩
   go_light
   unfold I64 at hn;simp only[IntKind.wrap_u64];omega
 . go_enter Tryz.func77,Tryz.ntmps77
   go_wp2
   go_ret;refine⟨reti ?_,rfl⟩
   go_light
   unfold I64 at hn;simp only[IntKind.wrap_u64];omega
end
section
open Go.ChangeShapes Go.WideShapes Go.ChangeAt Go.RowKit
def chars(l:List Nat):List Int:=l.map λd=>((48+d:Nat):Int)
theorem Zd(l:List Nat):(chars l).length=l.length:=by simp[chars]
def ntextL(n:Int):List Int:=(if n<0 then [45] else [])++chars (dg n.natAbs)
def textS(n:Int):ByteArray:=strOfNums (ntextL n)
theorem dg_len19(n:Int)(h:I64 n):(dg n.natAbs).length<=19:=dg_len_le _ _ (by unfold I64 at h;omega) (by omega)
def At(m u:Nat)(acc:List Nat):Prop:=(acc=[]/\u=m)\/(acc≠[]/\(0<u->dg u++acc=dg m)/\(u=0->acc=dg m))
theorem At.step{m u:Nat}{acc:List Nat}(h:At m u acc)(hgo:acc=[]\/0<u):At m (u/10) (u%10::acc):=by
 right
 refine⟨by simp,?_,?_⟩
 . intro hu
   rcases h with⟨rfl,rfl⟩|⟨h1,h2,_⟩
   . rw[dg_big (n:=u) (by omega)]
   . rw[<- h2 (by omega),dg_big (n:=u) (by omega),jE];rfl
 . intro hu
   rcases h with⟨rfl,rfl⟩|⟨h1,h2,_⟩
   . rw[dg_small (n:=u) (by omega),kJ (by omega)]
   . have h3:0<u:=by rcases hgo with h|h;exact absurd h h1;exact h
     rw[<- h2 h3,dg_small (n:=u) (by omega),kJ (by omega)];rfl
theorem At.stop{m u:Nat}{acc:List Nat}(h:At m u acc)(h1:acc≠[])(h2:u=0):acc=dg m:=by
 rcases h with⟨h,_⟩|⟨_,_,h⟩
 . exact absurd h h1
 . exact h h2
theorem At.len{m u:Nat}{acc:List Nat}(h:At m u acc)(hgo:acc=[]\/0<u)(hm:(dg m).length<=19):acc.length<=18:=by
 rcases h with⟨rfl,_⟩|⟨h1,h2,_⟩
 . simp
 . rcases hgo with h|h
   . exact absurd h h1
   . have:=h2 h
     have h3:=jNa List.length this;have h4:0<(dg u).length:=List.length_pos_iff.2 (dg_ne u);rw[yG] at h3;omega
def cellsA(acc:List Int):Array Value:=(List.replicate (20-acc.length) (Value.int .u8 0)++acc.map (Value.int .u8)).toArray
theorem cellsA_get(acc:List Int)(i:Nat)(h:i<acc.length)(hl:acc.length<=20):(cellsA acc)[20-acc.length+i]?=some (.int .u8 (acc.getD i 0)):=by
 simp only[cellsA,List.getElem?_toArray];rw[jOa (by simp),kM,show 20-acc.length+i-(20-acc.length)=i by omega];simp[h]
theorem cellsA_push(acc:List Int)(d:Int)(q:Nat)(h:q+1+acc.length=20):(cellsA acc).setIfInBounds q (.int .u8 d)=cellsA (d::acc):=by
 have h1:20-acc.length=q+1:=by omega
 have h2:20-(acc.length+1)=q:=by omega
 simp only[cellsA,yB,h1,h2,jDb];apply Array.ext';simp only[Array.toList_setIfInBounds];rw[List.replicate_succ',jE,List.set_append_right _ _ (by simp)];simp
theorem cellsA_zero(acc:List Int)(q:Nat)(h:q+1+acc.length=20):(cellsA acc)[q]?=some (.int .u8 0):=by
 simp only[cellsA,List.getElem?_toArray];rw[jHa (by rw[kM];omega),kUa,jAb (by omega)]
theorem rets{a b:ByteArray}(h:b=a):Ending.returned (.string a)=.returned (.string b):=by rw[h]
theorem cellsA_cell(w:World)(acc:List Int)(q:Nat)(h:q+acc.length=20)(i:Nat)(hi:i<20-q)(t:TypeId):(w.alloc (.cells (cellsA acc) t)).cell? ⟨w.heap.size,q+i,none⟩=some (.int .u8 (acc.getD i 0)):=by
 rw[World.cell?_alloc_new]
 have:=cellsA_get acc i (by omega) (by omega)
 rwa [show 20-acc.length=q by omega] at this
theorem text_any(n:Int)(w:World)(hn:I64 n) :
  Calls Tryz.prog 32 #[.int .i64 n] w λr w'=>r=.returned (.string (textS n))/\Below w.heap.size w w':=by
 have h19:=dg_len19 n hn;have hs:=λw=>size_any n w hn
 have Hs:=yH hs;have hb:(n.natAbs:Int)<=9223372036854775808:=by unfold I64 at hn;omega
 clear hs hn;generalize hm:n.natAbs=m at *
 have Hm:=yH hm;have H19:=yH h19;clear hm h19;go_enter Tryz.func32,Tryz.ntmps32;go_wp2_with (go_at_call 77;refine (Hs.out _).mono ?_;rintro r w' ⟨rfl,rfl⟩)
 go_loopw [4,5] (λp u wr=>∃(acc:List Nat) (q v:Nat),q+acc.length=20/\p=.int .i64 q/\u=.int .u64 v/\(v:Int)<=9223372036854775808/\At m v acc/\wr=w.alloc (.cells (cellsA (chars acc)) 135)) (λp _ _=>(intOf p).toNat)
 case atStart=>exact⟨[],20,m,rfl,rfl,rfl,hb,Or.inl ⟨rfl,rfl⟩,rfl⟩
 case round =>
  obtain⟨acc,q,v,hq,rfl,rfl,hv,hat,rfl⟩:=hrel;have Hat:=yH hat;clear hat;by_cases hA:acc=[]
  . subst hA
    obtain rfl:q=20:=by simpa using hq
    have hst:=Hat.out.step (Or.inl rfl);have Hst:=yH hst;have hpush:=cellsA_push (chars []) ((48+v%10:Nat):Int) 19 rfl;have hc0:(cellsA (chars []))[19]?=some (.int .u8 0):=rfl;have Hpush:=yH hpush;clear hst hq hpush;go_wp2
    go_roundw
    case rel=>exact⟨[v%10],19,v/10,rfl,rfl,by go_num,by omega,Hst.out,by rw[show (48+(v:Int)%10)=((48+v%10:Nat):Int) from by omega,Hpush.out];rfl⟩
    case measure=>simp[intOf]
  . have ha1:1<=acc.length:=by cases acc with|nil=>exact absurd rfl hA|cons _ _=>simp
    by_cases hv0:0<v
    . have hl:=Hat.out.len (Or.inr hv0) H19.out
      obtain⟨p,rfl⟩:∃p,q=p+1:=⟨q-1,by omega⟩;have hp:p<20:=by omega
      have hne:((p:Int)+1==20)=false:=by rw[jGb];omega
      have hcell:=cellsA_zero (chars acc) p (by rw[Zd];exact hq);have hst:=Hat.out.step (Or.inr hv0);have Hst:=yH hst;have hpush:=cellsA_push (chars acc) ((48+v%10:Nat):Int) p (by rw[Zd];exact hq);have Hpush:=yH hpush;have Hq:=yH hq;clear hq hst hpush;go_wp2
      go_roundw
      case rel=>exact⟨v%10::acc,p,v/10,by have:=Hq.out;rw[yB];omega,rfl,by go_num,by omega,Hst.out,by rw[show (48+(v:Int)%10)=((48+v%10:Nat):Int) from by omega,Hpush.out];rfl⟩
      case measure=>simp[intOf]
    . obtain rfl:v=0:=by omega
      have hne:((q:Int)==20)=false:=by rw[jGb];omega
      have hacc:=Hat.out.stop hA rfl;have hq20:(q:Int)<=20:=by omega
      have hq19:q<=19:=by omega
      have Hacc:=yH hacc;have Hq:=yH hq;have hq1:1<=q:=by have:=H19.out;rw[<- hacc] at this;omega
      clear hacc hq;by_cases hneg:n<0
      . obtain⟨p,rfl⟩:∃p,q=p+1:=⟨q-1,by omega⟩
        have hp:p<20:=by omega
        have hne:((p:Int)+1==20)=false:=by rw[jGb];omega
        have hp20:¬20=p:=by omega
        have hpi:(p:Int)<=20:=by omega
        have hconv:=run_convert_bytes_arg (w.alloc (.cells (cellsA (45::chars acc)) 135)) 39 5 Tryz.underlying39 Tryz.underlying5 w.heap.size p (20-p) (20-p) (45::chars acc) (by have:=Hq.out;simp only[yB,Zd];omega) (λi hi=>cellsA_cell w _ p (by have:=Hq.out;simp only[yB,Zd];omega) i hi 135) 9 Tryz.underlying9;have hcell:=cellsA_zero (chars acc) p (by rw[Zd];exact Hq.out);have hpush:=cellsA_push (chars acc) 45 p (by rw[Zd];exact Hq.out);go_wp2
        go_ret;refine⟨rets ?_,(Below.refl _ _).alloc (jBb _) _⟩;have e:ntextL n=[45]++chars (dg n.natAbs):=by unfold ntextL;rw[jAb hneg]
        unfold textS;rw[e,Hm.out,<- Hacc.out];rfl
      . have hp20:¬20=q:=by omega
        have hconv:=run_convert_bytes_arg (w.alloc (.cells (cellsA (chars acc)) 135)) 39 5 Tryz.underlying39 Tryz.underlying5 w.heap.size q (20-q) (20-q) (chars acc) (by have:=Hq.out;rw[Zd];omega) (λi hi=>cellsA_cell w _ q (by have:=Hq.out;rw[Zd];exact this) i hi 135) 9 Tryz.underlying9;go_wp2
        go_ret;refine⟨rets ?_,(Below.refl _ _).alloc (jBb _) _⟩;have e:ntextL n=[]++chars (dg n.natAbs):=by unfold ntextL;rw[jAa (by omega)]
        unfold textS;rw[e,Hm.out,<- Hacc.out];rfl
end
section
open Go.ChangeShapes Go.WideShapes Go.ChangeAt Go.RowKit
end
section
open Go.RowKit
def lst(s:ByteArray):List Nat:=s.data.toList.map UInt8.toNat
theorem lst_length(s:ByteArray):(lst s).length=s.size:=by unfold lst;rw[jHb,Array.length_toList];rfl
theorem lst_inj{s t:ByteArray}(h:lst s=lst t):s=t:=by
 unfold lst at h;have h2:s.data.toList=t.data.toList:=(List.map_inj_right (λa b e=>UInt8.toNat_inj.1 e)).1 h;obtain⟨⟨a⟩⟩:=s;obtain⟨⟨b⟩⟩:=t
 simpa using h2
theorem lst_strOfNums(l:List Nat)(h:∀c∈l,c<256):lst (strOfNums (l.map λc:Nat=>(c:Int)))=l:=by
 unfold lst;rw[strOfNums_data,jXa,jXa];conv=>rhs;rw[<- List.map_id l]
 refine jXb λc hc=>?_
 have:=h c hc;simp[kJ this]
def dig(c:Nat):Bool:=decide (48<=c/\c<=57)
def ok(b:Bool)(d:List Nat):Bool:=!d.isEmpty && !(d.head? == some 48&&(b||decide (1<d.length)))&&d.all dig
def txt(n:Int):List Nat:=(if n<0 then [45] else [])++(dg n.natAbs).map λd=>48+d
theorem txt_lt(n:Int):∀c∈txt n,c<256:=by
 intro c hc;unfold txt at hc;rcases jH.1 hc with h|h
 . split at h
   . simp at h;omega
   . simp at h
 . simp only[jF] at h
   obtain⟨d,hd,rfl⟩:=h
   have:=dg_lt _ d hd;omega
theorem lst_textS(n:Int):lst (textS n)=txt n:=by
 have:ntextL n=(txt n).map λc:Nat=>(c:Int):=by
  unfold ntextL txt chars;rw[jGa,jXa];congr 1
  split <;> rfl
 unfold textS;rw[this,lst_strOfNums _ (txt_lt n)]
end
section
open Go.ChangeShapes Go.WideShapes Go.ChangeAt Go.RowKit
end
section
open Go.ChangeShapes Go.WideShapes Go.ChangeAt Go.RowKit
def pl(A:List Nat):List Nat:=A.map λd=>48+d
end
section
open Go.ChangeShapes Go.WideShapes Go.ChangeAt Go.RowKit
theorem textS_size(n:Int)(h:I64 n):(textS n).size<=20:=by
 rw[<- lst_length,lst_textS];unfold txt;rw[yG,jHb]
 have:=dg_len19 n h;split <;> simp <;> omega
end
section
open Go.ChangeShapes Go.WideShapes Go.ChangeAt Go.RowKit
end
section
open Go.ChangeShapes Go.WideShapes Go.ChangeAt Go.RowKit
end
end Go.Proofs.YtidamcdklgfogaaGreat
