import Derived.Test.YtidamcdklgfogaaGreatUai
set_option linter.unusedVariables false
set_option linter.unusedSimpArgs false
set_option maxRecDepth 100000
set_option maxHeartbeats 4000000
namespace Go.Proofs.YtidamcdklgfogaaGreat
section
open Go.RowKit
section
variable{w:World} {S:Nat} {s:G.St}
theorem ssplit_any(h:StR (Qa w) S s)(f v:Nat)(hf:f<9223372036854775808):Calls Tryz.prog 157 #[vPt S,nv f,nv v] w λe w'=>e=.returned (.tuple #[nv (s.split f v).1,nv (s.split f v).2])/\Below w.heap.size w w':=by
 cases hn:s.nd (f/2) with
 | none =>
   have hr:s.split f v=(f,f):=by rw[G.split_eq,hn]
   have HC:=yH (sat_none h f hf hn);rw[hr];clear h;go_enter Tryz.func157,Tryz.ntmps157;go_wp2_with (go_at_call 94;(with_reducible refine yI HC.out ?_);rintro e w2 ⟨rfl,hE⟩;have HE:=yH hE;clear hE)
   go_ret2;exact⟨rfl,HE.out⟩
 | some n =>
   have HC:=yH (sat_some h f hf hn);by_cases hv:n.v=v
   . have hr:s.split f v=(G.flipIf n.lo (f%2==1),G.flipIf n.hi (f%2==1)):=by rw[G.split_eq,hn];exact jAb hv
     rw[hr];rw[hv] at HC;clear h;go_enter Tryz.func157,Tryz.ntmps157;go_wp2_with (go_at_call 94;(with_reducible refine yI HC.out ?_);rintro e w2 ⟨rfl,hE⟩;have HE:=yH hE;clear hE)
     go_ret2;exact⟨rfl,HE.out⟩
   . have hr:s.split f v=(f,f):=by rw[G.split_eq,hn];exact jAa hv
     have hv':¬(n.v:Int)=(v:Int):=by omega
     rw[hr];clear h;go_enter Tryz.func157,Tryz.ntmps157;go_wp2_with (go_at_call 94;(with_reducible refine yI HC.out ?_);rintro e w2 ⟨rfl,hE⟩;have HE:=yH hE;clear hE)
     go_ret2;exact⟨rfl,HE.out⟩
theorem sunder_any(h:StR (Qa w) S s)(f:Nat)(l:Int)(hf:f<9223372036854775808):Calls Tryz.prog 132 #[vPt S,nv f,.int .i64 l] w λe w'=>e=.returned (.bool (s.under f l))/\Below w.heap.size w w':=by
 have hR:=h;obtain⟨h0,L,P,vV,vL,vT,vC,gs,h1,iS1,h3,h4,h5,h6,h7,h8,h9,hP,h11,h12,h13,h14⟩:=h;have HN:=yH (λw':World=>Xs w' f hf);have HA:=yH (λ(w':World) (hle:(Qa w).le (Qa w'))=>pat_nat (hP.le hle) (f/2));have HV5:=yH (Km (f/2) (s.pl.nd (f/2))).1;have HV1:=yH (Km (f/2) (s.pl.nd (f/2))).2;have HLv:=yH (λ(w':World) (v:Int) (hle:(Qa w).le (Qa w'))=>slevel_any (hR.le hle) v);have hz:f/2=0->s.pl.nd (f/2)=none:=λh=>by rw[h];exact G.Pl.nd_zero _
 clear h0 h1 h3 h4 h5 h6 h7 h8 h9 hP h11 h12 h13 h14 hR;have hS:Sat w (Qa w) ([]++[]) w:=Sat.start w;have u1:s.pl.nd (f/2)=none->s.under f l=(f/2==0):=λho=>by unfold G.St.under G.St.nd;simp[ho]
 have u2:∀n,s.pl.nd (f/2)=some n->¬f/2=0->s.under f l=decide (s.level n.v>l):=λn ho hc=>by unfold G.St.under G.St.nd;simp[ho,hc]
 cases hn:s.pl.nd (f/2) with
 | none =>
   rw[hn] at HA HV5 HV1;rw[u1 hn];clear u1 u2 hn hz HLv;go_enter Tryz.func132,Tryz.ntmps132;go_wp2_with fail
   refine Zf [[],[0],[0,1],[0,1,2],[],[4],[0,1,2,3,4,5],[0,1,2,3,4,5,6],[0,1,2,3,4,5,6,7],[0,1,2,3,4,5,6,7],[],[0,1,2,3,4,5,6,7,8,10],[0,1,2,3,4,5,6,7,8,9,10,11]] _ _ [] _ [⟨10,11,194,#[.int .i64 0,.int .i64 0,.int .i64 0,.int .i64 0,.int .i64 0],λcs _=>cs=(ndW (f/2) none).cells⟩] [λv _=>v=vPt S,λv _=>v=vPt S,λv _=>v=.pointer (some ⟨S,1,none⟩),λv _=>v=vPt P,λv _=>v=nv (f),λv _=>v=nv ((f)/2),λv _=>v=.tuple #[ndW (f/2) none,.bool (false)],λv _=>v=.tuple #[ndW (f/2) none,.bool (false)],λv _=>v=ndW (f/2) none,λv _=>v=.bool (false),λ_ _=>True,λ_ _=>True,λv _=>v=.bool (false)]
    (by kernel_rfl) (by kernel_rfl) (by simp) hS ?_ ?monoC ?okb ?dal ?fill ?plain ?fin
   . exact bL
   case monoC =>
    exact bM
   case okb =>
    intro b' hb';simp only[jBa,jCa,jJb] at hb';subst hb';exact⟨by simp,⟨rfl,rfl,rfl⟩,⟨_,Zw Xb,rfl⟩,⟨rfl,rfl,_,rfl⟩,by simp,Zx Qz⟩
   case dal =>
    exact bN
   case fill =>
    intro b' hb' vals J hJ hg;simp only[jBa,jCa,jJb] at hb';subst hb';simp only[zH,zI,Given,Facts] at hg;refine⟨ndW (f/2) none,by simp only[Zc,Qc,Qo,Qi,Qd,zH,zI,zA,zB,zK,jEb,Act.put,zE,zF,zG,Act.eval,zD,zC,zJ,hg],HV5.out,HV1.out,rfl⟩
   case plain =>
    repeat' (first|exact trivial|apply And.intro)
    all_goals first
     | (refine .inl (by rfl))
     | ((refine .inr ?_;intro vals J bs w hg hJ hS;refine bS ?_;intro K HK;(first|(refine bJ ?_)|(go_wp2_with (first|(go_at_call 49;with_reducible refine bC (HN.out _) ?_)|(go_at_call 128;((with_reducible refine bB hS (HA.out _ (PH.le.trans hJ hS.ile)) ?_);clear hS;intro w2 hS)))));( refine HK.out _ _ ⟨rfl,J,PH.le.refl _,hS,?_⟩ );clear HK;simp only[Facts,Qk,zH,zI,Act.put,zE,zF,zG,zD,zC,zA,zB,zJ]);done)
   case fin =>
    intro vals J bs w hJ hg hS hB;have hE:=yH (hS.end_ hJ);clear hB hS HA HV5 HV1 iS1;by_cases hc:f/2=0
    . rw[hc] at HN
      refine bH ?_;clear hg;go_wp2_with (first|(go_at_call 49;with_reducible refine bC (HN.out _) ?_))
      go_ret;exact⟨by rw[hc];rfl,hE.out⟩
    . have e2:¬((f/2:Nat):Int)=0:=by omega
      refine bH ?_;clear hg;go_wp2_with (first|(go_at_call 49;with_reducible refine bC (HN.out _) ?_))
      go_ret;have e3:(((f:Int)/2)==0)=false:=by rw[jGb];omega
      refine⟨?_,hE.out⟩;show Ending.returned (.bool ((f:Int)/2==0))=_
      rw[e3,show (f/2==0)=false from jGb.2 hc]
 | some n =>
   rw[hn] at HA HV5 HV1;have hc:¬f/2=0:=λh=>by rw[hz h] at hn;cases hn
   rw[u2 n hn hc];have e2:¬((f/2:Nat):Int)=0:=by omega
   clear u1 u2 hn hz;go_enter Tryz.func132,Tryz.ntmps132;go_wp2_with fail
   refine Zf [[],[0],[0,1],[0,1,2],[],[4],[0,1,2,3,4,5],[0,1,2,3,4,5,6],[0,1,2,3,4,5,6,7],[0,1,2,3,4,5,6,7],[],[0,1,2,3,4,5,6,7,8,10],[0,1,2,3,4,5,6,7,8,9,10,11]] _ _ [] _ [⟨10,11,194,#[.int .i64 0,.int .i64 0,.int .i64 0,.int .i64 0,.int .i64 0],λcs _=>cs=(ndW (f/2) (some n)).cells⟩] [λv _=>v=vPt S,λv _=>v=vPt S,λv _=>v=.pointer (some ⟨S,1,none⟩),λv _=>v=vPt P,λv _=>v=nv (f),λv _=>v=nv ((f)/2),λv _=>v=.tuple #[ndW (f/2) (some n),.bool (true)],λv _=>v=.tuple #[ndW (f/2) (some n),.bool (true)],λv _=>v=ndW (f/2) (some n),λv _=>v=.bool (true),λ_ _=>True,λ_ _=>True,λv _=>v=.bool (true)]
    (by kernel_rfl) (by kernel_rfl) (by simp) hS ?_ ?monoC ?okb ?dal ?fill ?plain ?fin
   . exact bL
   case monoC =>
    exact bM
   case okb =>
    intro b' hb';simp only[jBa,jCa,jJb] at hb';subst hb';exact⟨by simp,⟨rfl,rfl,rfl⟩,⟨_,Zw Xb,rfl⟩,⟨rfl,rfl,_,rfl⟩,by simp,Zx Qz⟩
   case dal =>
    exact bN
   case fill =>
    intro b' hb' vals J hJ hg;simp only[jBa,jCa,jJb] at hb';subst hb';simp only[zH,zI,Given,Facts] at hg;refine⟨ndW (f/2) (some n),by simp only[Zc,Qc,Qo,Qi,Qd,zH,zI,zA,zB,zK,jEb,Act.put,zE,zF,zG,Act.eval,zD,zC,zJ,hg],HV5.out,HV1.out,rfl⟩
   case plain =>
    repeat' (first|exact trivial|apply And.intro)
    all_goals first
     | (refine .inl (by rfl))
     | ((refine .inr ?_;intro vals J bs w hg hJ hS;refine bS ?_;intro K HK;(first|(refine bJ ?_)|(go_wp2_with (first|(go_at_call 49;with_reducible refine bC (HN.out _) ?_)|(go_at_call 128;((with_reducible refine bB hS (HA.out _ (PH.le.trans hJ hS.ile)) ?_);clear hS;intro w2 hS)))));( refine HK.out _ _ ⟨rfl,J,PH.le.refl _,hS,?_⟩ );clear HK;simp only[Facts,Qk,zH,zI,Act.put,zE,zF,zG,zD,zC,zA,zB,zJ]);done)
   case fin =>
    intro vals J bs w1 hJ hg hS hB;cases hB with
    | cons h1 hB =>
    cases hB;simp only[Bx.st,jEb] at h1;obtain⟨Y,cY,eY,rfl,zY,rfl⟩:=h1;have e10:vals 10=vPt Y:=eY;clear HA HV5 HV1 iS1;have hS:=hS.less hJ;simp only[List.nil_append,List.cons_append] at hS;have hS:Sat w (Qa w) [PH.one Y (.cells #[nv (f/2),nv n.v,nv n.lo,nv n.hi,nv n.refs] 194)] w1:=hS;refine bH ?_;clear hg;simp only[e10];go_wp2_with (first|(go_at_call 49;with_reducible refine bC (HN.out _) ?_)|(go_at_call 71;with_reducible refine bC (HLv.out _ _ hS.ile) ?_)|(refine aG ?_)|(refine aL ?_))
    have e3:(((f:Int)/2)==0)=false:=by rw[jGb];omega
    go_ret;refine⟨?_,hS.end_ (PH.le.refl _)⟩;show Ending.returned (.bool ((f:Int)/2==0||decide (l<s.level n.v)))=_
    rw[e3];rfl
end
end
section
open Go.RowKit
theorem Sat.graft{E w w':World}{I:PH}{ms ns:List PH}(h:Sat E I ms w)(h':Sat w (Qa w) ns w'):Sat E I (ns++ms) w':=by
 have off:∀n∈ns,∀(p:PH),p.le (Qa w)->∀b,n b=none\/p b=none:=λn hn p hp b=>by
  rcases h'.sep n hn b with h1|h1
  . exact .inl h1
  . refine .inr ?_
    cases hpb:p b with
    | none=>rfl
    | some o=>rw[hp b o hpb] at h1;cases h1
 refine⟨h'.os.trans h.os,h'.tape.trans h.tape,h'.output.trans h.output,λb o hb=>h'.imm b o (h.imm b o hb),λp hp=>?_,λp hp b=>?_,kT.2 ⟨h'.dis,h.dis,λp hp q hq b=>?_⟩,jFb h.size h'.size⟩
 . rcases jH.1 hp with hp|hp
   . exact h'.own p hp
   . exact λb o hb=>h'.imm b o (h.own p hp b o hb)
 . rcases jH.1 hp with hp|hp
   . exact off p hp I h.imm b
   . exact h.sep p hp b
 . exact off p hp q (h.own q hq) b
section
variable{w:World} {S:Nat} {s:G.St}
theorem sorder_any(h:StR (Qa w) S s){E:World}{I:PH}{ms:List PH}(hE:Sat E I ms w):Calls Tryz.prog 57 #[vPt S] w λe w'=>∃v m,e=.returned v/\OwnP m 3 1 v s.vars.length (s.vars.flatMap ivC)/\Sat E I (m::ms) w':=by
 obtain⟨h0,L,P,vV,vL,vT,vC,gs,h1,h2,h3,h4,h5,h6,h7,h8,h9,h10,h11,h12,h13,h14⟩:=h;have hn:=h0.vars;have hlen:(s.vars.flatMap ivC).length=s.vars.length*1:=Ks Kt _;have hone:∀u∈s.vars.flatMap ivC,u.oneCell'=true:=λu hu=>by
  obtain⟨a,_,ha⟩:=kU.1 hu;simp only[ivC,jKb] at ha;subst ha;rfl
 obtain⟨⟨A,c,rfl⟩,hV⟩:=h8;have hcs:0<s.vars.length->∃X off,A=some ⟨X,off,none⟩/\Cells (Qa w) X off (s.vars.flatMap ivC):=λhl=>by
  obtain⟨X,c',e1,e2⟩:=hV hl;injection e1 with e1
  refine⟨X,0,e1,λj v hj=>?_⟩;rw[jLb];have hfl:s.vars.flatMap ivC=s.vars.map λn=>nv n:=by rw[List.flatMap_def];unfold ivC;induction s.vars with|nil=>rfl|cons a l ih=>simp_all
  rw[hfl,jO] at hj;cases hx:s.vars[j]? with
  | none=>rw[hx] at hj;cases hj
  | some x=>rw[hx] at hj;cases hj;exact e2 j x hx
 have hS:=Sat.start w;have HC:=yH hcs;have HL:=yH hlen;have H1:=yH hone;have HE:=yH hE;clear hcs hlen hone hE h2 h3 h4 h5 h7 h9 h10 h11 h12 h13 h14 h0 hV;generalize s.vars.flatMap ivC=xs at *
 generalize s.vars.length=n at *
 go_enter Tryz.func57,Tryz.ntmps57;go_wp2_with (first|((with_reducible refine isAppend ?_);(refine' apS (p:=_) (m:=_) (v:=_) (n:=_) (xs:=_) (news:=xs) 0 (.inl (PH.le.refl _)) hS rfl rfl rfl Tryz.underlying23 Ko rfl (by decide) rfl ?hown rfl HL.out HC.out H1.out ?h63 ?hby ?_);(case hown=>exact OwnP.lit _ _ 1 0 #[] (by decide) rfl);(case h63=>(unfold maxLen;omega));(case hby=>omega);clear hS;intro v1 m1 w1 hO hS;have HO:=yH hO;clear hO;(try simp only[zG] at hS);refine aM ?_)|(refine aL ?_)|(refine aY ?_;clear hS;intro XS w hS))
 go_ret
 have:=HO.out;rw[jLb] at this;exact⟨_,rfl,m1,by simpa using this,HE.out.graft hS⟩
end
end
section
open Go.RowKit
def meC(o:Option G.Me):List Value:=match o with
 | none=>[nv 0,nv 0,nv 0,nv 0,nv 0,.bool false]
 | some e=>[nv e.op,nv e.a,nv e.b,nv e.c,nv e.r,.bool true]
theorem meC_len(o:Option G.Me):(meC o).length=6:=by unfold meC;split <;> rfl
def MeFit(me:G.Memo):Prop:=∀i e,me i=some e->e.op<4611686018427387904/\e.a<4611686018427387904/\e.b<4611686018427387904/\e.c<4611686018427387904/\e.r<4611686018427387904
def Xk(X:Nat)(me:G.Memo)(m:PH):Prop:=MeFit me/\∃vE mE,∃a f:Int,Bd m [PH.one X (.cells #[.int .i64 4096,vE,.int .i64 a,.int .i64 f] 184),mE] /\
 ((vE=.slice none 0 0/\mE=(λ_=>none)/\me=G.Memo.none)\/∃A c,vE=.slice (some ⟨A,0,none⟩) 4096 c/\OwnP mE 211 6 vE 4096 ((List.range 4096).flatMap λi=>meC (me i)))
def HsR(l:List (Rw Int))(hs:List (Int×Nat)):Prop:=l.map (λr=>(r.k,r.v))=hs.map (λp=>(p.1,nv p.2))
theorem HsR.get{l:List (Rw Int)}{hs:List (Int×Nat)}(h:HsR l hs)(x:Int):getR l x=((hs.find? λp=>p.1==x).map (·.2)).map nv:=by
 unfold HsR at h
 induction l generalizing hs with
 | nil =>
   cases hs with
   | nil=>rfl
   | cons p hs=>cases h
 | cons r l ih =>
   cases hs with
   | nil=>cases h
   | cons p hs =>
     simp only[jDb,qAb,jIa] at h;obtain⟨⟨h1,h2⟩,h3⟩:=h;have ih:=ih h3;unfold getR at ih ⊢;by_cases e:r.k=x
     . rw[kKb (by simpa using e),kKb (by simpa[<- h1] using e)];simp[h2]
     . rw[jX (by simpa using e),jX (by simpa[<- h1] using e)];exact ih
def HsAt(H:Nat)(hs:List (Int×Nat))(m:PH):Prop:=∃l clock,m=PH.one H (Qj ikey l clock)/\MapOk l clock/\HsR l hs
def gevC(e:G.Ev):List Value:=[.int .i64 e.after,.int .i64 e.kind,.int .i64 e.level]
def WtR(I:PH)(v:Value)(ws:List G.Ev)(fresh:Bool):Prop:=(∃A c,v=.slice A ws.length c)/\(0<ws.length->∃X off c,v=.slice (some ⟨X,off,none⟩) ws.length c/\ws.length<=c/\∀(i:Nat) e,ws[i]?=some e->Cells I X (off+i*3) (gevC e))/\(fresh=true->v=.slice none 0 0/\ws=[])
theorem WtR.le{I J:PH}{v:Value}{ws:List G.Ev}{fresh:Bool}(h:WtR I v ws fresh)(hJ:I.le J):WtR J v ws fresh:=⟨h.1,λhl=>by
 obtain⟨X,off,c,h1,h3,h4⟩:=h.2.1 hl;exact⟨X,off,c,h1,h3,λi e hi=>(h4 i e hi).le hJ⟩,h.2.2⟩
def MgFit(m:G.Mg):Prop:=m.next<=G.big/\-9223372036854775808<=m.calls/\m.calls<=9223372036854775807
def MgAt(D:Nat)(m:G.Mg)(p:PH):Prop:=MgFit m/\∃S M H wv mS mM mH mW,Bd p [PH.one D (.cells (Xe S M H (m.next:Int) wv m.calls) 117),mS,mM,mH,mW]/\StAt S m.s mS/\Xk M m.me mM/\HsAt H m.hs mH/\WtR mW wv m.waits m.fresh
def MgR(I:PH)(D:Nat)(m:G.Mg):Prop:=MgFit m/\∃S M H wv,I.at D 0=some (vPt S)/\I.at D 1=some (vPt M)/\I.at D 2=some (.map (some H))/\I.at D 3=some (.int .i64 (m.next:Int))/\I.at D 4=some wv/\I.at D 5=some (.int .i64 m.calls)/\StR I S m.s/\(∃l clock,I H=some (Qj ikey l clock)/\HsR l m.hs)/\WtR I wv m.waits m.fresh
theorem MgR.le{I J:PH}{D:Nat}{m:G.Mg}(h:MgR I D m)(hJ:I.le J):MgR J D m:=by
 obtain⟨h0,S,M,H,wv,h1,h2,h3,h4,h5,h6,h7,⟨l,clock,h8,h9⟩,h10⟩:=h;exact⟨h0,S,M,H,wv,PH.at_le hJ h1,PH.at_le hJ h2,PH.at_le hJ h3,PH.at_le hJ h4,PH.at_le hJ h5,PH.at_le hJ h6,h7.le hJ,⟨l,clock,hJ _ _ h8,h9⟩,h10.le hJ⟩
theorem MgAt.read{D:Nat}{m:G.Mg}{p:PH}(h:MgAt D m p):MgR p D m:=by
 obtain⟨h0,S,M,H,wv,mS,mM,mH,mW,⟨rfl,hd⟩,hS,hM,⟨l,clock,rfl,hl,hr⟩,hW⟩:=h;have hm:∀q∈[PH.one D (.cells (Xe S M H (m.next:Int) wv m.calls) 117),mS,mM,PH.one H (Qj ikey l clock),mW],q.le (PH.all [PH.one D (.cells (Xe S M H (m.next:Int) wv m.calls) 117),mS,mM,PH.one H (Qj ikey l clock),mW]):=λq hq=>PH.all_mem hd hq
 generalize PH.all _=A at *
 have l0:=hm _ (.head _);refine⟨h0,S,M,H,wv,PH.at_le l0 (Qb rfl),PH.at_le l0 (Qb rfl),PH.at_le l0 (Qb rfl),PH.at_le l0 (Qb rfl),PH.at_le l0 (Qb rfl),PH.at_le l0 (Qb rfl),hS.read.le (hm mS (by simp)),⟨l,clock,hm _ (by simp) H _ (PH.one_self _ _),hr⟩,hW.le (hm mW (by simp))⟩
theorem MgAt.fit{D:Nat}{m:G.Mg}{p:PH}(h:MgAt D m p):MgFit m:=h.1
theorem MgAt.open_{E w:World}{I:PH}{ms:List PH}{D:Nat}{m:G.Mg}{p:PH}(h:MgAt D m p)(hS:Sat E I (p::ms) w) :
  ∃S M H wv mS mM mH mW,StAt S m.s mS/\Xk M m.me mM/\HsAt H m.hs mH/\WtR mW wv m.waits m.fresh/\Sat E I (PH.one D (.cells (Xe S M H (m.next:Int) wv m.calls) 117)::mS::mM::mH::mW::ms) w:=by
 obtain⟨h0,S,M,H,wv,mS,mM,mH,mW,hb,h1,h2,h3,h4⟩:=h;exact⟨S,M,H,wv,mS,mM,mH,mW,h1,h2,h3,h4,Sat.unpack hb hS⟩
theorem MgAt.close{E w:World}{I:PH}{ms:List PH}{D S M H:Nat}{m:G.Mg}{wv:Value}{mS mM mH mW:PH}(h0:MgFit m)(h1:StAt S m.s mS)(h2:Xk M m.me mM)(h3:HsAt H m.hs mH)(h4:WtR mW wv m.waits m.fresh)
  (hS:Sat E I (PH.one D (.cells (Xe S M H (m.next:Int) wv m.calls) 117)::mS::mM::mH::mW::ms) w):∃p,MgAt D m p/\Sat E I (p::ms) w:=by
 obtain⟨p,hb,hS'⟩:=Sat.pack [PH.one D (.cells (Xe S M H (m.next:Int) wv m.calls) 117),mS,mM,mH,mW] hS;exact⟨p,⟨h0,S,M,H,wv,mS,mM,mH,mW,hb,h1,h2,h3,h4⟩,hS'⟩
section
variable{w:World} {D:Nat} {m:G.Mg}
theorem mVars_any(h:MgR (Qa w) D m):Calls Tryz.prog 59 #[vPt D] w λe w'=>e=.returned (nv m.s.vars.length)/\w=w':=by
 obtain⟨h0,S,M,H,wv,h1,h2,h3,h4,h5,h6,h7,h8,h9⟩:=h;have hS:=Sat.start w;have hc:=svars_any h7;clear h2 h3 h4 h5 h6 h7 h8 h9 h0;go_enter Tryz.func59,Tryz.ntmps59;go_wp2_with (first|(go_at_call 101;(with_reducible refine yI hc ?_);rintro e w9 ⟨rfl,rfl⟩)|(refine aL ?_))
 go_ret;exact⟨rfl,rfl⟩
theorem mIs_any(h:MgR (Qa w) D m)(k:Int):Calls Tryz.prog 23 #[vPt D,.int .i64 k] w λe w'=>e=.returned (.bool (m.of k).isSome)/\w=w':=by
 obtain⟨h0,S,M,H,wv,h1,h2,h3,h4,h5,h6,h7,⟨l,clock,h8,hr⟩,h9⟩:=h;have hS:=Sat.start w;have hq:=hr.get k;have H2:=yH h8;have ho:m.of k=(m.hs.find? λp=>p.1==k).map (·.2):=rfl;rw[<- ho] at hq;generalize m.of k=o at *
 have Hq:=yH hq;clear h1 h2 h4 h5 h6 h7 h8 h9 h0 hr hq ho;cases o
 all_goals
  go_enter Tryz.func23,Tryz.ntmps23;go_wp2_with (first|((with_reducible refine Kb ?_);refine lk2 (x:=k) hS (.inl (PH.le.refl _)) H2.out kI Tryz.underlying115 Zk rfl rfl rfl rfl Hq.out ?_;simp only[Option.map_none,Option.map_some,Option.getD_none,zJ,Option.isSome_none,Option.isSome_some];refine aM ?_)|(refine aL ?_))
  go_ret;exact⟨rfl,rfl⟩
end
end
section
open Go.RowKit
theorem ty_agg154:Ky Tryz.prog 154=some true:=by kernel_rfl
theorem ty_sz154:Kg Tryz.prog 154=some 5:=by kernel_rfl
theorem ty_agg119:Ky Tryz.prog 119=some false:=by kernel_rfl
theorem ty_sz119:Kg Tryz.prog 119=some 1:=by kernel_rfl
def stopV:G.Stop->Value
 | .err e=>.agg #[nv e,.bool false,.int .i64 0,.int .i64 0,.int .i64 0]
 | .event ev=>.agg #[.int .i64 0,.bool true,.int .i64 ev.after,.int .i64 ev.kind,.int .i64 ev.level]
def stopE(s:G.Stop):List PanicEntry:=[{ v:=.iface 154 (stopV s),recovered:=false }]
section
variable{w:World} {D X:Nat} {m:G.Mg}
theorem xlevel_any(hX:(Qa w).at X 0=some (vPt D))(h:MgR (Qa w) D m)(v:Int):Calls Tryz.prog 95 #[vPt X,.int .i64 v] w λe w'=>e=.returned (.int .i64 (m.s.level v))/\w=w':=by
 obtain⟨h0,S,M,H,wv,h1,h2,h3,h4,h5,h6,h7,h8,h9⟩:=h;have hS:=Sat.start w;have hc:=slevel_any h7 v;clear h2 h3 h4 h5 h6 h7 h8 h9 h0;go_enter Tryz.func95,Tryz.ntmps95;go_wp2_with (first|(go_at_call 71;(with_reducible refine yI hc ?_);rintro e w9 ⟨rfl,rfl⟩)|(refine aL ?_))
 go_ret;exact⟨rfl,rfl⟩
theorem xedge_ok(hX:(Qa w).at X 0=some (vPt D))(h:MgR (Qa w) D m)(k:Int){f:Nat}(hk:m.of k=some f):Calls Tryz.prog 55 #[vPt X,.int .i64 k] w λe w'=>e=.returned (nv f)/\w=w':=by
 obtain⟨h0,S,M,H,wv,h1,h2,h3,h4,h5,h6,h7,⟨l,clock,h8,hr⟩,h9⟩:=h;have hS:=Sat.start w;have hq:=hr.get k;have ho:m.of k=(m.hs.find? λp=>p.1==k).map (·.2):=rfl;rw[<- ho,hk] at hq;have H2:=yH h8;have Hq:=yH hq;clear h1 h2 h4 h5 h6 h7 h8 h9 h0 hr hq ho;go_enter Tryz.func55,Tryz.ntmps55;go_wp2_with (first|((with_reducible refine Kb ?_);refine lk2 (x:=k) hS (.inl (PH.le.refl _)) H2.out kI Tryz.underlying115 Zk rfl rfl rfl rfl Hq.out ?_;simp only[Option.map_some,zJ,Option.isSome_some];refine aM ?_)|(refine aL ?_))
 go_ret;exact⟨rfl,rfl⟩
theorem xedge_no(hX:(Qa w).at X 0=some (vPt D))(h:MgR (Qa w) D m)(k:Int)(hk:m.of k=none):Calls Tryz.prog 55 #[vPt X,.int .i64 k] w λe w'=>e=.panicked (stopE (.err 8))/\w=w':=by
 obtain⟨h0,S,M,H,wv,h1,h2,h3,h4,h5,h6,h7,⟨l,clock,h8,hr⟩,h9⟩:=h;have hS:=Sat.start w;have hq:=hr.get k;have ho:m.of k=(m.hs.find? λp=>p.1==k).map (·.2):=rfl;rw[<- ho,hk] at hq;have H2:=yH h8;have Hq:=yH hq;clear h1 h2 h4 h5 h6 h7 h8 h9 h0 hr hq ho;go_enter Tryz.func55,Tryz.ntmps55;go_wp2_with (first|((with_reducible refine Kb ?_);refine lk2 (x:=k) hS (.inl (PH.le.refl _)) H2.out kI Tryz.underlying115 Zk rfl rfl rfl rfl Hq.out ?_;simp only[Option.map_none,Option.getD_none,Option.isSome_none];refine aM ?_)|(refine aL ?_))
 refine⟨rfl,?_⟩;exact (⟨rfl,rfl⟩:_/\_)
theorem splitI_none{s:G.St}{f:Nat}(hn:s.nd (f/2)=none)(v:Int):s.splitI f v=(f,f):=by unfold G.St.splitI G.St.at_;rw[hn];rfl
theorem splitI_some{s:G.St}{f:Nat}{n:G.Nd}(hn:s.nd (f/2)=some n)(v:Int):s.splitI f v=if (n.v:Int)=v then (G.flipIf n.lo (f%2==1),G.flipIf n.hi (f%2==1)) else (f,f):=by unfold G.St.splitI G.St.at_;rw[hn];rfl
theorem xsplit_any(hX:(Qa w).at X 0=some (vPt D))(h:MgR (Qa w) D m)(f:Nat)(v:Int)(hf:f<4611686018427387904):Calls Tryz.prog 53 #[vPt X,nv f,.int .i64 v] w λe w'=>e=.returned (.tuple #[nv (m.s.splitI f v).1,nv (m.s.splitI f v).2])/\Below w.heap.size w w':=by
 obtain⟨h0,S,M,H,wv,h1,h2,h3,h4,h5,h6,h7,h8,h9⟩:=h;have hS:=Sat.start w;cases hn:m.s.nd (f/2) with
 | none =>
   have hc:=sat_none h7 f (by omega) hn;rw[splitI_none hn];clear h2 h3 h4 h5 h6 h7 h8 h9 h0 hn;go_enter Tryz.func53,Tryz.ntmps53;go_wp2_with (first|(go_at_call 94;(with_reducible refine yI hc ?_);rintro e w9 ⟨rfl,hb⟩)|(refine aL ?_))
   go_ret2;exact⟨rfl,hb⟩
 | some n =>
   have hc:=sat_some h7 f (by omega) hn;rw[splitI_some hn];clear h2 h3 h4 h5 h6 h7 h8 h9 h0 hn;generalize G.flipIf n.lo (f%2==1)=a at *
   generalize G.flipIf n.hi (f%2==1)=b at *
   generalize n.v=x at *
   by_cases e:(x:Int)=v
   . rw[jAb e]
     subst e;go_enter Tryz.func53,Tryz.ntmps53;go_wp2_with (first|(go_at_call 94;(with_reducible refine yI hc ?_);rintro e w9 ⟨rfl,hb⟩)|(refine aG ?_)|(refine aL ?_))
     go_ret2;exact⟨rfl,hb⟩
   . rw[jAa e]
     go_enter Tryz.func53,Tryz.ntmps53;go_wp2_with (first|(go_at_call 94;(with_reducible refine yI hc ?_);rintro e w9 ⟨rfl,hb⟩)|(refine aG ?_)|(refine aL ?_))
     go_ret2;exact⟨rfl,hb⟩
def topS(s:G.St)(q:Int×Int)(f:Nat):Int×Int:=match s.at_ f with|none=>q|some (v,_,_)=>if q.1<0\/s.level v<q.2 then ((v:Int),s.level v) else q
theorem topE_foldl(s:G.St)(l:List Nat):s.topE l=l.foldl (topS s) (-1,0):=rfl
theorem foldl_take{α β:Type}(g:β->α->β)(b:β)(l:List α)(i:Nat)(x:α)(h:l[i]?=some x):(l.take (i+1)).foldl g b=g ((l.take i).foldl g b) x:=by
 rw[jR,h,Option.toList_some,kSa];rfl
theorem xtop_any(hX:(Qa w).at X 0=some (vPt D))(h:MgR (Qa w) D m)(l:List Nat)(vl:Value)(hl:NumR (Qa w) vl l)(hb:∀f∈l,f<4611686018427387904)(hlen:l.length<1000000) :
  Calls Tryz.prog 52 #[vPt X,vl] w λe w'=>e=.returned (.int .i64 (m.s.topE l).1)/\Below w.heap.size w w':=by
 have hM:=h;obtain⟨h0,S,M,H,wv,h1,h2,h3,h4,h5,h6,h7,h8,h9⟩:=h;have hS:=Sat.start w;obtain⟨⟨A,c,rfl⟩,hr⟩:=hl;have HR:=yH hr;have HL:=yH (λ(w':World) (hle:(Qa w).le (Qa w')) (v:Int)=>xlevel_any (w:=w') (PH.at_le hle hX) (hM.le hle) v);have HN:=yH (λ(w':World) (hle:(Qa w).le (Qa w')) (f:Nat) (hf:f<9223372036854775808) (hn:m.s.nd (f/2)=none)=>sat_none (h7.le hle) f hf hn);have HT:=yH (λ(w':World) (hle:(Qa w).le (Qa w')) (f:Nat) (n:G.Nd) (hf:f<9223372036854775808) (hn:m.s.nd (f/2)=some n)=>sat_some (h7.le hle) f hf hn);have HB:=yH hb;have HE:=yH (topE_foldl m.s l);clear h2 h3 h4 h5 h6 h7 h8 h9 h0 hr hM hb;generalize hN:l.length=N at *
 have HLn:=yH hN;clear hN;go_enter Tryz.func52,Tryz.ntmps52;go_wp2_with (fail)
 go_loopw [5,6,15] (λv5 v6 v15 wr=>∃i:Nat,i<=N/\v15=.int .i64 (i:Int)/\v5=.int .i64 ((l.take i).foldl (topS m.s) (-1,0)).1/\v6=.int .i64 ((l.take i).foldl (topS m.s) (-1,0)).2/\Sat w (Qa w) [] wr) (λ_ _ v15 _=>(N-intOf v15).toNat)
 case atStart=>exact⟨0,jC _,rfl,rfl,rfl,hS⟩
 case round =>
  clear hS;obtain⟨i,hi,rfl,rfl,rfl,hS⟩:=hrel;by_cases hlt:i<N
  . obtain⟨f,hx⟩:∃f,l[i]?=some f:=⟨_,yA (by rw[HLn.out];exact hlt)⟩
    have hxb:=HB.out _ (jCb hx);have hft:=foldl_take (topS m.s) (-1,0) l i _ hx;obtain⟨Y,c',hY,hcell⟩:=HR.out (by omega);injection hY with hA hB hC
    subst hA hC;have hcell:=hcell i _ hx;generalize (l.take i).foldl (topS m.s) (-1,0)=q at *
    obtain⟨q1,q2⟩:=q;have hiN:(i:Int)<(N:Int):=by omega
    cases hn:m.s.nd (f/2) with
    | none =>
      have hq:topS m.s (q1,q2) f=(q1,q2):=by unfold topS G.St.at_;rw[hn];rfl
      rw[hq] at hft;have HF:=yH hft;have HNn:=yH hn;clear hft hq hx hn;go_wp2_with (first|(go_at_call 94;(with_reducible refine bB hS (HN.out _ hS.ile f (by omega) HNn.out) ?_);clear hS;intro w9 hS)|(refine aL ?_))
      exact⟨⟨i+1,by omega,by go_num,by rw[HF.out],by rw[HF.out],hS⟩,by simp[intOf];omega⟩
    | some n =>
      have hq:topS m.s (q1,q2) f=if q1<0\/m.s.level (n.v:Int)<q2 then ((n.v:Int),m.s.level (n.v:Int)) else (q1,q2):=by unfold topS G.St.at_;rw[hn];rfl
      rw[hq] at hft;have HNn:=yH hn;clear hq hx hn;have HL2:=yH (λ(w':World) (hle:(Qa w).le (Qa w'))=>HL.out w' hle (n.v:Int));have HT2:=yH (λ(w':World) (hle:(Qa w).le (Qa w'))=>HT.out w' hle f n (by omega) HNn.out);generalize m.s.level (n.v:Int)=lv at *
      generalize G.flipIf n.lo (f%2==1)=a at *
      generalize G.flipIf n.hi (f%2==1)=b at *
      generalize n.v=x at *
      by_cases e1:q1<0
      . rw[jAb (.inl e1)] at hft
        have HF:=yH hft;clear hft;go_wp2_with (first|(go_at_call 94;(with_reducible refine bB hS (HT2.out _ hS.ile) ?_);clear hS;intro w9 hS)|(go_at_call 95;with_reducible refine bC (HL2.out _ hS.ile) ?_)|(refine aG ?_)|(refine aL ?_))
        exact⟨⟨i+1,by omega,by go_num,by rw[HF.out],by rw[HF.out],hS⟩,by simp[intOf];omega⟩
      . by_cases e2:lv<q2
        . rw[jAb (.inr e2)] at hft
          have HF:=yH hft;clear hft;go_wp2_with (first|(go_at_call 94;(with_reducible refine bB hS (HT2.out _ hS.ile) ?_);clear hS;intro w9 hS)|(go_at_call 95;with_reducible refine bC (HL2.out _ hS.ile) ?_)|((with_reducible refine Qu ?_);((with_reducible refine Zs ?_);first|((with_reducible refine Qy ?hw ?_);case hw=>(simp only[Region.wanted,yielded,zC,zA,zB,zK,jUa];done))|((refine' Ki (b:=_) ?hy ?_ ?_);(case hy=>(simp only[yielded,zC,zA,zB,zK];exact rfl));all_goals (intro hb;(try simp only[jW] at hb);(try simp only[hb]);(try simp only[Act.put,zE,zF,zG]);first|((have hf:False:=by (simp at hb;omega));cases hf)|skip))))|(refine aL ?_))
          exact⟨⟨i+1,by omega,by go_num,by rw[HF.out],by rw[HF.out],hS⟩,by simp[intOf];omega⟩
        . rw[jAa (by omega)] at hft
          have HF:=yH hft;clear hft;go_wp2_with (first|(go_at_call 94;(with_reducible refine bB hS (HT2.out _ hS.ile) ?_);clear hS;intro w9 hS)|(go_at_call 95;with_reducible refine bC (HL2.out _ hS.ile) ?_)|((with_reducible refine Qu ?_);((with_reducible refine Zs ?_);first|((with_reducible refine Qy ?hw ?_);case hw=>(simp only[Region.wanted,yielded,zC,zA,zB,zK,jUa];done))|((refine' Ki (b:=_) ?hy ?_ ?_);(case hy=>(simp only[yielded,zC,zA,zB,zK];exact rfl));all_goals (intro hb;(try simp only[jW] at hb);(try simp only[hb]);(try simp only[Act.put,zE,zF,zG]);first|((have hf:False:=by (simp at hb;omega));cases hf)|skip))))|(refine aL ?_))
          exact⟨⟨i+1,by omega,by go_num,by rw[HF.out],by rw[HF.out],hS⟩,by simp[intOf];omega⟩
  . have hiN:i=N:=by omega
    subst hiN;have HT3:=yH (show l.take i=l by rw[<- HLn.out];exact kDa);go_wp2_with fail
    go_ret;refine⟨?_,hS.end_ (PH.le.refl _)⟩;rw[HE.out,HT3.out];rfl
end
end
section
open Go.RowKit
theorem ptake_full(E w:World)(I m:PH)(ms:List PH)(P:Nat)(p:G.Pl)(n:G.Nd)(hfr:p.free=[])(hle:p.room<p.slots.length)(hP:PoolAt P p m)(hS:Sat E I (m::ms) w) :
  Calls Tryz.prog 153 #[.pointer (some ⟨P,0,none⟩),ndA 0 n] w λe w'=>e=.returned (.tuple #[nv 0,.int .i64 7])/\Sat E I (m::ms) w':=by
 obtain⟨hf,A0,cA0,T0,cT0,vF,mA,mT,mF,hbd,hA,hT,hF⟩:=hP;obtain⟨nF,cF,hvF,_⟩:=hF.shape;subst hvF;have hlen:=hf.len;have hroom:=hf.room;have hml:=G.many_le p.slots;have hk0:p.free.length=0:=by rw[hfr];rfl
 have hfin:∀w',Sat E I (PH.one P (.cells (plV p A0 cA0 T0 cT0 (.slice nF p.free.length cF)) 216)::mA::mT::mF::ms) w'->Sat E I (m::ms) w':=λw' hS'=>by
  obtain⟨m',hb',hS2⟩:=Sat.pack [PH.one P (.cells (plV p A0 cA0 T0 cT0 (.slice nF p.free.length cF)) 216),mA,mT,mF] hS';rw[hbd.1,<- hb'.1];exact hS2
 have Hfin:=yH hfin;have hS:=Sat.unpack hbd hS;clear hfin hF hf hbd hfr hA hT;simp only[plV,List.cons_append,List.nil_append] at hS Hfin;rw[hk0] at hS Hfin;generalize hid:p.slots.length=id at *
 have hdec:decide ((p.room:Int)<(id:Int))=true:=by rw[jPa];omega
 have hdecN:decide (p.room<id)=true:=by rw[jPa];omega
 go_enter Tryz.func153,Tryz.ntmps153;go_wp2_with (first|(refine aN 3 ?_;clear hS;intro X w hS)|(refine aL ?_))
 obtain⟨I1,_,lX,hS1,bX⟩:=hS.ice;obtain⟨I2,l12,lP,hS2,bP⟩:=hS1.ice;have iP0:I2.at P 0=some (nv p.room):=PH.at_le lP (Qb rfl);have iP1:I2.at P 1=some (.slice (some ⟨A0,0,none⟩) id cA0):=PH.at_le lP (Qb rfl);have HbX:=yH bX;have HbP:=yH bP;clear hS hS1 bX bP lX lP l12;refine Qf [[],[0],[0,1],[0,1,2],[0,1,2,3],[],[5],[5,6],[5,6,7],[0,1,2,3,4,5,6,7,8]] E I2 _
  [λv _=>v=vPt P,λv _=>v=vPt P,λv _=>v=.pointer (some ⟨P,1,none⟩),λv _=>v=.slice (some ⟨A0,0,none⟩) id cA0,λv _=>v=nv id,λv _=>v=vPt P,λv _=>v=vPt P,λv _=>v=.pointer (some ⟨P,0,none⟩),λv _=>v=nv p.room,λv _=>v=.bool true] []
  (λ_ _ _ ns=>ns=mA::mT::mF::ms) (by kernel_rfl) (by kernel_rfl) (by decide) hS2 rfl ?last (λ_ _ _ _ _ _ h=>h) (λ_ _ _ _ _ _ h=>h) ?plain ?step ?fin
 case last=>exact bL
 case plain =>
  (repeat' (first|exact trivial|apply And.intro)) <;>  (refine .inr ?_;intro s vals J bs w hstop hg hJ hS hG;clear hG;refine bS ?_;intro K HK;(first|(refine bJ ?_)|(go_wp2_with (fail)));exact bO)
 case step=>trivial
 case fin =>
  intro vals J bs w hJ hg hS hG;have hG:bs=_:=hG;subst hG;have hS:=hS.less hJ;have hS:=(HbX.out _ _ (HbP.out _ _ hS)).drop;clear HbX HbP iP0 iP1;refine bH ?_;clear hg;go_wp2_with (fail)
  go_ret2;exact⟨rfl,Hfin.out _ hS⟩
theorem ptake_some{E w:World}{I m:PH}{ms:List PH}{P:Nat}{p p':G.Pl}{n:G.Nd}{id:Nat}(ht:p.take n=some (some (p',id)))(hfit:Fits n)(hP:PoolAt P p m)(hS:Sat E I (m::ms) w) :
  Calls Tryz.prog 153 #[.pointer (some ⟨P,0,none⟩),ndA 0 n] w λe w'=>e=.returned (.tuple #[nv id,.int .i64 0])/\∃m',PoolAt P p' m'/\Sat E I (m'::ms) w':=by
 unfold G.Pl.take at ht;cases hf:p.free.getLast? with
 | some i =>
   rw[hf] at ht;simp only[] at ht;split at ht
   . rename_i hc
     injection ht with ht;injection ht with ht;injection ht with h1 h2
     subst h1 h2;refine ptake_free E w I m ms P p i n hf hc.1 hc.2.1 ?_ hfit hP hS;have h3:=hc.2.2;rw[yD,yA hc.2.1] at h3;rw[yA hc.2.1];simp only[zJ,Option.isNone_iff_eq_none] at h3;rw[h3]
   . cases ht
 | none =>
   rw[hf] at ht;simp only[] at ht;split at ht
   . cases ht
   . rename_i hc
     injection ht with ht;injection ht with ht;injection ht with h1 h2
     subst h1 h2;exact ptake_new E w I m ms P p n (qAa.1 hf) (by omega) hfit hP hS
theorem ptake_none{E w:World}{I m:PH}{ms:List PH}{P:Nat}{p:G.Pl}{n:G.Nd}(ht:p.take n=some none)(hP:PoolAt P p m)(hS:Sat E I (m::ms) w) :
  Calls Tryz.prog 153 #[.pointer (some ⟨P,0,none⟩),ndA 0 n] w λe w'=>e=.returned (.tuple #[nv 0,.int .i64 7])/\Sat E I (m::ms) w':=by
 unfold G.Pl.take at ht;cases hf:p.free.getLast? with
 | some i=>rw[hf] at ht;simp only[] at ht;split at ht <;> cases ht
 | none =>
   rw[hf] at ht;simp only[] at ht;split at ht
   . rename_i hc
     exact ptake_full E w I m ms P p n (qAa.1 hf) hc hP hS
   . cases ht
theorem StAt.close{E w:World}{I:PH}{ms:List PH}{S:Nat}{s:G.St}{L P:Nat}{vV vL vT vC:Value}{gs:List Nat}{mV mL mP mT mC:PH}{tms:List PH}(h0:StFit s)
  (hV:OwnP mV 3 1 vV s.vars.length (s.vars.flatMap ivC))(hL:OwnP mL 3 1 vL s.lev.length (s.lev.flatMap ivC))(hP:PoolAt P s.pl mP)(hT:OwnP mT 180 1 vT s.tabs.length (gs.flatMap ptC))(hC:OwnP mC 3 1 vC s.cnt.length (s.cnt.flatMap ivC))
  (hgs:gs.length=s.tabs.length)(htm:tms.length=s.tabs.length)(htab:∀(v:Nat) g t tm,gs[v]?=some g->s.tabs[v]?=some t->tms[v]?=some tm->TabAt g t tm)
  (hS:Sat E I (PH.one S (.cells #[vPt L,vPt P,vT,vC,nv s.dead] 164)::PH.one L (.cells #[vV,vL] 166)::mV::mL::mP::mT::mC::(tms++ms)) w):∃m',StAt S s m'/\Sat E I (m'::ms) w:=by
 obtain⟨m',hb,h⟩:=Sat.pack (PH.one S (.cells #[vPt L,vPt P,vT,vC,nv s.dead] 164)::PH.one L (.cells #[vV,vL] 166)::mV::mL::mP::mT::mC::tms) (ms:=ms) hS;exact⟨m',⟨h0,L,P,vV,vL,vT,vC,gs,mV,mL,mP,mT,mC,tms,hb,hV,hL,hP,hT,hC,hgs,htm,htab⟩,h⟩
theorem iv_one(n:Nat):∀u∈(Value.cells (nv n)).toList,u.oneCell'=true:=by simp[Value.cells,Value.oneCell',nv]
def rowLen(w:World)(S:Nat):Nat:=match w.cell? ⟨S,3,none⟩ with|some (.slice _ n _)=>n|_=>0
theorem rowLen_of{w:World}{S n c:Nat}{A:Option Addr}(h:w.cell? ⟨S,3,none⟩=some (.slice A n c)):rowLen w S=n:=by unfold rowLen;rw[h]
end
section
open Go.RowKit
theorem sadd_none{E w:World}{I m:PH}{ms:List PH}{S:Nat}{s:G.St}{v lo hi:Nat}(ha:s.add v lo hi=some none)(hA:StAt S s m)(hS:Sat E I (m::ms) w) :
  Calls Tryz.prog 135 #[vPt S,nv v,nv lo,nv hi] w λe w'=>e=.returned (.tuple #[nv 0,.int .i64 7])/\∃m',StAt S s m'/\Sat E I (m'::ms) w':=by
 obtain⟨h0,L,P,vV,vL,vT,vC,gs,mV,mL,mP,mT,mC,tms,hbd,hV,hL,hP,hT,hC,hgs,htm,htab⟩:=hA;have hS:=Sat.unpack hbd hS;simp only[List.cons_append] at hS;have ht:s.pl.take ⟨v,lo,hi,0⟩=some none:=by
  unfold G.St.add at ha;cases ht:s.pl.take ⟨v,lo,hi,0⟩ with
  | none=>rw[ht] at ha;cases ha
  | some o =>
    cases o with
    | none=>rfl
    | some q=>obtain⟨p,id⟩:=q;rw[ht] at ha;simp only[] at ha;split at ha <;> cases ha
 have HT:=yH ht;have Hfin:=yH (λw' (h:Sat E I (PH.one S (.cells #[vPt L,vPt P,vT,vC,nv s.dead] 164)::PH.one L (.cells #[vV,vL] 166)::mV::mL::mP::mT::mC::(tms++ms)) w')=>StAt.close h0 hV hL hP hT hC hgs htm htab h);have HP:=yH hP;clear hbd hT hC hV hL h0 hP ht ha;go_enter Tryz.func135,Tryz.ntmps135;go_wp2_with (first|(go_at_call 153;(with_reducible refine yI (ptake_none (n:=⟨v,lo,hi,0⟩) HT.out HP.out (hS.pick 4 rfl)) ?_);clear hS;rintro e w ⟨rfl,hS⟩)|(refine aL ?_))
 go_ret2;exact⟨rfl,Hfin.out _ (hS.back 4 rfl)⟩
theorem sadd_some{E w:World}{I m:PH}{ms:List PH}{S:Nat}{s s':G.St}{v lo hi id:Nat}(ha:s.add v lo hi=some (some (s',id)))(hlo:lo<4611686018427387904)(hhi:hi<4611686018427387904)(hA:StAt S s m)(hS:Sat E I (m::ms) w) :
  Calls Tryz.prog 135 #[vPt S,nv v,nv lo,nv hi] w λe w'=>e=.returned (.tuple #[nv id,.int .i64 0])/\∃m',StAt S s' m'/\Sat E I (m'::ms) w':=by
 obtain⟨h0,L,P,vV,vL,vT,vC,gs,mV,mL,mP,mT,mC,tms,hbd,hV,hL,hP,hT,hC,hgs,htm,htab⟩:=hA;have hS:=Sat.unpack hbd hS;simp only[List.cons_append] at hS;obtain⟨p',ht,hv,hid,hdead,hs'⟩:∃p',s.pl.take ⟨v,lo,hi,0⟩=some (some (p',id))/\v<s.tabs.length/\id<4194304/\s.dead<4611686018427387904/\s'={ s with pl:=p',cnt:=(s.cnt++List.replicate (id+1-s.cnt.length) 0).set id 0,dead:=s.dead+1,tabs:=s.tabs.set v (G.putT (s.tab v) lo hi id) }:=by
  unfold G.St.add at ha;cases ht:s.pl.take ⟨v,lo,hi,0⟩ with
  | none=>rw[ht] at ha;cases ha
  | some o =>
    cases o with
    | none=>rw[ht] at ha;cases ha
    | some q =>
      obtain⟨p,i⟩:=q;rw[ht] at ha;simp only[] at ha;split at ha
      . rename_i hc
        injection ha with ha;injection ha with ha;injection ha with h1 h2
        subst h2;exact⟨p,rfl,hc.1,hc.2.1,hc.2.2,h1.symm⟩
      . cases ha
 have hfit:Fits ⟨v,lo,hi,0⟩:=⟨show v<4611686018427387904 by have:=h0.tabs;omega,hlo,hhi,show (0:Nat)<4611686018427387905 by decide⟩;obtain⟨T,cT,rfl,_⟩:=hT.ptr (by omega);obtain⟨AC,cC,rfl,_⟩:=hC.shape;have hg:=yA (l:=gs) (i:=v) (by omega);have htt:=yA (l:=s.tabs) (i:=v) hv;have htb:s.tabs[v]=s.tab v:=by unfold G.St.tab;rw[yD,htt];rfl
 have htv:=yA (l:=tms) (i:=v) (by omega);have hTab:=htab v _ _ _ hg htt htv;rw[htb] at hTab;have iT:Cells mT T v (ptC gs[v]):=by
  have:=Qs ptC_len hT hg
  rwa [jG] at this
 generalize gs[v]=g at *
 generalize tms[v]=tm at *
 have hvn:v<64:=by have:=h0.tabs;omega
 have hfin:∀(p'':G.Pl) (k:Nat) (vC':Value) (mP' mC' tm':PH) (w':World),p''=p'->k=id+1-s.cnt.length->PoolAt P p'' mP'->TabAt g (G.putT (s.tab v) lo hi id) tm'->OwnP mC' 3 1 vC' (s.cnt.length+k) (((s.cnt++List.replicate k 0).set id 0).flatMap ivC) ->
   Sat E I (mP'::PH.one S (.cells #[vPt L,vPt P,.slice (some ⟨T,0,none⟩) s.tabs.length cT,vC',.int .i64 ((s.dead:Int)+1)] 164)::PH.one L (.cells #[vV,vL] 166)::mV::mL::mT::mC'::(tms.set v tm'++ms)) w'->∃m',StAt S s' m'/\Sat E I (m'::ms) w':=by
  rintro _ _ vC' mP' mC' tm' w' rfl rfl hP' ht' hC' hS';have h1:=hS'.perm (jU (l₁:=[_,_,_,_]) (l₂:=mT::mC'::(tms.set v tm'++ms)) (a:=mP')).symm;subst hs';have hcl:((s.cnt++List.replicate (id+1-s.cnt.length) 0).set id 0).length=s.cnt.length+(id+1-s.cnt.length):=by simp
  refine StAt.close (L:=L) (P:=P) (vV:=vV) (vL:=vL) (vT:=.slice (some ⟨T,0,none⟩) s.tabs.length cT) (vC:=vC') (mV:=mV) (mL:=mL) (mP:=mP') (mT:=mT) (mC:=mC') (gs:=gs) (tms:=tms.set v tm') ⟨h0.vars,h0.lev,by simpa using h0.tabs,by rw[hcl];have:=h0.cnt;omega,λc hc=>?_,show s.dead+1<=4611686018427387904 by omega,h0.levb,h0.varb⟩ hV hL hP' (by simpa using hT) (by rw[hcl];exact hC') (by simpa using hgs) (by simpa using htm) (λx gx t tmx e1 e2 e3=>?_) ?_
  . rcases kBa hc with hc|hc
    . rcases jH.1 hc with hc|hc
      . exact h0.cntb c hc
      . rw[List.eq_of_mem_replicate hc];decide
    . rw[hc];decide
  . by_cases hx:x=v
    . subst hx
      have e2':(s.tabs.set x (G.putT (s.tab x) lo hi id))[x]?=some t:=e2;rw[jP hv] at e2';rw[jP (by omega)] at e3;rw[hg] at e1;cases e1;cases e2';cases e3;exact ht'
    . have e2':(s.tabs.set v (G.putT (s.tab v) lo hi id))[x]?=some t:=e2
      rw[jQa (λe=>hx e.symm)] at e2' e3;exact htab x gx t tmx e1 e2' e3
  . simpa[nv] using h1
 have Hfin:=yH hfin;have HT:=yH ht;have HTb:=yH hTab;have HP:=yH hP;have Hfit:=yH hfit;have HC:=yH hC;have HiT:=yH iT;have htm7:∀(a b c d e f x:PH),(a::b::c::d::e::f::x::(tms++ms))[7+v]?=some tm:=λa b c d e f x=>by
  rw[show 7+v=v+1+1+1+1+1+1+1 by omega];simp only[zA];rw[jHa (by omega)];exact htv
 have Htm:=yH htm7;have hset:∀(a b c d e f x tm':PH),(a::b::c::d::e::f::x::(tms++ms)).set (7+v) tm'=a::b::c::d::e::f::x::(tms.set v tm'++ms):=λa b c d e f x tm'=>by
  rw[show 7+v=v+1+1+1+1+1+1+1 by omega];simp only[zF];rw[List.set_append_left _ _ (by omega)]
 have Hset:=yH hset;have hcl:=h0.cnt;clear hfin hbd hT hC hV hL h0 hP ht ha hs' hfit hTab iT htab htm htt htb htv hg hgs hset htm7;go_enter Tryz.func135,Tryz.ntmps135;go_wp2_with (first|(go_at_call 153;(with_reducible refine yI (ptake_some (n:=⟨v,lo,hi,0⟩) HT.out Hfit.out HP.out (hS.pick 4 rfl)) ?_);clear hS;rintro e w ⟨rfl,mP',hP',hS⟩;have HP':=yH hP';clear hP';simp only[List.eraseIdx_cons_succ,List.eraseIdx_cons_zero] at hS)|(refine aL ?_))
 generalize hn:s.cnt.length=n at *
 go_loopw [] (λwr=>∃(k:Nat) (vC':Value) (mC':PH),(n+k<=n\/n+k<=id+1)/\OwnP mC' 3 1 vC' (n+k) ((s.cnt++List.replicate k 0).flatMap ivC)/\Sat E I (mP'::PH.one S (.cells #[vPt L,vPt P,.slice (some ⟨T,0,none⟩) s.tabs.length cT,vC',nv s.dead] 164)::PH.one L (.cells #[vV,vL] 166)::mV::mL::mT::mC'::(tms++ms)) wr) (λwr=>id+1-rowLen wr S)
 case atStart=>exact⟨0,_,mC,.inl (by omega),by simpa using HC.out,hS⟩
 case round =>
  clear hS;obtain⟨k,vC',mC',hk,hC',hS⟩:=hrel;obtain⟨A',c',rfl,_⟩:=hC'.shape;have HC':=yH hC';clear hC';have hrow:rowLen wr S=n+k:=by
   exact rowLen_of ((hS.cell_of (.tail _ (.head _)) 3).trans rfl)
  rw[hrow];by_cases hlt:n+k<=id
  . have hlt':decide (((n+k:Nat):Int)<=(id:Int))=true:=by rw[jPa];omega
    generalize hnk:n+k=nk at *
    go_wp2_with (first|((with_reducible refine isAppend ?_);(refine' apP (p:=_) (m:=_) (v:=_) (n:=_) (xs:=_) (news:=_) 7 (.inr (List.Mem.head _)) hS rfl rfl rfl Tryz.underlying23 Ko rfl (by decide) rfl HC'.out rfl ?hl ?hcl ?h1 ?h63 ?hby ?_);(case hcl=>exact Cells.one _ _ _ _);(case hl=>rfl);(case h1=>rfl);(case h63=>(unfold maxLen;omega));(case hby=>omega);clear hS;intro v1 m1 w hO1 hS;refine Veil.out ?_;obtain⟨A1,c1,rfl,_⟩:=OwnP.shape hO1;refine⟨?_⟩;have HO1:=yH hO1;clear hO1;(try simp only[zF,zG] at hS);refine aM ?_)|(refine aL ?_)|(refine aS ?_;clear hS;intro w hS)|(refine aY ?_;clear hS;intro XS w hS))
    have hS:=hS.drop;refine⟨⟨k+1,_,m1,.inr (by omega),?_,hS⟩,?_⟩
    . have:=HO1.out
      rw[show n+(k+1)=nk+1 by omega,List.replicate_succ',<- jE,jNb];exact this
    . have:rowLen w S=nk+1:=by
        exact rowLen_of ((hS.cell_of (.tail _ (.head _)) 3).trans rfl)
      omega
  . have hlt':decide (((n+k:Nat):Int)<=(id:Int))=false:=by rw[jD];omega
    have hkk:k=id+1-n:=by omega
    have hidl:id<n+k:=by omega
    obtain⟨X,cX,hX,_⟩:=HC'.out.ptr (by omega);injection hX with hX _ hX2
    subst hX hX2;generalize hnk:n+k=nk at *
    have hi2:(id:Int)<(nk:Int):=by omega
    go_wp2_with (first|((with_reducible refine Xa ?_);(refine st_row 6 hS rfl rfl rfl rfl rfl HC'.out (jG id).symm hidl Yg rfl (iv_one 0) ?_);clear hS;intro mC2 w hC2 hS;have HC2:=yH hC2;clear hC2;(try simp only[zF,zG] at hS);(try simp only[Act.put]))|((with_reducible refine Qe ?_);(refine' Xx (v:=vPt g) (.inr (List.Mem.tail _ (List.Mem.tail _ (List.Mem.tail _ (List.Mem.tail _ (List.Mem.tail _ (List.Mem.head _))))))) hS rfl rfl ty_agg180 rfl (HiT.out.at 0 rfl) ?_);refine aM ?_)|(go_at_call 148;(with_reducible refine yI (tput_any HTb.out lo hi id (hS.pick (7+v) (Htm.out _ _ _ _ _ _ _))) ?_);clear hS;rintro e w ⟨⟨c9,rfl⟩,tm',hT',hS⟩;have HT':=yH hT';clear hT')|(refine aL ?_)|(refine aS ?_;clear hS;intro w hS))
    go_ret2;have hS2:=hS.back (7+v) (Htm.out _ _ _ _ _ _ _);rw[Hset.out] at hS2;refine⟨rfl,Hfin.out _ k _ _ _ _ _ rfl hkk HP'.out HT'.out ?_ hS2⟩
    have:=HC2.out;rw[<- flat_set Kt _ _ (by simp;omega)];rw[jG,hnk];exact this
end
end Go.Proofs.YtidamcdklgfogaaGreat
