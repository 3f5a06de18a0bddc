import Derived.Test.YtidamcdklgfogaaGreatUaz
set_option linter.unusedVariables false
set_option linter.unusedSimpArgs false
set_option maxRecDepth 100000
set_option maxHeartbeats 8000000
namespace Go.Proofs.YtidamcdklgfogaaGreat
namespace G
theorem foldE_cons(F:Mg->Nat->Nat->Step Nat)(h:Int)(l:List Int)(m:Mg)(r:Nat):foldE F (h::l) m r=((m.edge h).then λm e=>F m r e).then λm r=>foldE F l m r:=by
 rw[Step.then_assoc];rfl
theorem foldE_append(F:Mg->Nat->Nat->Step Nat):∀(a b:List Int) (m:Mg) (r:Nat),foldE F (a++b) m r=(foldE F a m r).then λm r=>foldE F b m r
 | [],b,m,r=>rfl
 | h::a,b,m,r=>by
   rw[List.cons_append,foldE_cons,foldE_cons];generalize ((m.edge h).then λm e=>F m r e)=s;rw[Step.then_assoc];congr 1
   funext m k
   exact foldE_append F a b m k
end G
section
open Go.RowKit
structure TwoC (fid:Nat) (F:G.Mg->Nat->Nat->G.Step Nat):Prop where
 enter:∀(args:Array Value) (w:World),(callFunc fid args).run Tryz.prog w=.ok (.enter fid args) w
 run:∀(m m':G.Mg) (a b:Nat) (rs:G.Rs Nat) (E:World) (I p:PH) (ms:List PH) (w:World) (X D:Nat),F m a b=some (m',rs)->Sane m.s->a<4611686018427387904->b<4611686018427387904->I.at X 0=some (vPt D)->MgAt D m p->Sat E I (p::ms) w ->
  Calls Tryz.prog fid #[vPt X,nv a,nv b] w λe w'=>e=Yl nv rs/\∃p',MgAt D m' p'/\Sat E I (p'::ms) w'
theorem and_two:TwoC 74 G.andE where
 enter:=λargs w=>by kernel_rfl
 run:=by
  intro m m' a b rs E I p ms w X D hF hs ha hb hX hA hS;have HI:=yH (xite_any X D G.fuel m m' a b 1 rs hF hs ha hb (by decide) E I p ms w hX hA hS);clear hF hs hA;cases rs with
  | ok r =>
    simp only[Yl] at HI;go_enter Tryz.func74,Tryz.ntmps74;go_wp2_with (go_at_call 64;(with_reducible refine yI HI.out ?_);clear hS;rintro e w ⟨rfl,_,_,p1,hA1,hS⟩;have HA1:=yH hA1;clear hA1)
    go_ret;exact⟨rfl,p1,HA1.out,hS⟩
  | stop st =>
    simp only[Yl] at HI;go_enter Tryz.func74,Tryz.ntmps74;go_wp2_with (go_at_call 64;(with_reducible refine yI HI.out ?_);clear hS;rintro e w ⟨rfl,_,_,p1,hA1,hS⟩;have HA1:=yH hA1;clear hA1)
    refine⟨rfl,?_⟩;exact And.intro rfl ⟨p1,HA1.out,hS⟩
def FoldOk(Inv:G.Mg->Prop)(F:G.Mg->Nat->Nat->G.Step Nat)(l:List Int)(r0:Nat):Prop:=∀m,Inv m->∀i mi r,G.foldE F (l.take i) m r0=some (mi,.ok r)->Inv mi/\r<4611686018427387904
theorem fold1_op{D X1 X2 X3 fid r0:Nat}{F:G.Mg->Nat->Nat->G.Step Nat}{J:PH}{Inv:G.Mg->Prop}(hK:KeepsM Inv)(hC:TwoC fid F){l:List Int}{vl:Value}(hl:l.length<=1000000)(h1:J.at X1 0=some (nv r0))(h2:J.at X2 0=some vl)(hvl:IntR J vl l)(h3:J.at X3 0=some (.func (.func fid) #[] #[]))(hP:FoldOk Inv F l r0) :
  OpP 117 #[vPt X1,vPt X2,vPt X3] D J Inv (λm=>G.foldE F l m r0) where
 enter:=λargs w=>by kernel_rfl
 run:=by
  intro E I p q0 ms w m m' rs X hJ1 hI hF hX hA hq hS;subst hq;have hent:=hC.enter;have i1:I.at X1 0=some (nv r0):=PH.at_le hJ1 h1;have i2:I.at X2 0=some vl:=PH.at_le hJ1 h2;have i3:I.at X3 0=some (.func (.func fid) #[] #[]):=PH.at_le hJ1 h3;obtain⟨A,c,rfl,hcells⟩:=(hvl.le hJ1).shape2;have HC:=yH hcells;have HA:=yH hA;have HF:=yH hF;have HI:=yH hI;have HCr:=yH hC.run;have HKm:=yH hK;have HP:=yH hP;clear hJ1 h1 h2 h3 hvl hcells hA hF hI hC hK hP;generalize hN:l.length=N at *
  have HN0:=yH hN;clear hN;show Calls _ _ #[vPt X,vPt X1,vPt X2,vPt X3] _ _
  go_enter Tryz.func117,Tryz.ntmps117;go_wp2_with (first|(refine aL ?_))
  go_loopw [6,12] (λv6 v12 wr=>∃(i:Nat) (mi:G.Mg) (r:Nat) (p:PH),i<=N/\v12=.int .i64 (i:Int)/\v6=nv r/\G.foldE F (l.take i) m r0=some (mi,.ok r)/\MgAt D mi p/\Sat E I (p::Ku::ms) wr) (λv6 v12 _=>(N-intOf v12).toNat)
  case atStart=>exact⟨0,m,r0,p,jC _,rfl,rfl,rfl,HA.out,hS⟩
  case round =>
   clear hS HA;obtain⟨i,mi,r,p,hi,rfl,rfl,hpre,hA,hS⟩:=hrel;obtain⟨hIi,hr⟩:=HP.out _ HI.out _ _ _ hpre;have hf:=HF.out;by_cases hlt:i<N
   . obtain⟨k,hk⟩:∃k,l[i]?=some k:=⟨_,yA (by rw[HN0.out];exact hlt)⟩
     obtain⟨Y,hY,hcell⟩:=HC.out (by omega);subst hY;have hcell:=hcell i k hk;have iN:(i:Int)<(N:Int):=by omega
     have htk:l.take (i+1)=l.take i++[k]:=by rw[jR,hk];rfl
     have hsplit:l=l.take i++k::l.drop (i+1):=by
      have e2:l.drop i=k::l.drop (i+1):=by
       rw[jL (by rw[HN0.out];exact hlt)];congr 1
       have:=yA (l:=l) (i:=i) (by rw[HN0.out];exact hlt);rw[hk] at this;injection this with this
       exact this.symm
      rw[<- e2,kGa]
     rw[hsplit,G.foldE_append,hpre] at hf;simp only[G.Step.then_ok2] at hf;rw[G.foldE_cons] at hf;have hpre':∀e m2 r2,mi.of k=some e->F mi r e=some (m2,.ok r2)->G.foldE F (l.take (i+1)) m r0=some (m2,.ok r2):=λe m2 r2 h1 h2=>by
      rw[htk,G.foldE_append,hpre];simp only[G.Step.then_ok2];rw[G.foldE_cons];unfold G.Mg.edge;rw[h1];simp only[G.Step.then_ok2];rw[h2];rfl
     unfold G.Mg.edge at hf;have HA:=yH hA;clear hsplit htk hk HC;cases hok:mi.of k with
     | none =>
       have e:m'=mi/\rs=.stop (.err 8):=by rw[hok] at hf;cases hf;exact⟨rfl,rfl⟩
       obtain⟨rfl,rfl⟩:=e;have HE:=yH (λ(w:World) (hX:(Qa w).at X 0=some (vPt D)) (hM:MgR (Qa w) D m')=>xedge_no hX hM k hok);clear hf hpre hpre' hok hA hIi HF HP HKm HI HCr;go_wp2_with (first|(refine aL ?_))
       refine Kf (λc w'=>c=stopE (.err 8)/\Sat E I (p::Ku::ms) w') [[],[],[],[],[],[3,4],[0,1,2,3,4,5],[0,1,2,3,4,5,6]] E I _
        [λv _=>v=.func (.func fid) #[] #[],λv _=>v=vPt X,λv _=>v=nv r,λv _=>v=vPt X,λv _=>v=.int .i64 k,λ_ _=>False,λ_ _=>True,λ_ _=>True] []
        (λ_ _ _ bs=>bs=p::Ku::ms) (by kernel_rfl) (by kernel_rfl) (by decide) hS rfl ?last (λ_ _ _ _ _ _ h=>h) (λ_ _ _ _ _ _ h=>h) ?plain ?step ?hZ ?fin
       case last=>exact bL
       case plain =>
        clear hS;refine⟨⟨⟨⟨⟨⟨⟨⟨trivial,?q0⟩,?q1⟩,?q2⟩,?q3⟩,?q4⟩,?q5⟩,?q6⟩,?q7⟩
        case q5=>refine .inr ?_;intro s vals J bs w hstop hg hJ hS hG;have hG:bs=_:=hG;subst hG;refine bZ ?_;intro K HK;go_wp2_with (go_at_call 55;with_reducible refine bC (HE.out _ (PH.at_le hS.ile (PH.at_le hJ hX)) (HA.out.read.le (hS.mle (k:=0) rfl))) ?_);exact And.intro rfl (hS.less hJ)
        all_goals first|(refine .inr ?_;intro s vals J bs w hstop hg hJ hS hG;exfalso;simp only[zH,zI,Given,Facts,and_false,false_and] at hg;done)|(refine .inr ?_;intro s vals J bs w hstop hg hJ hS hG;clear hG;simp only[zH,zI,Given,Facts] at hg;simp only[Qc,Qo,Qi,Qd,zH,zI,zA,zB,zK,jEb,Act.put,zE,zF,zG];refine bV ?_;intro K HK;(first|(refine bJ ?_)|(go_wp2_with (fail)));exact bO)
       case step=>trivial
       case hZ =>
        rintro c b w' hd ⟨rfl,hS'⟩;exact⟨hd,rfl,p,Ku,HA.out,rfl,hS'⟩
       case fin =>
        intro vals J9 bs w hJ hg hS hG;exact False.elim (by simp only[yB,yC,Nat.reduceAdd,Below_,Facts,zH,zI,kS,kJb] at hg;simp at hg)
     | some f =>
       have HE:=yH (λ(w:World) (hX:(Qa w).at X 0=some (vPt D)) (hM:MgR (Qa w) D mi)=>xedge_ok hX hM k hok);rw[hok] at hf;simp only[G.Step.then_ok2] at hf;cases hm2:F mi r f with
       | none=>rw[hm2] at hf;cases hf
       | some z =>
         obtain⟨m2,r2⟩:=z;have HFn:=yH (λ(J p:PH) (ns:List PH) (w:World) (hX:J.at X 0=some (vPt D)) (hA:MgAt D mi p) (hS:Sat E J (p::ns) w)=>HCr.out mi m2 r f r2 E J p ns w X D hm2 (HKm.out.sane _ hIi) hr (HKm.out.ofl _ _ _ hIi hok) hX hA hS);rw[hm2] at hf;cases r2 with
         | stop st =>
           have e:m'=m2/\rs=.stop st:=by cases hf;exact⟨rfl,rfl⟩
           obtain⟨rfl,rfl⟩:=e;simp only[Yl] at HFn;clear hf hpre hpre' hok hm2 hA hIi HF HP HKm HI HCr;go_wp2_with (first|(refine aL ?_))
           refine Kf (λc w'=>c=stopE st/\∃p2,MgAt D m' p2/\Sat E I (p2::Ku::ms) w') [[],[],[],[],[],[3,4],[0,1,2,3,4,5],[0,1,2,3,4,5,6]] E I _
            [λv _=>v=.func (.func fid) #[] #[],λv _=>v=vPt X,λv _=>v=nv r,λv _=>v=vPt X,λv _=>v=.int .i64 k,λv _=>v=nv f,λ_ _=>False,λ_ _=>True] []
            (λ_ _ _ bs=>bs=p::Ku::ms) (by kernel_rfl) (by kernel_rfl) (by decide) hS rfl ?last (λ_ _ _ _ _ _ h=>h) (λ_ _ _ _ _ _ h=>h) ?plain ?step ?hZ ?fin
           case last=>exact bL
           case plain =>
            clear hS;refine⟨⟨⟨⟨⟨⟨⟨⟨trivial,?t0⟩,?t1⟩,?t2⟩,?t3⟩,?t4⟩,?t5⟩,?t6⟩,?t7⟩
            case t5=>refine .inr ?_;intro s vals J bs w hstop hg hJ hS hG;have hG:bs=_:=hG;subst hG;refine bZ ?_;intro K HK;go_wp2_with (go_at_call 55;with_reducible refine bC (HE.out _ (PH.at_le hS.ile (PH.at_le hJ hX)) (HA.out.read.le (hS.mle (k:=0) rfl))) ?_);exact HK.out _ _ ⟨rfl,J,PH.le.refl _,hS,rfl⟩
            case t6=>refine .inr ?_;intro s vals J bs w hstop hg hJ hS hG;have hG:bs=_:=hG;subst hG;refine bZ ?_;intro K HK;go_wp2_with (first|((with_reducible refine bD (HFn.out _ _ _ _ (PH.at_le hJ hX) HA.out hS) ?_);clear hS;intro w p2 HA2 hS));exact And.intro rfl ⟨p2,HA2.out,hS.less hJ⟩
            all_goals first|(refine .inr ?_;intro s vals J bs w hstop hg hJ hS hG;exfalso;simp only[zH,zI,Given,Facts,and_false,false_and] at hg;done)|(refine .inr ?_;intro s vals J bs w hstop hg hJ hS hG;clear hG;simp only[zH,zI,Given,Facts] at hg;simp only[Qc,Qo,Qi,Qd,zH,zI,zA,zB,zK,jEb,Act.put,zE,zF,zG];refine bV ?_;intro K HK;(first|(refine bJ ?_)|(go_wp2_with (fail)));exact bO)
           case step=>trivial
           case hZ =>
            rintro c b w' hd ⟨rfl,p2,hA2,hS'⟩;exact⟨hd,rfl,p2,Ku,hA2,rfl,hS'⟩
           case fin =>
            intro vals J9 bs w hJ hg hS hG;exact False.elim (by simp only[yB,yC,Nat.reduceAdd,Below_,Facts,zH,zI,kS,kJb] at hg;simp at hg)
         | ok r2 =>
           have HPre:=yH (hpre' _ _ _ hok hm2);simp only[Yl] at HFn;clear hf hpre hpre' hok hm2 hA hIi;go_wp2_with (first|(refine aL ?_))
           refine Kf (λc w'=>False) [[],[],[],[],[],[3,4],[0,1,2,3,4,5],[0,1,2,3,4,5,6]] E I _
            [λv _=>v=.func (.func fid) #[] #[],λv _=>v=vPt X,λv _=>v=nv r,λv _=>v=vPt X,λv _=>v=.int .i64 k,λv _=>v=nv f,λv _=>v=nv r2,λv _=>v=nv r2] [6]
            (set1G (p::Ku::ms) 0 (λp'=>MgAt D m2 p')) (by kernel_rfl) (by kernel_rfl) (by decide) hS rfl ?last (λ_ _ _ _ _ _ h=>h) (λ_ _ _ _ _ _ h=>h) ?plain ?step ?hZ ?fin
           case last=>exact bL
           case hZ=>exact λ_ _ _ _ h=>h.elim
           case plain =>
            clear hS;refine⟨⟨⟨⟨⟨⟨⟨⟨trivial,?r0⟩,?r1⟩,?r2⟩,?r3⟩,?r4⟩,?r5⟩,.inl rfl⟩,?r7⟩
            case r5=>refine .inr ?_;intro s vals J bs w hstop hg hJ hS hG;have h0:s<=0:=hstop;obtain rfl:s=0:=kQa.1 h0;have hG:bs=_:=hG;subst hG;refine bZ ?_;intro K HK;go_wp2_with (go_at_call 55;with_reducible refine bC (HE.out _ (PH.at_le hS.ile (PH.at_le hJ hX)) (HA.out.read.le (hS.mle (k:=0) rfl))) ?_);exact HK.out _ _ ⟨rfl,J,PH.le.refl _,hS,rfl⟩
            all_goals (refine .inr ?_;intro s vals J bs w hstop hg hJ hS hG;clear hG;refine bZ ?_;intro K HK;(first|(refine bJ ?_)|(go_wp2_with (fail)));exact bO)
           case step =>
            refine⟨trivial,?_⟩;clear hS;intro vals J bs w hg hJ hS hG;have hG:bs=_:=hG;subst hG;refine bZ ?_;intro K HK;go_wp2_with (first|((with_reducible refine bD (HFn.out _ _ _ _ (PH.at_le hJ hX) HA.out hS) ?_);clear hS;intro w p2 HA2 hS))
            exact HK.out _ _ ⟨rfl,J,_,PH.le.refl _,hS,rfl,p2,HA2.out,rfl⟩
           case fin =>
            intro vals J9 bs w hJ hg hS hG;obtain⟨p2,hA2,hns⟩:=hG;subst hns;have hS:=hS.less hJ;simp only[zG] at hS;have HA2:=yH hA2;clear hJ hA2 HFn HE;refine bH ?_;clear hg;go_wp2_with (fail)
            exact⟨⟨i+1,m2,r2,p2,by omega,by go_num,rfl,HPre.out,HA2.out,hS⟩,by simp[intOf];omega⟩
   . obtain rfl:i=N:=by omega
     have e:l.take i=l:=jK (by rw[HN0.out];exact jBb _);rw[e,hf] at hpre;have e:m'=mi/\rs=.ok r:=by cases hpre;exact⟨rfl,rfl⟩
     obtain⟨rfl,rfl⟩:=e;have HA:=yH hA;clear hf hpre hIi HF HP HKm HI HC hA HCr;go_wp2_with fail
     go_ret;exact⟨rfl,p,Ku,HA.out,rfl,hS⟩
end
section
open Go.RowKit
theorem dfold_any{fid r0 D:Nat}{F:G.Mg->Nat->Nat->G.Step Nat}{Inv:G.Mg->Prop}(hC:TwoC fid F)(hK:KeepsM Inv){l:List Int}(hl:l.length<=1000000)(hD:DoOk Inv (λm=>G.foldE F l m r0))(hP:FoldOk Inv F l r0)
  {E w:World}{I p:PH}{ms:List PH}{m m':G.Mg}{h er:Nat}{vl:Value}(hvl:IntR I vl l)(hI:Inv m)(hm:m.do_ (λm=>G.foldE F l m r0)=some (m',h,er))(hA:MgAt D m p)(hS:Sat E I (p::ms) w) :
  Calls Tryz.prog 73 #[vPt D,nv r0,.func (.func fid) #[] #[],vl] w λe w'=>e=.returned (.tuple #[nv h,nv er])/\∃p',MgAt D m' p'/\Sat E I (p'::ms) w':=by
 have hmf:∀(fn:Fn) (first cap:Array Value) (w:World),(Instr.makeFunc fn first cap).run Tryz.prog w=.ok (.func fn first cap) w:=λ_ _ _ _=>rfl
 obtain⟨A,c,e,_⟩:=hvl.shape2;have HD:=yH (λ(w:World) (X5 X6 X7:Nat) (hS:Sat E I (PH.one X7 (.cells #[vl] 23)::PH.one X6 (.cells #[.func (.func fid) #[] #[]] 185)::PH.one X5 (.cells #[nv r0] 102)::p::ms) w)=>mdo_pureI (bs:=[PH.one X7 (.cells #[vl] 23),PH.one X6 (.cells #[.func (.func fid) #[] #[]] 185),PH.one X5 (.cells #[nv r0] 102)]) (fid:=117) (cs := #[vPt X5,vPt X7,vPt X6]) (λJ l1 l2=>fold1_op hK hC hl (PH.at_le (l2 _ (.tail _ (.tail _ (.head _)))) (Qb rfl)) (PH.at_le (l2 _ (.head _)) (Qb rfl)) (hvl.le l1) (PH.at_le (l2 _ (.tail _ (.head _))) (Qb rfl)) hP) hK hD hI hm hA hS);clear hC hK hD hP hI hm hA hvl;subst e;go_enter Tryz.func73,Tryz.ntmps73;go_wp2_with (first|(go_at_call 60;(with_reducible refine bD (HD.out _ _ _ _ hS) ?_);clear hS;intro w p1 HA1 hS)|(refine aN 5 ?_;clear hS;intro X5 w hS)|(refine aN 6 ?_;clear hS;intro X6 w hS)|(refine aN 7 ?_;clear hS;intro X7 w hS))
 go_ret2;exact⟨rfl,p1,HA1.out,Sat.drop (Sat.drop (Sat.drop hS))⟩
theorem dand_any{D:Nat}{Inv:G.Mg->Prop}(hK:KeepsM Inv){l:List Int}(hl:l.length<=1000000)(hD:DoOk Inv (λm=>G.foldE G.andE l m 0))(hP:FoldOk Inv G.andE l 0)
  {E w:World}{I p:PH}{ms:List PH}{m m':G.Mg}{h er:Nat}{vl:Value}(hvl:IntR I vl l)(hI:Inv m)(hm:m.andM l=some (m',h,er))(hA:MgAt D m p)(hS:Sat E I (p::ms) w) :
  Calls Tryz.prog 28 #[vPt D,vl] w λe w'=>e=.returned (.tuple #[nv h,nv er])/\∃p',MgAt D m' p'/\Sat E I (p'::ms) w':=by
 have HD:=yH (dfold_any and_two hK hl hD hP hvl hI hm hA hS);obtain⟨A,c,rfl,_⟩:=hvl.shape2;clear hK hD hP hI hm hA hvl;go_enter Tryz.func28,Tryz.ntmps28;go_wp2_with (first|(go_at_call 73;(with_reducible refine yI HD.out ?_);clear hS;rintro e w ⟨rfl,p1,hA1,hS⟩;have HA1:=yH hA1;clear hA1))
 go_ret2;exact⟨rfl,p1,HA1.out,hS⟩
end
namespace G
def allT(x:Tb)(b:Bool):Bool:=x.all (· == b)
def addT:Nat->List Nat->List Rw3->List Tb->Tb->Option ((List Rw3×List Tb)×Nat)
 | 0,_,_,_,_=>none
 | k+1,o,rows,fs,x =>
   if allT x true then some ((rows,fs),0)
   else if allT x false then some ((rows,fs),1)
   else if lastT x=false then (addT k o rows fs (notT x)).map λq=>(q.1,q.2+1)
   else match fs.findIdx? (· == x) with
    | some i=>some ((rows,fs),2*(i+1))
    | none=>match topT o x with
      | none=>none
      | some v=>(addT k o rows fs (Zu x v false)).bind λq=>(addT k o q.1.1 q.1.2 (Zu x v true)).bind λr=>some ((r.1.1++[⟨v,q.2,r.2⟩],r.1.2++[x]),2*(r.1.1.length+1))
structure Seen (s:St) (q:RS) (fs:List Tb):Prop where
 len:fs.length=q.rows.length
 nd:fs.Nodup
 get:∀j i,q.get j=some i↔(j=0/\i=0)\/(1<=i/\(s.nd j).isSome=true/\fs[i-1]?=some (s.tb (2*j)))
theorem seen0{B:Nat}{s:St}(h:StOk B s):Seen s rs0 [] where
 len:=rfl
 nd:=.nil
 get j i:=by
  have:rs0.get j=if j=0 then some 0 else none:=by
   unfold RS.get rs0;by_cases e:j=0
   . subst e;rfl
   . have:([(0,0)]:List (Nat×Nat)).find? (λp=>p.1==j)=none:=kAa.2 (by simp;omega)
     rw[jAa e];simp only[this];rfl
  rw[this];by_cases e:j=0
  . subst e;rw[jAb rfl];simp[h.can.g0];exact eq_comm
  . rw[jAa e];simp[e]
theorem allT_tab{n:Nat}{φ:Fn}(h:Dep n φ)(b:Bool):allT (Xw n φ) b=true↔∀ρ,φ ρ=b:=by
 unfold allT Xw;rw[List.all_map,jTb];constructor
 . intro hx ρ
   have:=hx (idx n ρ) (jVb.2 (idx_lt ρ n));simp at this
   rw[<- this,h.idx]
 . intro hx i _
   simp[hx]
theorem edge_val(i:Nat)(b:Bool):edge i b=2*i+(if b then 1 else 0):=by
 unfold edge flipIf flip;cases b
 . simp
 . rw[jAb rfl,jAa (by omega),jAb rfl]
theorem down_add{B:Nat}{s:St}(h:StOk B s):∀(b:Nat) (e:Nat) (q:RS) (fs:List Tb) (kd ka:Nat),b<=kd->2*b<=ka->val s.nd e->rkf (lvf s) s.nd (e/2)<b->Seen s q fs ->
  ∃q' fs' n,downR kd s q e=some (q',n)/\addT ka s.vars q.rows fs (s.tb e)=some ((q'.rows,fs'),n)/\Seen s q' fs'/\∀j,q'.get j≠none->q.get j≠none\/rkf (lvf s) s.nd j<=rkf (lvf s) s.nd (e/2)
 | 0,e,q,fs,kd,ka,_,_,_,hr,_=>by omega
 | b+1,e,q,fs,kd,ka,hkd,hka,hv,hr,hs=>by
   obtain⟨kd,rfl⟩:∃k,kd=k+1:=⟨kd-1,by omega⟩;obtain⟨ka,rfl⟩:∃k,ka=k+1:=⟨ka-1,by omega⟩;have hdep:=h.dep' hv;have htb:s.tb e=Xw s.vars.length (den s.nd e):=rfl;cases hn:s.nd (e/2) with
   | none =>
     have h0:e/2=0:=by
      rcases hv with h0|h0
      . exact h0
      . rw[hn] at h0;cases h0
     have hg:q.get (e/2)=some 0:=(hs.get _ _).2 (.inl ⟨h0,rfl⟩);have hd:downR (kd+1) s q e=some (q,G.edge 0 (e%2==1)):=by unfold downR;rw[hg]
     have hc:∀ρ,den s.nd e ρ=(e%2==0):=Qp h.can.g0 h0;refine⟨q,fs,_,hd,?_,hs,λj hj=>.inl hj⟩;unfold addT;simp only[htb];rcases (by omega:e=0\/e=1) with rfl|rfl
     . rw[jAb ((allT_tab hdep true).2 hc)];rfl
     . rw[jAa (λhx=>by have:=(allT_tab hdep true).1 hx (λ_=>false);rw[hc] at this;cases this),jAb ((allT_tab hdep false).2 hc)];rfl
   | some m =>
     have hj0:e/2≠0:=by intro e0;rw[e0,h.can.g0] at hn;cases hn
     have hvj:val s.nd (2*(e/2)):=val2 hn;have hnj:s.nd (2*(e/2)/2)=some m:=by rw[two_half];exact hn
     have hmv:=h.vars _ _ hn;have notc:∀f,f/2=e/2->val s.nd f->∀c,¬allT (s.tb f) c=true:=λf hf hvf c hc=>by
      have h1:=(allT_tab (h.dep' hvf) c).1 hc;have h2:=h.can.can f (if c then 0 else 1) hvf (.inl (by cases c <;> rfl)) λρ=>by
       rw[h1,Qp h.can.g0 (by cases c <;> rfl)];cases c <;> rfl
      rw[h2] at hf;cases c <;> exact hj0 hf.symm
     have core:∀ka',2*b<=ka'->∃q' fs' i,downR (kd+1) s q e=some (q',G.edge i (e%2==1))/\addT (ka'+1) s.vars q.rows fs (s.tb (2*(e/2)))=some ((q'.rows,fs'),2*i)/\Seen s q' fs'/\∀j,q'.get j≠none->q.get j≠none\/rkf (lvf s) s.nd j<=rkf (lvf s) s.nd (e/2):=λka' hka'=>by
      have hlast:lastT (s.tb (2*(e/2)))=true:=by rw[h.last hvj];simp
      unfold addT downR;rw[jAa (notc _ (two_half _) hvj true),jAa (notc _ (two_half _) hvj false),jAa (by rw[hlast];decide)];cases hg:q.get (e/2) with
      | some i =>
        rcases (hs.get _ _).1 hg with⟨h0,_⟩|⟨h1,_,h3⟩
        . exact absurd h0 hj0
        . have hf:fs.findIdx? (· == s.tb (2*(e/2)))=some (i-1):=by
            rw[List.findIdx?_eq_some_iff_getElem];obtain⟨hlt,he⟩:=yE.1 h3;refine⟨hlt,by rw[he];simp,λj hj=>?_⟩;rw[Bool.not_eq_true];refine jGb.2 λheq=>?_
            have h4:fs[j]?=some (s.tb (2*(e/2))):=by rw[yA (by omega)];exact jNa some heq
            have:=(List.getElem?_inj (i:=j) (j:=i-1) (by omega) hs.nd).1 (h4.trans h3.symm);omega
          rw[hf];exact⟨q,fs,i,rfl,by simp only[];congr 2;omega,hs,λj hj=>.inl hj⟩
      | none =>
        have hf:fs.findIdx? (· == s.tb (2*(e/2)))=none:=by
         rw[List.findIdx?_eq_none_iff];intro x hx;refine jGb.2 λheq=>?_
         obtain⟨j,hj,he⟩:=qA hx
         have:=(hs.get (e/2) (j+1)).2 (.inr ⟨by omega,by rw[hn];rfl,by rw[kUb,yA hj,he,heq]⟩);rw[hg] at this;cases this
        have htop:topT s.vars (s.tb (2*(e/2)))=some m.v:=by rw[h.top_tb hvj,hnj];rfl
        have hp:flipIf e (e%2==1)=2*(e/2):=by
         rcases jKa e with h1|h1
         . rw[h1];show e=_;omega
         . rw[h1];exact flip_even h1
        have hsp:s.splitI (2*(e/2)) (m.v:Int)=(m.lo,m.hi):=by
         unfold St.splitI St.at_;rw[hnj];simp[flipIf]
        have hte:(s.topE [2*(e/2)]).1=(m.v:Int):=by
         obtain⟨v,_,h2,_,f,hf,m',hm',hv'⟩:=h.topE (l:=[2*(e/2)]) ⟨_,.head _,by rw[hnj];rfl⟩;rw[jKb] at hf;subst hf;rw[hnj] at hm';injection hm' with hm'
         rw[h2,<- hv',hm']
        have c0:=h.cof_tb hnj false;have c1:=h.cof_tb hnj true;have hev:(2*(e/2)%2==1)=false:=by simp
        rw[hev] at c0 c1;simp only[jFa,jOb,jEb,flipIf] at c0 c1;have kid:=h.can.toAcyc.kid hn;have hrk:0<rkf (lvf s) s.nd (e/2):=by
         rw[Xz hn]
         have:=(h.pm.lv _ hmv).1
         have:=h.pm.le;omega
        have rk:∀c:Bool,rkf (lvf s) s.nd ((if c then m.hi else m.lo)/2)<b/\rkf (lvf s) s.nd ((if c then m.hi else m.lo)/2)<rkf (lvf s) s.nd (e/2):=λc=>by
         by_cases hz:(if c=true then m.hi else m.lo)/2=0
         . rw[hz]
           have:rkf (lvf s) s.nd 0=0:=by unfold rkf;rw[h.can.g0]
           omega
         . have:=(kid c).2 hz
           omega
        have k0:=kid false;have k1:=kid true;have r0:=rk false;have r1:=rk true;simp only[jFa,jOb,jEb] at k0 k1 r0 r1;simp only[hf,htop,hp,hte,hsp,c0,c1];obtain⟨q1,f1,n1,a1,a2,a3,a3'⟩:=down_add h b m.lo q fs kd ka' (by omega) hka' k0.1 r0.1 hs;obtain⟨q2,f2,n2,a4,a5,a6,a6'⟩:=down_add h b m.hi q1 f1 kd ka' (by omega) hka' k1.1 r1.1 a3;simp only[a1,a2,a4,a5,Option.bind_some];have hnot:q2.get (e/2)=none/\∀i:Nat,f2[i]?≠some (s.tb (2*(e/2))):=by
         have h1:q2.get (e/2)=none:=Classical.byContradiction λhc=>by
          rcases a6' _ hc with hc|hc
          . rcases a3' _ hc with hc|hc
            . exact hc hg
            . omega
          . omega
         refine⟨h1,λi hi=>?_⟩
         have:=(a6.get (e/2) (i+1)).2 (.inr ⟨by omega,by rw[hn];rfl,by rw[kUb];exact hi⟩);rw[h1] at this;cases this
        have hgt:∀j,(⟨q2.rows++[⟨(m.v:Int),n1,n2⟩],q2.at_++[(e/2,q2.rows.length+1)]⟩:RS).get j=if j=e/2 then some (q2.rows.length+1) else q2.get j:=λj=>by
         unfold RS.get;simp only[kW];have h1:=hnot.1;unfold RS.get at h1;by_cases ej:j=e/2
         . subst ej
           rw[jAb rfl]
           have:q2.at_.find? (λp=>p.1==e/2)=none:=by
            cases hq:q2.at_.find? (λp=>p.1==e/2) with
            | none=>rfl
            | some p=>rw[hq] at h1;cases h1
           rw[this];simp
         . rw[jAa ej]
           have:([(e/2,q2.rows.length+1)]:List (Nat×Nat)).find? (λp=>p.1==j)=none:=kAa.2 (by simp;omega);rw[this,Option.or_none]
        refine⟨_,_,q2.rows.length+1,rfl,rfl,⟨by simp[a6.len],?_,λj i=>?_⟩,λj hj=>?_⟩
        . refine jY.2 ⟨a6.nd,by simp,λx hx y hy=>?_⟩
          rw[jKb] at hy;subst hy;rintro rfl;obtain⟨i,hi,he⟩:=qA hx;exact hnot.2 i (by rw[yA hi,he])
        . rw[hgt]
          have hl:=a6.len;by_cases ej:j=e/2
          . subst ej
            rw[jAb rfl];constructor
            . intro hi
              injection hi with hi
              subst hi;exact .inr ⟨by omega,by rw[hn];rfl,by rw[kUb,<- hl,jOa (jBb _)];simp⟩
            . rintro (⟨h0,_⟩|⟨h1,_,h3⟩)
              . exact absurd h0 hj0
              . rcases jYb (i-1) f2.length with hlt|hge
                . rw[jHa hlt] at h3
                  exact absurd h3 (hnot.2 _)
                . have:=(yE.1 h3).1
                  simp at this
                  congr 1
                  omega
          . rw[jAa ej,a6.get]
            refine or_congr Iff.rfl (and_congr_right λh1=>and_congr_right λh2=>?_);rcases jYb (i-1) f2.length with hlt|hge
            . rw[jHa hlt]
            . rw[jJ hge]
              constructor
              . intro h;cases h
              . intro h3
                have:=(yE.1 h3).1;simp at this
                have e1:i-1=f2.length:=by omega
                rw[e1,jOa (jBb _)] at h3;simp at h3
                obtain⟨w,hw⟩:=yF.1 h2;exact absurd (h.tb2_inj hn hw h3).symm ej
        . rw[hgt] at hj
          by_cases ej:j=e/2
          . subst ej;exact .inr (jBb _)
          . rw[jAa ej] at hj
            rcases a6' _ hj with hj|hj
            . rcases a3' _ hj with hj|hj
              . exact .inl hj
              . exact .inr (by omega)
            . exact .inr (by omega)
     rcases jKa e with hm|hm
     . obtain⟨q',fs',i,c1,c2,c3,c4⟩:=core ka (by omega)
       rw[show 2*(e/2)=e by omega] at c2;refine⟨q',fs',_,c1,?_,c3,c4⟩;rw[c2,edge_val,hm];rfl
     . obtain⟨ka,rfl⟩:∃k,ka=k+1:=⟨ka-1,by omega⟩
       obtain⟨q',fs',i,c1,c2,c3,c4⟩:=core ka (by omega);refine⟨q',fs',_,c1,?_,c3,c4⟩;conv=>lhs;unfold addT
       rw[jAa (notc _ rfl hv true),jAa (notc _ rfl hv false),jAb (by rw[h.last hv,hm];rfl),<- tb_flip,flip_even hm,c2,edge_val,hm];rfl
end G
namespace G
variable{S:Sem} {n c:Nat} {m:Mg}
def edgeF(fs:List Fn)(e:Nat):Fn:=λρ=>(e%2==1) ^^ fs.getD (e/2) (λ_=>true) ρ
def Kv:List Rw3->List Fn->List Fn
 | [],fs=>fs
 | r::l,fs=>Kv l (fs++[λρ=>if ρ r.v.toNat then edgeF fs r.hi.toNat ρ else edgeF fs r.lo.toNat ρ])
def RowsOk(n:Nat):List Rw3->Nat->Prop
 | [],_=>True
 | r::l,i=>(0<=r.v/\r.v<n/\0<=r.lo/\r.lo.toNat/2<=i/\0<=r.hi/\r.hi.toNat/2<=i)/\RowsOk n l (i+1)
structure Ns (m:Mg) (ns:List Nat) (fs:List Fn):Prop where
 len:ns.length=fs.length
 pos:0<ns.length
 get:∀i,i<ns.length->val m.s.nd (ns.getD i 0)/\den m.s.nd (ns.getD i 0)=fs.getD i (λ_=>true)
theorem Ns.edge{ns:List Nat}{fs:List Fn}(h:Ns m ns fs){e:Nat}(he:e/2<ns.length):val m.s.nd (flipIf (ns.getD (e/2) 0) (e%2==1))/\den m.s.nd (flipIf (ns.getD (e/2) 0) (e%2==1))=edgeF fs e:=by
 obtain⟨h1,h2⟩:=h.get _ he;refine⟨val_flipIf.2 h1,funext λρ=>?_⟩;rw[Ke,h2];rfl
theorem Ns.grew{B K:Nat}{m':Mg}{ns:List Nat}{fs:List Fn}(h:Ns m ns fs)(g:Grew S B K m m'):Ns m' ns fs :=
 ⟨h.len,h.pos,λi hi=>by obtain⟨h1,h2⟩:=h.get i hi;exact⟨g.gro.val h1,by rw[g.gro.dens _ h1,h2]⟩⟩
theorem Ns.push{ns:List Nat}{fs:List Fn}(h:Ns m ns fs){k:Nat}{φ:Fn}(h1:val m.s.nd k)(h2:den m.s.nd k=φ):Ns m (ns++[k]) (fs++[φ]):=by
 have hl:=h.len;refine⟨by simp[hl],by simp,λi hi=>?_⟩;simp only[yG,List.length_singleton] at hi;by_cases e:i<ns.length
 . obtain⟨h3,h4⟩:=h.get i e
   rw[yD,jHa e,<- yD];rw[yD (l:=fs++[φ]),jHa (by omega),<- yD];exact⟨h3,h4⟩
 . have e:i=ns.length:=by omega
   subst e;rw[yD,jOa (jBb _)];rw[yD (l:=fs++[φ]),jOa (by omega),hl];simp
   exact⟨h1,h2⟩
def NsR(fs:List Fn)(m:Mg):List Nat ⊕ Nat->Prop
 | .inl ns=>Ns m ns fs
 | .inr _=>False
theorem loadE_ok(hS1:∀φ ψ χ,S 1 φ ψ χ=iteF φ ψ χ):∀(l:List Rw3) (m:Mg) (ns:List Nat) (fs:List Fn),Snd S n c m->Ns m ns fs->RowsOk n l (ns.length-1)->Runs S m.hs.length (l.length*(1+(2^n-1+0))) m (loadE l m ns) (NsR (Kv l fs))
 | [],m,ns,fs,h,hN,_=>by
   rw[yC,kWa];exact Runs.pure h.ok h.me hN
 | r::l,m,ns,fs,h,hN,⟨⟨v0,vn,l0,l1,h0,h1⟩,hl⟩=>by
   have hpos:=hN.pos;obtain⟨v,hv⟩:∃v:Nat,r.v=(v:Int):=⟨r.v.toNat,by omega⟩;unfold loadE;rw[hv];have e1:(r::l).length*(1+(2^n-1+0))=1+((2^n-1)+l.length*(1+(2^n-1+0))):=by rw[yB,kIa];omega
   rw[e1];refine (h.varR (v:=v) (by omega)).then (λ_ _ _ hb=>hb.elim) λm1 x g1 w1 r1=>?_
   have s1:=h.ofGrew g1 w1;have N1:=hN.grew g1;obtain⟨vx,dx⟩:=r1;obtain⟨a1,a2⟩:=N1.edge (e:=r.hi.toNat) (by omega);obtain⟨b1,b2⟩:=N1.edge (e:=r.lo.toNat) (by omega);have hi:=s1.iteR hS1 vx a1 b1;rw[dx,a2,b2,g1.hs] at hi;refine hi.then (λ_ _ _ hb=>hb.elim) λm2 k g2 w2 r2=>?_
   rw[<- g1.hs] at g2;have s2:=s1.ofGrew g2 w2;have N2:=(N1.grew g2).push r2.1 r2.2
   have:=loadE_ok hS1 l m2 (ns++[k]) _ s2 N2 (by rw[yG,List.length_singleton,kUb];rw[show ns.length-1+1=ns.length by omega] at hl;exact hl);rw[g2.hs,g1.hs] at this;refine this.mono (jBb _) λm' y _ hy=>?_
   have e2:Kv (r::l) fs=Kv l (fs++[iteF (λρ=>ρ v) (edgeF fs r.hi.toNat) (edgeF fs r.lo.toNat)]):=by
    conv=>lhs;unfold Kv
    rw[hv];rfl
   rw[e2];exact hy
theorem load1_ok(hS1:∀φ ψ χ,S 1 φ ψ χ=iteF φ ψ χ)(h:Snd S n c m){rows:List Rw3}{root:Nat}(hr:RowsOk n rows 0)(hroot:root/2<=rows.length) :
  Runs S m.hs.length (rows.length*(1+(2^n-1+0))) m (load1 rows root m) (Isf (edgeF (Kv (rows.take (root/2)) [λ_=>true]) root)):=by
 have hN:Ns m [0] [λ_=>true]:=⟨rfl,by simp,λi hi=>by
  simp at hi
  subst hi;exact⟨.inl rfl,funext λρ=>den_zero h.ok.can.g0 ρ⟩⟩
 have hlen:(rows.take (root/2)).length=root/2:=by rw[jSa];omega
 have htake:∀(l:List Rw3) (k i:Nat),RowsOk n l i->RowsOk n (l.take k) i:=by
  intro l
  induction l with
  | nil=>intro k i h;simpa using h
  | cons r l ih =>
    intro k i h;cases k with
    | zero=>exact trivial
    | succ k=>exact⟨h.1,ih k _ h.2⟩
 have flen:∀(l:List Rw3) (fs:List Fn),(Kv l fs).length=fs.length+l.length:=by
  intro l
  induction l with
  | nil=>intro fs;rfl
  | cons r l ih=>intro fs;unfold Kv;rw[ih];simp;omega
 have:=loadE_ok hS1 (rows.take (root/2)) m [0] [λ_=>true] h hN (htake _ _ _ hr);unfold load1;refine (this.then (L:=0) (λ_ _ _ hb=>hb.elim) λm1 ns g1 w1 r1=>?_).mono ?_ λ_ _ _ h=>h
 . have hl:=r1.len
   rw[flen,hlen] at hl;exact Runs.pure g1.ok g1.me (r1.edge (by rw[hl];simp))
 . rw[Nat.add_zero,hlen]
   exact jSb _ hroot
end G
namespace G
variable{B:Nat} {s:St}
abbrev T1:List Fn:=[λ_=>true]
theorem rowFs_append:∀(l l':List Rw3) (fs:List Fn),Kv (l++l') fs=Kv l' (Kv l fs)
 | [],_,_=>rfl
 | _::l,l',_=>rowFs_append l l' _
theorem rowFs_length:∀(l:List Rw3) (fs:List Fn),(Kv l fs).length=fs.length+l.length
 | [],_=>rfl
 | r::l,fs=>by unfold Kv;rw[rowFs_length l];simp;omega
theorem rowFs_old:∀(l:List Rw3) (fs:List Fn) (i:Nat),i<fs.length->(Kv l fs).getD i (λ_=>true)=fs.getD i (λ_=>true)
 | [],_,_,_=>rfl
 | r::l,fs,i,hi=>by
   unfold Kv;rw[rowFs_old l _ i (by simp;omega),yD,jHa hi,<- yD]
theorem edgeF_old{l:List Rw3}{fs:List Fn}{e:Nat}(he:e/2<fs.length):edgeF (Kv l fs) e=edgeF fs e:=by unfold edgeF;rw[rowFs_old l fs _ he]
theorem RowsOk.append{n:Nat}:∀{l l':List Rw3} {i:Nat},RowsOk n l i->RowsOk n l' (i+l.length)->RowsOk n (l++l') i
 | [],_,_,_,h=>h
 | r::l,l',i,h,h'=>⟨h.1,RowsOk.append h.2 (by rw[show i+1+l.length=i+(r::l).length by simp;omega];exact h')⟩
structure Mean (s:St) (q:RS):Prop where
 zero:q.get 0=some 0
 get:∀j i,q.get j=some i->i<=q.rows.length/\den s.nd (2*j)=(Kv q.rows T1).getD i (λ_=>true)
 ok:RowsOk s.vars.length q.rows 0
theorem mean0(h:StOk B s):Mean s rs0 where
 zero:=rfl
 get j i hi:=by
  have:j=0/\i=0:=by
   unfold RS.get rs0 at hi;by_cases e:j=0
   . subst e;simp at hi;exact⟨rfl,hi.symm⟩
   . have:([(0,0)]:List (Nat×Nat)).find? (λp=>p.1==j)=none:=kAa.2 (by simp;omega)
     simp only[this] at hi;cases hi
  obtain⟨rfl,rfl⟩:=this;exact⟨jBb _,funext λρ=>den_zero h.can.g0 ρ⟩
 ok:=trivial
theorem down_mean(h:StOk B s):∀(b:Nat) (e:Nat) (q:RS) (kd:Nat),b<=kd->val s.nd e->rkf (lvf s) s.nd (e/2)<b->Mean s q ->
  ∃q' n,downR kd s q e=some (q',n)/\Mean s q'/\edgeF (Kv q'.rows T1) n=den s.nd e/\n/2<=q'.rows.length/\∃l,q'.rows=q.rows++l
 | 0,e,q,kd,_,_,hr,_=>by omega
 | b+1,e,q,kd,hkd,hv,hr,hm=>by
   obtain⟨kd,rfl⟩:∃k,kd=k+1:=⟨kd-1,by omega⟩;have fin:∀(q':RS) (i:Nat),i<=q'.rows.length->den s.nd (2*(e/2))=(Kv q'.rows T1).getD i (λ_=>true)->edgeF (Kv q'.rows T1) (G.edge i (e%2==1))=den s.nd e/\G.edge i (e%2==1)/2<=q'.rows.length:=λq' i hi hd=>by
    rw[edge_div];refine⟨funext λρ=>?_,hi⟩;unfold edgeF;rw[edge_div,<- hd,<- Ka s.nd (e/2),show (G.edge (e/2) (G.edge i (e%2==1)%2==1))=e from ?_];rw[show (G.edge i (e%2==1)%2==1)=(e%2==1) from ?_]
    . exact edge_split e
    . unfold G.edge flipIf flip
      rcases jKa e with h1|h1
      . rw[h1];simp
      . rw[h1];simp <;> omega
   unfold downR;cases hg:q.get (e/2) with
   | some i =>
     obtain⟨h1,h2⟩:=hm.get _ _ hg;obtain⟨h3,h4⟩:=fin q i h1 h2;exact⟨q,_,rfl,hm,h3,h4,[],by simp⟩
   | none =>
     have hj0:e/2≠0:=by intro e0;rw[e0,hm.zero] at hg;cases hg
     obtain⟨m,hn⟩:=yF.1 (hv.resolve_left hj0);have hvj:val s.nd (2*(e/2)):=val2 hn;have hnj:s.nd (2*(e/2)/2)=some m:=by rw[two_half];exact hn
     have hmv:=h.vars _ _ hn;have hp:flipIf e (e%2==1)=2*(e/2):=by
      rcases jKa e with h1|h1
      . rw[h1];show e=_;omega
      . rw[h1];exact flip_even h1
     have hsp:s.splitI (2*(e/2)) (m.v:Int)=(m.lo,m.hi):=by
      unfold St.splitI St.at_;rw[hnj];simp[flipIf]
     have hte:(s.topE [2*(e/2)]).1=(m.v:Int):=by
      obtain⟨v,_,h2,_,f,hf,m',hm',hv'⟩:=h.topE (l:=[2*(e/2)]) ⟨_,.head _,by rw[hnj];rfl⟩;rw[jKb] at hf;subst hf;rw[hnj] at hm';injection hm' with hm'
      rw[h2,<- hv',hm']
     have kid:=h.can.toAcyc.kid hn;have hrk:0<rkf (lvf s) s.nd (e/2):=by
      rw[Xz hn]
      have:=(h.pm.lv _ hmv).1
      have:=h.pm.le;omega
     have rk:∀c:Bool,rkf (lvf s) s.nd ((if c then m.hi else m.lo)/2)<b:=λc=>by
      by_cases hz:(if c=true then m.hi else m.lo)/2=0
      . rw[hz]
        have:rkf (lvf s) s.nd 0=0:=by unfold rkf;rw[h.can.g0]
        omega
      . have:=(kid c).2 hz
        omega
     have k0:=kid false;have k1:=kid true;have r0:=rk false;have r1:=rk true;simp only[jFa,jOb,jEb] at k0 k1 r0 r1;simp only[hp,hte,hsp];obtain⟨q1,n1,a1,a2,a3,a4,l1,a5⟩:=down_mean h b m.lo q kd (by omega) k0.1 r0 hm;obtain⟨q2,n2,b1,b2,b3,b4,l2,b5⟩:=down_mean h b m.hi q1 kd (by omega) k1.1 r1 a2;simp only[a1,b1,Option.bind_some];have hlen:(Kv q2.rows T1).length=q2.rows.length+1:=by rw[rowFs_length];simp;omega
     have hlo:edgeF (Kv q2.rows T1) n1=den s.nd m.lo:=by
      rw[b5,rowFs_append,edgeF_old (by rw[rowFs_length];simp;omega),a3]
     have hnew:Kv (q2.rows++[⟨(m.v:Int),(n1:Int),(n2:Int)⟩]) T1=Kv q2.rows T1++[den s.nd (2*(e/2))]:=by
      rw[rowFs_append];show Kv q2.rows T1++[_]=_
      congr 2
      funext ρ
      rw[den_id h.can.toAcyc hn];show (if ρ m.v=true then edgeF (Kv q2.rows T1) n2 ρ else edgeF (Kv q2.rows T1) n1 ρ)=_
      rw[hlo,b3];split <;> rfl
     have hold:∀i,i<=q2.rows.length->(Kv q2.rows T1++[den s.nd (2*(e/2))]).getD i (λ_=>true)=(Kv q2.rows T1).getD i (λ_=>true):=λi hi=>by
      rw[yD,jHa (by omega),<- yD]
     have hlast:(Kv q2.rows T1++[den s.nd (2*(e/2))]).getD (q2.rows.length+1) (λ_=>true)=den s.nd (2*(e/2)):=by
      rw[yD,jOa (by omega),hlen,qCa];rfl
     have hgt:∀j i,(⟨q2.rows++[⟨(m.v:Int),n1,n2⟩],q2.at_++[(e/2,q2.rows.length+1)]⟩:RS).get j=some i->q2.get j=some i\/(j=e/2/\i=q2.rows.length+1):=λj i hi=>by
      unfold RS.get at hi ⊢;simp only[kW] at hi;cases hq:q2.at_.find? (λp=>p.1==j) with
      | some p=>rw[hq] at hi;exact .inl hi
      | none =>
        rw[hq] at hi;by_cases ej:e/2=j
        . right
          simp[ej] at hi
          exact⟨ej.symm,hi.symm⟩
        . have:([(e/2,q2.rows.length+1)]:List (Nat×Nat)).find? (λp=>p.1==j)=none:=kAa.2 (by simp;omega)
          rw[this] at hi;cases hi
     have hlenq:(q2.rows++[⟨(m.v:Int),(n1:Int),(n2:Int)⟩]:List Rw3).length=q2.rows.length+1:=by simp
     have hM:Mean s ⟨q2.rows++[⟨(m.v:Int),n1,n2⟩],q2.at_++[(e/2,q2.rows.length+1)]⟩:=by
      refine⟨?_,λj i hi=>?_,?_⟩
      . have:=b2.zero
        unfold RS.get at this ⊢;simp only[kW];cases hq:q2.at_.find? (λp=>p.1==0) with
        | some p=>rw[hq] at this;exact this
        | none=>rw[hq] at this;cases this
      . show i<=(q2.rows++[_]).length/\_=(Kv (q2.rows++[_]) T1).getD i _
        rw[hnew,hlenq];rcases hgt j i hi with h1|⟨rfl,rfl⟩
        . obtain⟨h2,h3⟩:=b2.get j i h1
          exact⟨by omega,by rw[hold i h2];exact h3⟩
        . exact⟨jBb _,hlast.symm⟩
      . have hl1:q1.rows.length<=q2.rows.length:=by rw[b5];simp
        refine RowsOk.append b2.ok ⟨⟨Int.natCast_nonneg _,?_,Int.natCast_nonneg _,?_,Int.natCast_nonneg _,?_⟩,trivial⟩
        . show ((m.v:Nat):Int)<_
          omega
        . show ((n1:Nat):Int).toNat/2<=_
          rw[Int.toNat_natCast];omega
        . show ((n2:Nat):Int).toNat/2<=_
          rw[Int.toNat_natCast];omega
     obtain⟨h3,h4⟩:=fin ⟨q2.rows++[⟨(m.v:Int),n1,n2⟩],q2.at_++[(e/2,q2.rows.length+1)]⟩ (q2.rows.length+1) (by rw[hlenq];exact jBb _) (by
      show _=(Kv (q2.rows++[_]) T1).getD _ _
      rw[hnew,hlast])
     exact⟨_,_,rfl,hM,h3,h4,l1++(l2++[⟨(m.v:Int),n1,n2⟩]),by show q2.rows++_=_;rw[b5,a5];simp⟩
end G
namespace G
variable{S:Sem} {n c:Nat} {m:Mg}
theorem foldE_ok{F:Mg->Nat->Nat->Step Nat}{f:Fn->Fn->Fn}{K:Nat}(hF:∀m a b,Snd S n c m->val m.s.nd a->val m.s.nd b->Runs S m.hs.length K m (F m a b) (Isf (f (den m.s.nd a) (den m.s.nd b)))) :
  ∀(l:List Int) (φs:List Fn) (m:Mg) (r:Nat),Snd S n c m->l.map m.fn=φs.map some->val m.s.nd r->Runs S m.hs.length (l.length*K) m (foldE F l m r) (Isf (φs.foldl f (den m.s.nd r)))
 | [],φs,m,r,h,hl,hr=>by
   have:φs=[]:=by cases φs;rfl;cases hl
   subst this;rw[yC,kWa];exact Runs.pure h.ok h.me ⟨hr,rfl⟩
 | k::l,φs,m,r,h,hl,hr=>by
   cases φs with
   | nil=>cases hl
   | cons φ φs =>
     simp only[jDb,qAb] at hl;unfold foldE;refine Runs.mono ((h.edgeR hl.1).then (L:=K+l.length*K) (λ_ _ _ hb=>hb.elim) λm1 e g1 w1 r1=>?_) (by rw[yB,kIa];omega) λ_ _ _ h=>h
     have h1:=h.ofGrew g1 w1;have f1:=(h.grew g1 (λe he=>by rw[w1] at he;exact he)).2;have hF1:=hF m1 r e h1 (g1.gro.val hr) r1.1;rw[g1.hs,r1.2,g1.gro.dens _ hr] at hF1;refine hF1.then (λ_ _ _ hb=>hb.elim) λm2 r' g2 w2 r2=>?_
     rw[<- g1.hs] at g2;have h2:=h1.ofGrew g2 w2;have f2:=(h1.grew g2 (λe he=>by rw[w2] at he;exact he)).2
     have:=foldE_ok hF l φs m2 r' h2 (by rw[f2,f1];exact hl.2) r2.1;rw[g2.hs,g1.hs,r2.2] at this;exact this
theorem andE_ok(hS1:∀φ ψ χ,S 1 φ ψ χ=iteF φ ψ χ)(m:Mg)(a b:Nat)(h:Snd S n c m)(ha:val m.s.nd a)(hb:val m.s.nd b):Runs S m.hs.length (2^n-1) m (andE m a b) (Isf (λρ=>den m.s.nd a ρ&&den m.s.nd b ρ)):=by
 refine (h.iteR hS1 ha hb (.inl rfl:val m.s.nd 1)).mono (jBb _) λm' y _ hy=>?_
 cases y with
 | inr e=>exact hy
 | inl r =>
   refine⟨hy.1,hy.2.trans (funext λρ=>?_)⟩;unfold iteF;rw[den_one h.ok.can.g0];cases den m.s.nd a ρ <;> simp
def addsT(k:Nat)(o:List Nat):List Tb->List Rw3->List Tb->List Nat->Option (List Rw3×List Tb×List Nat)
 | [],rows,fs,r=>some (rows,fs,r)
 | x::l,rows,fs,r=>(addT k o rows fs x).bind λq=>addsT k o l q.1.1 q.1.2 (r++[q.2])
def Listed(n:Nat)(φs:List Fn)(rows0:List Rw3)(fs0:List Tb)(r0:List Nat)(m:Mg):((RS×List Nat) ⊕ Nat)->Prop
 | .inl (q,roots)=>Mean m.s q/\∃fs rs,Seen m.s q fs/\addsT 200 m.s.vars (φs.map (Xw n)) rows0 fs0 r0=some (q.rows,fs,roots)/\roots=r0++rs/\rs.map (edgeF (Kv q.rows T1))=φs/\(∀e∈rs,e/2<=q.rows.length)/\∃l,q.rows=rows0++l
 | .inr _=>False
theorem rowsE_ok:∀(l:List Int) (φs:List Fn) (m:Mg) (q:RS) (fs:List Tb) (r:List Nat),Snd S n c m->l.map m.fn=φs.map some->Mean m.s q->Seen m.s q fs ->
  Runs S m.hs.length 0 m (rowsE l m q r) (Listed n φs q.rows fs r)
 | [],φs,m,q,fs,r,h,hl,hM,hQ=>by
   have:φs=[]:=by cases φs;rfl;cases hl
   subst this;exact Runs.pure h.ok h.me ⟨hM,fs,[],hQ,rfl,by simp,rfl,by simp,[],by simp⟩
 | k::l,φs,m,q,fs,r,h,hl,hM,hQ=>by
   cases φs with
   | nil=>cases hl
   | cons φ φs =>
     simp only[jDb,qAb] at hl;have hk:=hl.1;unfold Mg.fn at hk;cases ho:m.of k with
     | none=>rw[ho] at hk;cases hk
     | some e =>
       rw[ho,Option.map_some] at hk;injection hk with hk
       have hv:=of_val h ho;have hrk:=rkf_le (lvf m.s) m.s.nd (e/2);obtain⟨q1,n1,a1,a2,a3,a4,l1,a5⟩:=down_mean h.ok 100 e q fuel (by decide) hv (by omega) hM;obtain⟨q1',fs1,n1',b1,b2,b3,_⟩:=down_add h.ok 100 e q fs fuel 200 (by decide) (by decide) hv (by omega) hQ;rw[a1] at b1;injection b1 with b1
       injection b1 with b0 b1
       subst b0 b1;have he:m.edge k=some (m,.ok e):=by unfold Mg.edge;rw[ho]
       have:=rowsE_ok l φs m q1 fs1 (r++[n1]) h hl.2 a2 b3;unfold rowsE;rw[he];simp only[Step.then,a1];obtain⟨m',y,hy,g,hend⟩:=this;refine⟨m',y,hy,g,hend.mono (jBb _) λx hx=>?_⟩;cases x with
       | inr e=>exact hx
       | inl x =>
         obtain⟨q2,roots⟩:=x;obtain⟨c1,fs2,rs,c2,c3,c4,c5,c6,l2,c7⟩:=hx;have hvars:m'.s.vars=m.s.vars:=g.gro.vars;have htb:Xw n φ=m.s.tb e:=by unfold St.tb;rw[h.vars,hk]
         refine⟨c1,fs2,n1::rs,c2,?_,by rw[c4];simp,?_,?_,l1++l2,by rw[c7,a5];simp⟩
         . rw[jDb,htb]
           unfold addsT;rw[hvars,b2];rw[hvars] at c3;exact c3
         . rw[jDb,c5,c7,rowFs_append,edgeF_old (by rw[rowFs_length];simp;omega),a3,hk]
         . intro x hx
           rcases jBa.1 hx with rfl|hx
           . rw[c7];simp;omega
           . exact c6 x hx
theorem rowsE_bad:∀(l:List Int) (m:Mg) (q:RS) (r:List Nat),Snd S n c m->Mean m.s q->(∃k∈l,m.fn k=none)->Runs S m.hs.length 0 m (rowsE l m q r) (λ_ x=>x=.inr 8)
 | [],m,q,r,h,hM,hk=>by obtain⟨k,hk,_⟩:=hk;cases hk
 | k::l,m,q,r,h,hM,hk=>by
   unfold rowsE;cases ho:m.of k with
   | none =>
     have he:m.edge k=some (m,.stop (.err 8)):=by unfold Mg.edge;rw[ho]
     rw[he];exact Runs.fail h.ok h.me (by decide) rfl
   | some e =>
     have he:m.edge k=some (m,.ok e):=by unfold Mg.edge;rw[ho]
     have hrk:=rkf_le (lvf m.s) m.s.nd (e/2);obtain⟨q1,n1,a1,a2,_⟩:=down_mean h.ok 100 e q fuel (by decide) (of_val h ho) (by omega) hM;rw[he];simp only[Step.then,a1];refine rowsE_bad l m q1 (r++[n1]) h a2 ?_;obtain⟨j,hj,hn⟩:=hk;rcases jBa.1 hj with rfl|hj
     . unfold Mg.fn at hn;rw[ho] at hn;cases hn
     . exact⟨j,hj,hn⟩
end G
namespace G
structure Keys (s:St) (q:RS):Prop where
 nd:(q.at_.map (·.1)).Nodup
 len:q.at_.length=q.rows.length+1
 mem:∀k∈q.at_.map (·.1),k=0\/(s.nd k).isSome=true
 zero:(q.get 0).isSome=true
theorem keys0(s:St):Keys s rs0:=⟨by simp[rs0],rfl,λk h=>by simp[rs0] at h;exact .inl h,rfl⟩
theorem RS.get_none{q:RS}{i:Nat}(h:q.get i=none):i∉q.at_.map (·.1):=λhm=>by
 unfold RS.get at h;rw[Option.map_eq_none_iff,kAa] at h;obtain⟨p,hp,rfl⟩:=jF.1 hm;exact h p hp (by simp)
theorem down_count{s:St}{rk:Nat->Nat}(hac:Acyc s.nd rk):∀(k:Nat) (q q':RS) (f e:Nat),Keys s q->downR k s q f=some (q',e)->Keys s q'
 | 0,q,q',f,e,_,h=>by cases h
 | k+1,q,q',f,e,hK,h=>by
   have h':=h;rw[down_succ] at h;cases hg:q.get (f/2) with
   | some n=>rw[hg] at h;cases h;exact hK
   | none =>
     rw[hg] at h;simp only at h;have hpf:flipIf f (f%2==1)/2=f/2:=Qx _ _;have hpe:flipIf f (f%2==1)%2=0:=flipIf_self_even f;have hfr:=λq1 q2 e1 e2=>down_fresh (k:=k) (q1:=q1) (q2:=q2) (e1:=e1) (e2:=e2) hac hK.zero hg
     cases hn:s.nd (f/2) with
     | none =>
       have hn':s.nd (flipIf f (f%2==1)/2)=none:=by rw[hpf];exact hn
       simp only[topE_none hn'] at h;rw[down_stuck hn' hpe k q (by rw[hpf];exact hg)] at h;cases h
     | some n =>
       generalize (s.splitI (flipIf f (f%2==1)) (s.topE [flipIf f (f%2==1)]).1).1=lo at *
       generalize (s.splitI (flipIf f (f%2==1)) (s.topE [flipIf f (f%2==1)]).1).2=hi at *
       cases hd1:downR k s q lo with
       | none=>rw[hd1] at h;cases h
       | some x =>
         obtain⟨q1,e1⟩:=x;rw[hd1] at h;simp only[Option.bind_some] at h;have K1:=down_count hac k q q1 lo e1 hK hd1;cases hd2:downR k s q1 hi with
         | none=>rw[hd2] at h;cases h
         | some x =>
           obtain⟨q2,e2⟩:=x;rw[hd2] at h;simp only[Option.bind_some] at h;have K2:=down_count hac k q1 q2 hi e2 K1 hd2;have hf2:=hfr q1 q2 e1 e2 hd1 hd2;cases h;refine⟨?_,by simp[K2.len],λx hx=>?_,?_⟩
           . simp only[jGa,jDb,jZ]
             rw[jY];exact⟨K2.nd,by simp,λa ha b hb=>by
              simp only[jBa,jCa,jJb] at hb;subst hb;intro e0;subst e0;exact RS.get_none hf2 ha⟩
           . simp only[jGa,jDb,jZ,jH,jBa,jCa,jJb] at hx
             rcases hx with hx|rfl
             . exact K2.mem x hx
             . exact .inr (by rw[hn];rfl)
           . rw[RS.get_push]
             obtain⟨z,hz⟩:=yF.1 K2.zero;rw[hz];rfl
theorem rowsE_keys{m:Mg}{rk:Nat->Nat}(hac:Acyc m.s.nd rk):∀(l:List Int) (m':Mg) (q q':RS) (r r':List Nat),Keys m.s q->rowsE l m q r=some (m',.ok (q',r'))->Keys m.s q'
 | [],m',q,q',r,r',hK,h=>by cases h;exact hK
 | k::l,m',q,q',r,r',hK,h=>by
   unfold rowsE Mg.edge at h;cases hk:m.of k with
   | none=>rw[hk] at h;cases h
   | some f =>
     rw[hk] at h;simp only[Step.then] at h;cases hd:downR fuel m.s q f with
     | none=>rw[hd] at h;cases h
     | some x =>
       rw[hd] at h;exact rowsE_keys hac l m' _ q' _ r' (down_count hac _ _ _ _ _ hK hd) h
theorem nodup_lt:∀(n:Nat) (l:List Nat),l.Nodup->(∀x∈l,x<n)->l.length<=n
 | 0,[],_,_=>jBb _
 | 0,x::l,_,h=>by have:=h x (.head _);omega
 | n+1,l,hn,h=>by
   have h1:=nodup_lt n (l.erase n) (hn.erase n) λx hx=>by
    have h2:=h x (List.mem_of_mem_erase hx);have h3:x≠n:=λe=>by subst e;exact (List.Nodup.not_mem_erase hn) hx
    omega
   have h2:l.length<=(l.erase n).length+1:=by
    by_cases hm:n∈l
    . rw[List.length_erase_of_mem hm];have:=kQ hm;omega
    . rw[List.erase_of_not_mem hm];omega
   omega
theorem Keys.bound{s:St}{q:RS}(h:Keys s q):q.rows.length<=s.pl.slots.length:=by
 have h1:=nodup_lt (s.pl.slots.length+1) _ h.nd λx hx=>by
  rcases h.mem x hx with rfl|hx
  . omega
  . have:=Pl.nd_lt hx;omega
 rw[jHb,h.len] at h1;omega
end G
section
open Go.RowKit
def ValR(m:G.Mg):Nat ⊕ Nat->Prop
 | .inl r=>G.val m.s.nd r
 | .inr _=>False
theorem G.Isf.valR{φ:G.Fn}{m:G.Mg}{y:Nat ⊕ Nat}(h:G.Isf φ m y):ValR m y:=by
 cases y with
 | inl r=>exact h.1
 | inr e=>exact h
section
variable{S:G.Sem} {n c:Nat} {E w:World} {I p:PH} {ms:List PH} {D:Nat} {m m':G.Mg} {h er:Nat}
theorem wvar_any(hs:G.Snd S n c m)(hH:m.hs.length<1152921504606846976)(hr:m.s.pl.room<=900000){x:Nat}(hx:x<n)(hm:m.var_ x=some (m',h,er))(hA:MgAt D m p)(hS:Sat E I (p::ms) w) :
  Calls Tryz.prog 27 #[vPt D,nv x] w λe w'=>e=.returned (.tuple #[nv h,nv er])/\∃p',MgAt D m' p'/\Sat E I (p'::ms) w' :=
 mvar_any (x:Int) (InvS.keeps hH hr) (λ_=>InvS.doOk (K:=1) (R:=ValR) (λm1 hI=>by
  have:=hI.ok.varR hx;rw[hI.hs] at this;exact this.mono (jBb _) λ_ _ _ h=>h.valR) (λ_ _ h=>h) (λ_ h=>h)) (InvS.of hs) hm hA hS
theorem fold_runs(hS1:∀φ ψ χ,S 1 φ ψ χ=G.iteF φ ψ χ){Φ:Int->Option G.Fn}{H:List (Int×Nat)}{r:Nat}(l:List Int)(φs:List G.Fn)(hl:l.map Φ=φs.map some)(m:G.Mg)(hI:InvS S n c Φ H r m):G.Runs S H.length (l.length*(2^n-1)) m (G.foldE G.andE l m 0) ValR:=by
 have:=G.foldE_ok (F:=G.andE) (f:=λa b ρ=>a ρ&&b ρ) (G.andE_ok hS1) l φs m 0 hI.ok (by rw[hI.fn];exact hl) (.inl rfl);rw[hI.hs] at this;exact this.mono (jBb _) λ_ _ _ h=>h.valR
theorem wand_any(hS1:∀φ ψ χ,S 1 φ ψ χ=G.iteF φ ψ χ)(hs:G.Snd S n c m)(hH:m.hs.length<1152921504606846976)(hr:m.s.pl.room<=900000){l:List Int}{φs:List G.Fn}(hl:l.map m.fn=φs.map some)(hlen:l.length<=1000000){vl:Value}(hvl:IntR I vl l)(hm:m.andM l=some (m',h,er))(hA:MgAt D m p)(hS:Sat E I (p::ms) w) :
  Calls Tryz.prog 28 #[vPt D,vl] w λe w'=>e=.returned (.tuple #[nv h,nv er])/\∃p',MgAt D m' p'/\Sat E I (p'::ms) w' :=
 dand_any (InvS.keeps hH hr) hlen (InvS.doOk (R:=ValR) (λm1 hI=>fold_runs hS1 l φs hl m1 hI) (λ_ _ h=>h) (λ_ h=>h))
  (λm1 hI i mi r he=>by
    have hli:(l.take i).map m.fn=(φs.take i).map some:=by rw[List.map_take,hl,List.map_take]
    obtain⟨h1,h2⟩:=InvS.step (λm2 hI=>fold_runs hS1 (l.take i) (φs.take i) hli m2 hI) m1 mi _ hI he
    have:=h1.ok.ok.val_lt h2.2;exact⟨h1,by omega⟩) hvl (InvS.of hs) hm hA hS
theorem InvS.acyc{Φ:Int->Option G.Fn}{H:List (Int×Nat)}{r:Nat}(hI:InvS S n c Φ H r m):∃rk,G.Acyc m.s.nd rk:=⟨_,hI.ok.ok.can.toAcyc⟩
theorem wrows_any(hs:G.Snd S n c m)(hH:m.hs.length<1152921504606846976)(hr:m.s.pl.room<=900000){l:List Int}(hlen:l.length<=1000000){vl:Value}(hvl:IntR I vl l){res:(G.RS×List Nat) ⊕ Nat}(hm:m.rowsM l=some (m',res))(hA:MgAt D m p)(hS:Sat E I (p::ms) w) :
  Calls Tryz.prog 16 #[vPt D,vl] w λe w'=>∃p' ns,RowsR (rowsOut res) e ns/\MgAt D m' p'/\Sat E I (p'::ns++ms) w' :=
 drows_any (InvS.keeps hH hr) (λm1 hI=>hI.acyc) hlen (λm1 hI i m2 q r he=>by
  obtain⟨rk,hac⟩:=hI.acyc;have h1:=(G.rowsE_keys hac _ _ _ _ _ _ (G.keys0 m1.s) he).bound;have h2:=hI.ok.ok.pl.len;have h3:=hI.room;omega) hvl (InvS.of hs) hm hA hS
end
section
variable{S:G.Sem} {n c r:Nat} {Φ:Int->Option G.Fn} {H:List (Int×Nat)}
theorem RowsOk.get{rows:List G.Rw3}:∀(k:Nat),G.RowsOk n rows k->∀(i:Nat) x,rows[i]?=some x->0<=x.v/\x.v<n/\0<=x.lo/\0<=x.hi/\x.lo.toNat/2<=k+i/\x.hi.toNat/2<=k+i:=by
 induction rows with
 | nil=>intro k h i x hx;cases hx
 | cons y l ih =>
   intro k h i x hx;obtain⟨⟨h1,h2,h3,h4,h5,h6⟩,h7⟩:=h;cases i with
   | zero=>cases hx;exact⟨h1,h2,h3,h5,by omega,by omega⟩
   | succ i =>
     obtain⟨a,b,c1,d,e,f⟩:=ih (k+1) h7 i x hx;exact⟨a,b,c1,d,by omega,by omega⟩
theorem RowsOk.takes{rows:List G.Rw3}:∀(k i:Nat),G.RowsOk n rows k->G.RowsOk n (rows.take i) k:=by
 induction rows with
 | nil=>intro k i h;rw[List.take_nil];exact h
 | cons y l ih =>
   intro k i h;cases i with
   | zero=>exact trivial
   | succ i=>exact⟨h.1,ih (k+1) i h.2⟩
theorem load_inv(hS1:∀φ ψ χ,S 1 φ ψ χ=G.iteF φ ψ χ){rows:List G.Rw3}(hr:G.RowsOk n rows 0):LoadOk (InvS S n c Φ H r) rows where
 pre:=λm1 hI i mi ns he=>by
  obtain⟨h1,h2⟩:=InvS.step (λm2 (hI:InvS S n c Φ H r m2)=>by
   have hN:G.Ns m2 [0] [λ_=>true]:=⟨rfl,by simp,λi hi=>by
    simp only[List.length_singleton] at hi;obtain rfl:i=0:=by omega
    exact⟨.inl rfl,funext λρ=>G.den_zero hI.ok.ok.can.g0 ρ⟩⟩
   have:=G.loadE_ok hS1 (rows.take i) m2 [0] [λ_=>true] hI.ok hN (RowsOk.takes _ _ hr);rw[hI.hs] at this;exact this) m1 mi _ hI he
  refine⟨h1,λx hx=>?_⟩;obtain⟨j,hj⟩:=kYa hx;have hlt:=(yE.1 hj).1;have hv:=((h2.2:G.Ns mi ns _).get j hlt).1;rw[yD,hj] at hv
  have:=h1.ok.ok.val_lt hv;simp only[zJ] at this;omega
 mkv:=λx hx m1 m2 y hI he=>by
  obtain⟨i,hi⟩:=kYa hx;obtain⟨h0,hn,_⟩:=RowsOk.get _ hr i x hi;obtain⟨v,hv⟩:=jYa h0;rw[hv] at he;obtain⟨h1,h2⟩:=InvS.step (R:=ValR) (K:=1) (λm2 (hI:InvS S n c Φ H r m2)=>by
   have:=hI.ok.varR (v:=v) (by omega);rw[hI.hs] at this;exact this.mono (jBb _) λ_ _ _ h=>h.valR) m1 m2 _ hI he
  have:=h1.ok.ok.val_lt h2.2;exact⟨h1.ok.ok.saneD,by omega⟩
 refs:=λi x hx=>by
  obtain⟨_,_,a,b,c1,d⟩:=RowsOk.get _ hr i x hx;exact⟨a,b,by omega,by omega⟩
theorem load_do(hS1:∀φ ψ χ,S 1 φ ψ χ=G.iteF φ ψ χ){rows:List G.Rw3}(hr:G.RowsOk n rows 0){root:Nat}(hroot:root/2<=rows.length):DoOk (InvS S n c Φ H r) (G.load1 rows root) :=
 InvS.doOk (R:=ValR) (λm1 hI=>by
  have:=G.load1_ok hS1 hI.ok hr hroot;rw[hI.hs] at this;exact this.mono (jBb _) λ_ _ _ h=>h.valR) (λ_ _ h=>h) (λ_ h=>h)
end
end
namespace G
variable{S:Sem} {n H:Nat}
theorem listM2_ok(hS1:∀φ ψ χ,S 1 φ ψ χ=iteF φ ψ χ){mx:Nat}:∀(ks:List Ex) (m:Mg) (acc:List Nat),(∀k∈ks,ExOk n k)->(∀k∈ks,k.sz<=mx)->Sd S n m->Fit n H m (mx+ks.length+3) (3*Ex.szs ks) ->
  ∃m' l,listM ks m acc=some (m',some (acc++l))/\Lst S n m m' ks l (3*Ex.szs ks-2*ks.length)
 | [],m,acc,_,_,hs,f=>by
   rw[listM];exact⟨m,[],by simp,⟨hs,rfl,rfl,.nil,by simp,jBb _,by omega,⟨[],rfl⟩,rfl,rfl,by simp,λ_ _=>rfl⟩⟩
 | e::ks,m,acc,hks,hmx,hs,f=>by
   have hmx0:=hmx e (.head _);rw[Ex.szs,yB] at f ⊢;rw[listM];have hsz:0<e.sz:=by cases e;rw[Ex.sz];omega
   have hge':=szs_ge ks;obtain⟨m1,g,r1,g1⟩:=buildM_ok hS1 e m (hks e (.head _)) hs (f.step (by omega) rfl ⟨[],rfl⟩ (by omega));simp only[r1];have hge:=g1.ge;have hc1:=g1.cost;have hl1:=g1.lt;have hlen1:=g1.len;obtain⟨m2,l,r2,g2⟩:=listM2_ok hS1 ks m1 (acc++[g]) (λk hk=>hks k (.tail _ hk)) (λk hk=>hmx k (.tail _ hk)) g1.ok (f.step (by omega) g1.room g1.waits (by omega));have hc2:=g2.cost;refine⟨m2,g::l,by rw[r2];simp,⟨g2.ok,by rw[g2.len,hlen1,yB];omega,by rw[yB,g2.lk,yB],?_,?_,by have:=g2.ge;omega,by omega,?_,g2.room.trans g1.room,g2.fresh.trans g1.fresh,?_,?_⟩⟩
   . refine jMa.2 ⟨λhm=>?_,g2.nd⟩
     have:=(g2.bd g hm).1;omega
   . intro h hh
     have:=g2.ge;rcases jBa.1 hh with rfl|hh
     . omega
     . have:=g2.bd h hh;omega
   . obtain⟨w1,e1⟩:=g1.waits
     obtain⟨w2,e2⟩:=g2.waits;exact⟨w1++w2,by rw[e1,e2,jE]⟩
   . intro i h hi
     cases i with
     | zero =>
       simp at hi
       subst hi;refine⟨e,rfl,?_⟩;rw[g2.fn _ λh' hh'=>by have:=(g2.bd h' hh').1;omega,g1.fn,jAb rfl]
     | succ i =>
       obtain⟨e',h1,h2⟩:=g2.vals i h (by simpa using hi);exact⟨e',by simpa using h1,h2⟩
   . intro k hk
     rw[g2.fn k λh' hh'=>hk h' (.tail _ hh'),g1.fn,jAa (hk g (.head _))]
theorem arrM_new{room:Nat}{order:List Int}(hn:n<=64)(h1:1<=room)(hr:room<=1048576)
  (ho:order=[]\/∃o:List Nat,order=o.map (λv=>((v:Nat):Int))/\o.length=n/\o.Nodup/\∀v∈o,v<n) :
  ∃m1,arrM order.length order 0 (Mg.new n room)=some (m1,true)/\Arr S n (Mg.new n room) m1/\m1.hs.length=2/\m1.next=2/\m1.s.pl.room=room/\m1.waits=[]/\m1.fresh=true/\∀k,m1.fn k=if k=0 then some (λ_=>false) else if k=1 then some (λ_=>true) else none:=by
 obtain⟨h0,hf⟩:=Snd.new (S:=S) hn h1 hr;have b0:Bare (Mg.new n room):=⟨λp hp=>by
  have hp:p∈[((0:Int),1),(1,0)]:=hp;simp only[jBa,jCa,jJb] at hp;rcases hp with rfl|rfl <;> rfl,rfl⟩
 obtain⟨m1,r1,a1⟩:∃m1,arrM order.length order 0 (Mg.new n room)=some (m1,true)/\Arr S n (Mg.new n room) m1:=by
  rcases ho with rfl|⟨o,rfl,ho1,ho2,ho3⟩
  . exact⟨_,rfl,⟨h0,Stay.refl _,b0⟩⟩
  . have:=arr_ok (S:=S) o ho1 ho2 ho3 o 0 (Mg.new n room) rfl (jC _) h0 b0 (by show 2<1000000;decide) (λj hj=>by omega)
    rw[jHb,ho1];exact this
 exact⟨m1,r1,a1,by rw[a1.stay.hs];rfl,by rw[a1.stay.next];rfl,by rw[a1.stay.room];rfl,by rw[a1.stay.waits];rfl,by rw[a1.stay.fresh];rfl,λk=>by rw[a1.stay.fn,hf]⟩
end G
end Go.Proofs.YtidamcdklgfogaaGreat
