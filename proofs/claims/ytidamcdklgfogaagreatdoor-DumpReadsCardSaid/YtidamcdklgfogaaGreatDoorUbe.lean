import Derived.Test.YtidamcdklgfogaaGreatDoorUbd
set_option linter.unusedVariables false
set_option linter.unusedSimpArgs false
set_option maxRecDepth 100000
set_option maxHeartbeats 8000000
namespace Go.Proofs.YtidamcdklgfogaaGreatDoor
namespace G
theorem foldE_cons (F:Mg->Nat->Nat->Step Nat) (h:Int) (l:List Int) (m:Mg) (r:Nat):foldE F (h::l) m r=((m.edge h).then fun m e=>F m r e).then fun m r=>foldE F l m r:=by
 rw [Step.then_assoc];rfl
theorem foldE_append (F:Mg->Nat->Nat->Step Nat):∀ (a b:List Int) (m:Mg) (r:Nat),foldE F (a ++ b) m r=(foldE F a m r).then fun m r=>foldE F b m r
 | [],b,m,r=>rfl
 | h::a,b,m,r=>by
   rw [List.cons_append,foldE_cons,foldE_cons];generalize ((m.edge h).then fun m e=>F m r e)=s;rw [Step.then_assoc];congr 1
   funext m k
   exact foldE_append F a b m k
end G
section
open Go.RowKit
structure TwoC (fid:Nat) (F:G.Mg->Nat->Nat->G.Step Nat):Prop where
 enter:∀ (args:Array Value) (w:World),(callFunc fid args).run Tryz.prog w=.ok (.enter fid args) w
 run:∀ (m m':G.Mg) (a b:Nat) (rs:G.Rs Nat) (E:World) (I p:PH) (ms:List PH) (w:World) (X D:Nat),F m a b=some (m',rs)->Sane m.s->a<4611686018427387904->b<4611686018427387904->I.at X 0=some (vPt D)->MgAt D m p->Sat E I (p::ms) w ->
  Calls Tryz.prog fid #[vPt X,nv a,nv b] w fun e w'=>e=endE nv rs/\∃ p',MgAt D m' p'/\Sat E I (p'::ms) w'
theorem and_two:TwoC 64 G.andE where
 enter:=fun args w=>by kernel_rfl
 run:=by
  intro m m' a b rs E I p ms w X D hF hs ha hb hX hA hS;have HI:=yH (xite_any X D G.fuel m m' a b 1 rs hF hs ha hb (by decide) E I p ms w hX hA hS);clear hF hs hA;cases rs with
  | ok r =>
    simp only [endE] at HI;go_enter Tryz.func64,Tryz.ntmps64;go_wp2_with (go_at_call 57;(with_reducible refine yI HI.out ?_);clear hS;rintro e w ⟨rfl,_,_,p1,hA1,hS⟩;have HA1:=yH hA1;clear hA1)
    go_ret;exact ⟨rfl,p1,HA1.out,hS⟩
  | stop st =>
    simp only [endE] at HI;go_enter Tryz.func64,Tryz.ntmps64;go_wp2_with (go_at_call 57;(with_reducible refine yI HI.out ?_);clear hS;rintro e w ⟨rfl,_,_,p1,hA1,hS⟩;have HA1:=yH hA1;clear hA1)
    refine ⟨rfl,?_⟩;exact And.intro rfl ⟨p1,HA1.out,hS⟩
def FoldOk (Inv:G.Mg->Prop) (F:G.Mg->Nat->Nat->G.Step Nat) (l:List Int) (r0:Nat):Prop:=∀ m,Inv m->∀ i mi r,G.foldE F (l.take i) m r0=some (mi,.ok r)->Inv mi/\r<4611686018427387904
theorem fold1_op {D X1 X2 X3 fid r0:Nat} {F:G.Mg->Nat->Nat->G.Step Nat} {J:PH} {Inv:G.Mg->Prop} (hK:KeepsM Inv) (hC:TwoC fid F) {l:List Int} {vl:Value} (hl:l.length<=1000000) (h1:J.at X1 0=some (nv r0)) (h2:J.at X2 0=some vl) (hvl:IntR J vl l) (h3:J.at X3 0=some (.func (.func fid) #[] #[])) (hP:FoldOk Inv F l r0) :
  OpP 112 #[vPt X1,vPt X2,vPt X3] D J Inv (fun m=>G.foldE F l m r0) where
 enter:=fun args w=>by kernel_rfl
 run:=by
  intro E I p q0 ms w m m' rs X hJ1 hI hF hX hA hq hS;subst hq;have hent:=hC.enter;have i1:I.at X1 0=some (nv r0):=PH.at_le hJ1 h1;have i2:I.at X2 0=some vl:=PH.at_le hJ1 h2;have i3:I.at X3 0=some (.func (.func fid) #[] #[]):=PH.at_le hJ1 h3;obtain ⟨A,c,rfl,hcells⟩:=(hvl.le hJ1).shape2;have HC:=yH hcells;have HA:=yH hA;have HF:=yH hF;have HI:=yH hI;have HCr:=yH hC.run;have HKm:=yH hK;have HP:=yH hP;clear hJ1 h1 h2 h3 hvl hcells hA hF hI hC hK hP;generalize hN:l.length=N at *
  have HN0:=yH hN;clear hN;show Calls _ _ #[vPt X,vPt X1,vPt X2,vPt X3] _ _
  go_enter Tryz.func112,Tryz.ntmps112;go_wp2_with (first|(refine aL ?_))
  go_loopw [6,12] (fun v6 v12 wr=>∃ (i:Nat) (mi:G.Mg) (r:Nat) (p:PH),i<=N/\v12=.int .i64 (i:Int)/\v6=nv r/\G.foldE F (l.take i) m r0=some (mi,.ok r)/\MgAt D mi p/\Sat E I (p::Zo::ms) wr) (fun v6 v12 _=>(N - intOf v12).toNat)
  case atStart=>exact ⟨0,m,r0,p,jCa _,rfl,rfl,rfl,HA.out,hS⟩
  case round =>
   clear hS HA;obtain ⟨i,mi,r,p,hi,rfl,rfl,hpre,hA,hS⟩:=hrel;obtain ⟨hIi,hr⟩:=HP.out _ HI.out _ _ _ hpre;have hf:=HF.out;by_cases hlt:i<N
   . obtain ⟨k,hk⟩:∃ k,l[i]?=some k:=⟨_,yA (by rw [HN0.out];exact hlt)⟩
     obtain ⟨Y,hY,hcell⟩:=HC.out (by omega);subst hY;have hcell:=hcell i k hk;have iN:(i:Int)<(N:Int):=by omega
     have htk:l.take (i+1)=l.take i ++ [k]:=by rw [jP,hk];rfl
     have hsplit:l=l.take i ++ k::l.drop (i+1):=by
      have e2:l.drop i=k::l.drop (i+1):=by
       rw [jHa (by rw [HN0.out];exact hlt)];congr 1
       have:=yA (l:=l) (i:=i) (by rw [HN0.out];exact hlt);rw [hk] at this;injection this with this
       exact this.symm
      rw [<- e2,jX]
     rw [hsplit,G.foldE_append,hpre] at hf;simp only [G.Step.then_ok2] at hf;rw [G.foldE_cons] at hf;have hpre':∀ e m2 r2,mi.of k=some e->F mi r e=some (m2,.ok r2)->G.foldE F (l.take (i+1)) m r0=some (m2,.ok r2):=fun e m2 r2 h1 h2=>by
      rw [htk,G.foldE_append,hpre];simp only [G.Step.then_ok2];rw [G.foldE_cons];unfold G.Mg.edge;rw [h1];simp only [G.Step.then_ok2];rw [h2];rfl
     unfold G.Mg.edge at hf;have HA:=yH hA;clear hsplit htk hk HC;cases hok:mi.of k with
     | none =>
       have e:m'=mi/\rs=.stop (.err 8):=by rw [hok] at hf;cases hf;exact ⟨rfl,rfl⟩
       obtain ⟨rfl,rfl⟩:=e;have HE:=yH (fun (w:World) (hX:(Qa w).at X 0=some (vPt D)) (hM:MgR (Qa w) D m')=>xedge_no hX hM k hok);clear hf hpre hpre' hok hA hIi HF HP HKm HI HCr;go_wp2_with (first|(refine aL ?_))
       refine Kt (fun c w'=>c=stopE (.err 8)/\Sat E I (p::Zo::ms) w') [[],[],[],[],[],[3,4],[0,1,2,3,4,5],[0,1,2,3,4,5,6]] E I _
        [fun v _=>v=.func (.func fid) #[] #[],fun v _=>v=vPt X,fun v _=>v=nv r,fun v _=>v=vPt X,fun v _=>v=.int .i64 k,fun _ _=>False,fun _ _=>True,fun _ _=>True] []
        (fun _ _ _ bs=>bs=p::Zo::ms) (by kernel_rfl) (by kernel_rfl) (by decide) hS rfl ?last (fun _ _ _ _ _ _ h=>h) (fun _ _ _ _ _ _ h=>h) ?plain ?step ?hZ ?fin
       case last=>exact bL
       case plain =>
        clear hS;refine ⟨⟨⟨⟨⟨⟨⟨⟨trivial,?q0⟩,?q1⟩,?q2⟩,?q3⟩,?q4⟩,?q5⟩,?q6⟩,?q7⟩
        case q5=>refine .inr ?_;intro s vals J bs w hstop hg hJ hS hG;have hG:bs=_:=hG;subst hG;refine bZ ?_;intro K HK;go_wp2_with (go_at_call 49;with_reducible refine bC (HE.out _ (PH.at_le hS.ile (PH.at_le hJ hX)) (HA.out.read.le (hS.mle (k:=0) rfl))) ?_);exact And.intro rfl (hS.less hJ)
        all_goals first|(refine .inr ?_;intro s vals J bs w hstop hg hJ hS hG;exfalso;simp only [zH,zI,Given,Facts,and_false,false_and] at hg;done)|(refine .inr ?_;intro s vals J bs w hstop hg hJ hS hG;clear hG;simp only [zH,zI,Given,Facts] at hg;simp only [Qb,Qe,Qd,Qf,zH,zI,zA,zB,zK,jC,Act.put,zE,zF,zG];refine ⟨?_⟩;refine Qo (fun K hK=>?_);have HK:=yH hK;clear hK;rw [jAa (by rfl)];(first|(refine bJ ?_)|(go_wp2_with (fail)));exact bO)
       case step=>trivial
       case hZ =>
        rintro c b w' hd ⟨rfl,hS'⟩;exact ⟨hd,rfl,p,Zo,HA.out,rfl,hS'⟩
       case fin =>
        intro vals J9 bs w hJ hg hS hG;exact False.elim (by simp only [yB,yC,Nat.reduceAdd,Below_,Facts,zH,zI,jGb,jMb] at hg;simp at hg)
     | some f =>
       have HE:=yH (fun (w:World) (hX:(Qa w).at X 0=some (vPt D)) (hM:MgR (Qa w) D mi)=>xedge_ok hX hM k hok);rw [hok] at hf;simp only [G.Step.then_ok2] at hf;cases hm2:F mi r f with
       | none=>rw [hm2] at hf;cases hf
       | some z =>
         obtain ⟨m2,r2⟩:=z;have HFn:=yH (fun (J p:PH) (ns:List PH) (w:World) (hX:J.at X 0=some (vPt D)) (hA:MgAt D mi p) (hS:Sat E J (p::ns) w)=>HCr.out mi m2 r f r2 E J p ns w X D hm2 (HKm.out.sane _ hIi) hr (HKm.out.ofl _ _ _ hIi hok) hX hA hS);rw [hm2] at hf;cases r2 with
         | stop st =>
           have e:m'=m2/\rs=.stop st:=by cases hf;exact ⟨rfl,rfl⟩
           obtain ⟨rfl,rfl⟩:=e;simp only [endE] at HFn;clear hf hpre hpre' hok hm2 hA hIi HF HP HKm HI HCr;go_wp2_with (first|(refine aL ?_))
           refine Kt (fun c w'=>c=stopE st/\∃ p2,MgAt D m' p2/\Sat E I (p2::Zo::ms) w') [[],[],[],[],[],[3,4],[0,1,2,3,4,5],[0,1,2,3,4,5,6]] E I _
            [fun v _=>v=.func (.func fid) #[] #[],fun v _=>v=vPt X,fun v _=>v=nv r,fun v _=>v=vPt X,fun v _=>v=.int .i64 k,fun v _=>v=nv f,fun _ _=>False,fun _ _=>True] []
            (fun _ _ _ bs=>bs=p::Zo::ms) (by kernel_rfl) (by kernel_rfl) (by decide) hS rfl ?last (fun _ _ _ _ _ _ h=>h) (fun _ _ _ _ _ _ h=>h) ?plain ?step ?hZ ?fin
           case last=>exact bL
           case plain =>
            clear hS;refine ⟨⟨⟨⟨⟨⟨⟨⟨trivial,?t0⟩,?t1⟩,?t2⟩,?t3⟩,?t4⟩,?t5⟩,?t6⟩,?t7⟩
            case t5=>refine .inr ?_;intro s vals J bs w hstop hg hJ hS hG;have hG:bs=_:=hG;subst hG;refine bZ ?_;intro K HK;go_wp2_with (go_at_call 49;with_reducible refine bC (HE.out _ (PH.at_le hS.ile (PH.at_le hJ hX)) (HA.out.read.le (hS.mle (k:=0) rfl))) ?_);exact HK.out _ _ ⟨rfl,J,PH.le.refl _,hS,rfl⟩
            case t6=>refine .inr ?_;intro s vals J bs w hstop hg hJ hS hG;have hG:bs=_:=hG;subst hG;refine bZ ?_;intro K HK;go_wp2_with (first|((with_reducible refine yI (HFn.out _ _ _ _ (PH.at_le hJ hX) HA.out hS) ?_);clear hS;rintro e w ⟨rfl,p2,hA2,hS⟩;have HA2:=yH hA2;clear hA2));exact And.intro rfl ⟨p2,HA2.out,hS.less hJ⟩
            all_goals first|(refine .inr ?_;intro s vals J bs w hstop hg hJ hS hG;exfalso;simp only [zH,zI,Given,Facts,and_false,false_and] at hg;done)|(refine .inr ?_;intro s vals J bs w hstop hg hJ hS hG;clear hG;simp only [zH,zI,Given,Facts] at hg;simp only [Qb,Qe,Qd,Qf,zH,zI,zA,zB,zK,jC,Act.put,zE,zF,zG];refine ⟨?_⟩;refine Qo (fun K hK=>?_);have HK:=yH hK;clear hK;rw [jAa (by rfl)];(first|(refine bJ ?_)|(go_wp2_with (fail)));exact bO)
           case step=>trivial
           case hZ =>
            rintro c b w' hd ⟨rfl,p2,hA2,hS'⟩;exact ⟨hd,rfl,p2,Zo,hA2,rfl,hS'⟩
           case fin =>
            intro vals J9 bs w hJ hg hS hG;exact False.elim (by simp only [yB,yC,Nat.reduceAdd,Below_,Facts,zH,zI,jGb,jMb] at hg;simp at hg)
         | ok r2 =>
           have HPre:=yH (hpre' _ _ _ hok hm2);simp only [endE] at HFn;clear hf hpre hpre' hok hm2 hA hIi;go_wp2_with (first|(refine aL ?_))
           refine Kt (fun c w'=>False) [[],[],[],[],[],[3,4],[0,1,2,3,4,5],[0,1,2,3,4,5,6]] E I _
            [fun v _=>v=.func (.func fid) #[] #[],fun v _=>v=vPt X,fun v _=>v=nv r,fun v _=>v=vPt X,fun v _=>v=.int .i64 k,fun v _=>v=nv f,fun v _=>v=nv r2,fun v _=>v=nv r2] [6]
            (set1G (p::Zo::ms) 0 (fun p'=>MgAt D m2 p')) (by kernel_rfl) (by kernel_rfl) (by decide) hS rfl ?last (fun _ _ _ _ _ _ h=>h) (fun _ _ _ _ _ _ h=>h) ?plain ?step ?hZ ?fin
           case last=>exact bL
           case hZ=>exact fun _ _ _ _ h=>h.elim
           case plain =>
            clear hS;refine ⟨⟨⟨⟨⟨⟨⟨⟨trivial,?r0⟩,?r1⟩,?r2⟩,?r3⟩,?r4⟩,?r5⟩,.inl rfl⟩,?r7⟩
            case r5=>refine .inr ?_;intro s vals J bs w hstop hg hJ hS hG;have h0:s<=0:=hstop;obtain rfl:s=0:=kUa.1 h0;have hG:bs=_:=hG;subst hG;refine bZ ?_;intro K HK;go_wp2_with (go_at_call 49;with_reducible refine bC (HE.out _ (PH.at_le hS.ile (PH.at_le hJ hX)) (HA.out.read.le (hS.mle (k:=0) rfl))) ?_);exact HK.out _ _ ⟨rfl,J,PH.le.refl _,hS,rfl⟩
            all_goals (refine .inr ?_;intro s vals J bs w hstop hg hJ hS hG;clear hG;refine bZ ?_;intro K HK;(first|(refine bJ ?_)|(go_wp2_with (fail)));exact bO)
           case step =>
            refine ⟨trivial,?_⟩;clear hS;intro vals J bs w hg hJ hS hG;have hG:bs=_:=hG;subst hG;refine bZ ?_;intro K HK;go_wp2_with (first|((with_reducible refine yI (HFn.out _ _ _ _ (PH.at_le hJ hX) HA.out hS) ?_);clear hS;rintro e w ⟨rfl,p2,hA2,hS⟩;have HA2:=yH hA2;clear hA2))
            exact HK.out _ _ ⟨rfl,J,_,PH.le.refl _,hS,rfl,p2,HA2.out,rfl⟩
           case fin =>
            intro vals J9 bs w hJ hg hS hG;obtain ⟨p2,hA2,hns⟩:=hG;subst hns;have hS:=hS.less hJ;simp only [zG] at hS;have HA2:=yH hA2;clear hJ hA2 HFn HE;simp only [yB,yC,Nat.reduceAdd,Below_,Facts,zH,zI,jGb] at hg;simp only [yB,yC,Nat.reduceAdd,Qb,Qe,Qd,zA,zB,zK,jC,Act.put,zE,zF,zG,hg];refine ⟨?_⟩;clear hg;go_wp2_with (fail)
            exact ⟨⟨i+1,m2,r2,p2,by omega,by go_num,rfl,HPre.out,HA2.out,hS⟩,by simp [intOf];omega⟩
   . obtain rfl:i=N:=by omega
     have e:l.take i=l:=jFa (by rw [HN0.out];exact jBb _);rw [e,hf] at hpre;have e:m'=mi/\rs=.ok r:=by cases hpre;exact ⟨rfl,rfl⟩
     obtain ⟨rfl,rfl⟩:=e;have HA:=yH hA;clear hf hpre hIi HF HP HKm HI HC hA HCr;go_wp2_with fail
     go_ret;exact ⟨rfl,p,Zo,HA.out,rfl,hS⟩
end
section
open Go.RowKit
theorem dfold_any {fid r0 D:Nat} {F:G.Mg->Nat->Nat->G.Step Nat} {Inv:G.Mg->Prop} (hC:TwoC fid F) (hK:KeepsM Inv) {l:List Int} (hl:l.length<=1000000) (hD:DoOk Inv (fun m=>G.foldE F l m r0)) (hP:FoldOk Inv F l r0)
  {E w:World} {I p:PH} {ms:List PH} {m m':G.Mg} {h er:Nat} {vl:Value} (hvl:IntR I vl l) (hI:Inv m) (hm:m.do_ (fun m=>G.foldE F l m r0)=some (m',h,er)) (hA:MgAt D m p) (hS:Sat E I (p::ms) w) :
  Calls Tryz.prog 63 #[vPt D,nv r0,.func (.func fid) #[] #[],vl] w fun e w'=>e=.returned (.tuple #[nv h,nv er])/\∃ p',MgAt D m' p'/\Sat E I (p'::ms) w':=by
 have hmf:∀ (fn:Fn) (first cap:Array Value) (w:World),(Instr.makeFunc fn first cap).run Tryz.prog w=.ok (.func fn first cap) w:=fun _ _ _ _=>rfl
 obtain ⟨A,c,e,_⟩:=hvl.shape2;have HD:=yH (fun (w:World) (X5 X6 X7:Nat) (hS:Sat E I (PH.one X7 (.cells #[vl] 24)::PH.one X6 (.cells #[.func (.func fid) #[] #[]] 183)::PH.one X5 (.cells #[nv r0] 96)::p::ms) w)=>mdo_pureI (bs:=[PH.one X7 (.cells #[vl] 24),PH.one X6 (.cells #[.func (.func fid) #[] #[]] 183),PH.one X5 (.cells #[nv r0] 96)]) (fid:=112) (cs := #[vPt X5,vPt X7,vPt X6]) (fun J l1 l2=>fold1_op hK hC hl (PH.at_le (l2 _ (.tail _ (.tail _ (.head _)))) (Qc rfl)) (PH.at_le (l2 _ (.head _)) (Qc rfl)) (hvl.le l1) (PH.at_le (l2 _ (.tail _ (.head _))) (Qc rfl)) hP) hK hD hI hm hA hS);clear hC hK hD hP hI hm hA hvl;subst e;go_enter Tryz.func63,Tryz.ntmps63;go_wp2_with (first|(go_at_call 53;(with_reducible refine yI (HD.out _ _ _ _ hS) ?_);clear hS;rintro e w ⟨rfl,p1,hA1,hS⟩;have HA1:=yH hA1;clear hA1)|(refine aN 5 ?_;clear hS;intro X5 w hS)|(refine aN 6 ?_;clear hS;intro X6 w hS)|(refine aN 7 ?_;clear hS;intro X7 w hS))
 go_ret2;exact ⟨rfl,p1,HA1.out,Sat.drop (Sat.drop (Sat.drop hS))⟩
theorem dand_any {D:Nat} {Inv:G.Mg->Prop} (hK:KeepsM Inv) {l:List Int} (hl:l.length<=1000000) (hD:DoOk Inv (fun m=>G.foldE G.andE l m 0)) (hP:FoldOk Inv G.andE l 0)
  {E w:World} {I p:PH} {ms:List PH} {m m':G.Mg} {h er:Nat} {vl:Value} (hvl:IntR I vl l) (hI:Inv m) (hm:m.andM l=some (m',h,er)) (hA:MgAt D m p) (hS:Sat E I (p::ms) w) :
  Calls Tryz.prog 19 #[vPt D,vl] w fun e w'=>e=.returned (.tuple #[nv h,nv er])/\∃ p',MgAt D m' p'/\Sat E I (p'::ms) w':=by
 have HD:=yH (dfold_any and_two hK hl hD hP hvl hI hm hA hS);obtain ⟨A,c,rfl,_⟩:=hvl.shape2;clear hK hD hP hI hm hA hvl;go_enter Tryz.func19,Tryz.ntmps19;go_wp2_with (first|(go_at_call 63;(with_reducible refine yI HD.out ?_);clear hS;rintro e w ⟨rfl,p1,hA1,hS⟩;have HA1:=yH hA1;clear hA1))
 go_ret2;exact ⟨rfl,p1,HA1.out,hS⟩
end
namespace G
end G
namespace G
variable {S:Sem} {n c:Nat} {m:Mg}
def edgeF (fs:List Fn) (e:Nat):Fn:=fun ρ=>(e % 2 == 1) ^^ fs.getD (e / 2) (fun _=>true) ρ
def rowFs:List Rw3->List Fn->List Fn
 | [],fs=>fs
 | r::l,fs=>rowFs l (fs ++ [fun ρ=>if ρ r.v.toNat then edgeF fs r.hi.toNat ρ else edgeF fs r.lo.toNat ρ])
def RowsOk (n:Nat):List Rw3->Nat->Prop
 | [],_=>True
 | r::l,i=>(0<=r.v/\r.v<n/\0<=r.lo/\r.lo.toNat / 2<=i/\0<=r.hi/\r.hi.toNat / 2<=i)/\RowsOk n l (i+1)
structure Ns (m:Mg) (ns:List Nat) (fs:List Fn):Prop where
 len:ns.length=fs.length
 pos:0<ns.length
 get:∀ i,i<ns.length->val m.s.nd (ns.getD i 0)/\den m.s.nd (ns.getD i 0)=fs.getD i (fun _=>true)
theorem Ns.edge {ns:List Nat} {fs:List Fn} (h:Ns m ns fs) {e:Nat} (he:e / 2<ns.length):val m.s.nd (flipIf (ns.getD (e / 2) 0) (e % 2 == 1))/\den m.s.nd (flipIf (ns.getD (e / 2) 0) (e % 2 == 1))=edgeF fs e:=by
 obtain ⟨h1,h2⟩:=h.get _ he;refine ⟨val_flipIf.2 h1,funext fun ρ=>?_⟩;rw [Ki,h2];rfl
theorem Ns.grew {B K:Nat} {m':Mg} {ns:List Nat} {fs:List Fn} (h:Ns m ns fs) (g:Grew S B K m m'):Ns m' ns fs :=
 ⟨h.len,h.pos,fun i hi=>by obtain ⟨h1,h2⟩:=h.get i hi;exact ⟨g.gro.val h1,by rw [g.gro.dens _ h1,h2]⟩⟩
theorem Ns.push {ns:List Nat} {fs:List Fn} (h:Ns m ns fs) {k:Nat} {φ:Fn} (h1:val m.s.nd k) (h2:den m.s.nd k=φ):Ns m (ns ++ [k]) (fs ++ [φ]):=by
 have hl:=h.len;refine ⟨by simp [hl],by simp,fun i hi=>?_⟩;simp only [yG,List.length_singleton] at hi;by_cases e:i<ns.length
 . obtain ⟨h3,h4⟩:=h.get i e
   rw [yD,jPb e,<- yD];rw [yD (l:=fs ++ [φ]),jPb (by omega),<- yD];exact ⟨h3,h4⟩
 . have e:i=ns.length:=by omega
   subst e;rw [yD,jXb (jBb _)];rw [yD (l:=fs ++ [φ]),jXb (by omega),hl];simp
   exact ⟨h1,h2⟩
def NsR (fs:List Fn) (m:Mg):List Nat ⊕ Nat->Prop
 | .inl ns=>Ns m ns fs
 | .inr _=>False
theorem loadE_ok (hS1:∀ φ ψ χ,S 1 φ ψ χ=iteF φ ψ χ):∀ (l:List Rw3) (m:Mg) (ns:List Nat) (fs:List Fn),Snd S n c m->Ns m ns fs->RowsOk n l (ns.length - 1)->Runs S m.hs.length (l.length * (1+(2 ^ n - 1+0))) m (loadE l m ns) (NsR (rowFs l fs))
 | [],m,ns,fs,h,hN,_=>by
   rw [yC,qAa];exact Runs.pure h.ok h.me hN
 | r::l,m,ns,fs,h,hN,⟨⟨v0,vn,l0,l1,h0,h1⟩,hl⟩=>by
   have hpos:=hN.pos;obtain ⟨v,hv⟩:∃ v:Nat,r.v=(v:Int):=⟨r.v.toNat,by omega⟩;unfold loadE;rw [hv];have e1:(r::l).length * (1+(2 ^ n - 1+0))=1+((2 ^ n - 1)+l.length * (1+(2 ^ n - 1+0))):=by rw [yB,kIb];omega
   rw [e1];refine (h.varR (v:=v) (by omega)).then (fun _ _ _ hb=>hb.elim) fun m1 x g1 w1 r1=>?_
   have s1:=h.ofGrew g1 w1;have N1:=hN.grew g1;obtain ⟨vx,dx⟩:=r1;obtain ⟨a1,a2⟩:=N1.edge (e:=r.hi.toNat) (by omega);obtain ⟨b1,b2⟩:=N1.edge (e:=r.lo.toNat) (by omega);have hi:=s1.iteR hS1 vx a1 b1;rw [dx,a2,b2,g1.hs] at hi;refine hi.then (fun _ _ _ hb=>hb.elim) fun m2 k g2 w2 r2=>?_
   rw [<- g1.hs] at g2;have s2:=s1.ofGrew g2 w2;have N2:=(N1.grew g2).push r2.1 r2.2
   have:=loadE_ok hS1 l m2 (ns ++ [k]) _ s2 N2 (by rw [yG,List.length_singleton,Nat.add_sub_cancel];rw [show ns.length - 1+1=ns.length by omega] at hl;exact hl);rw [g2.hs,g1.hs] at this;refine this.mono (jBb _) fun m' y _ hy=>?_
   have e2:rowFs (r::l) fs=rowFs l (fs ++ [iteF (fun ρ=>ρ v) (edgeF fs r.hi.toNat) (edgeF fs r.lo.toNat)]):=by
    conv=>lhs;unfold rowFs
    rw [hv];rfl
   rw [e2];exact hy
theorem load1_ok (hS1:∀ φ ψ χ,S 1 φ ψ χ=iteF φ ψ χ) (h:Snd S n c m) {rows:List Rw3} {root:Nat} (hr:RowsOk n rows 0) (hroot:root / 2<=rows.length) :
  Runs S m.hs.length (rows.length * (1+(2 ^ n - 1+0))) m (load1 rows root m) (Isf (edgeF (rowFs (rows.take (root / 2)) [fun _=>true]) root)):=by
 have hN:Ns m [0] [fun _=>true]:=⟨rfl,by simp,fun i hi=>by
  simp at hi
  subst hi;exact ⟨.inl rfl,funext fun ρ=>den_zero h.ok.can.g0 ρ⟩⟩
 have hlen:(rows.take (root / 2)).length=root / 2:=by rw [jUa];omega
 have htake:∀ (l:List Rw3) (k i:Nat),RowsOk n l i->RowsOk n (l.take k) i:=by
  intro l
  induction l with
  | nil=>intro k i h;simpa using h
  | cons r l ih =>
    intro k i h;cases k with
    | zero=>exact trivial
    | succ k=>exact ⟨h.1,ih k _ h.2⟩
 have flen:∀ (l:List Rw3) (fs:List Fn),(rowFs l fs).length=fs.length+l.length:=by
  intro l
  induction l with
  | nil=>intro fs;rfl
  | cons r l ih=>intro fs;unfold rowFs;rw [ih];simp;omega
 have:=loadE_ok hS1 (rows.take (root / 2)) m [0] [fun _=>true] h hN (htake _ _ _ hr);unfold load1;refine (this.then (L:=0) (fun _ _ _ hb=>hb.elim) fun m1 ns g1 w1 r1=>?_).mono ?_ fun _ _ _ h=>h
 . have hl:=r1.len
   rw [flen,hlen] at hl;exact Runs.pure g1.ok g1.me (r1.edge (by rw [hl];simp))
 . rw [Nat.add_zero,hlen]
   exact jU _ hroot
end G
namespace G
variable {B:Nat} {s:St}
theorem RowsOk.append {n:Nat}:∀ {l l':List Rw3} {i:Nat},RowsOk n l i->RowsOk n l' (i+l.length)->RowsOk n (l ++ l') i
 | [],_,_,_,h=>h
 | r::l,l',i,h,h'=>⟨h.1,RowsOk.append h.2 (by rw [show i+1+l.length=i+(r::l).length by simp;omega];exact h')⟩
end G
namespace G
variable {S:Sem} {n c:Nat} {m:Mg}
theorem foldE_ok {F:Mg->Nat->Nat->Step Nat} {f:Fn->Fn->Fn} {K:Nat} (hF:∀ m a b,Snd S n c m->val m.s.nd a->val m.s.nd b->Runs S m.hs.length K m (F m a b) (Isf (f (den m.s.nd a) (den m.s.nd b)))) :
  ∀ (l:List Int) (φs:List Fn) (m:Mg) (r:Nat),Snd S n c m->l.map m.fn=φs.map some->val m.s.nd r->Runs S m.hs.length (l.length * K) m (foldE F l m r) (Isf (φs.foldl f (den m.s.nd r)))
 | [],φs,m,r,h,hl,hr=>by
   have:φs=[]:=by cases φs;rfl;cases hl
   subst this;rw [yC,qAa];exact Runs.pure h.ok h.me ⟨hr,rfl⟩
 | k::l,φs,m,r,h,hl,hr=>by
   cases φs with
   | nil=>cases hl
   | cons φ φs =>
     simp only [jD,kHb] at hl;unfold foldE;refine Runs.mono ((h.edgeR hl.1).then (L:=K+l.length * K) (fun _ _ _ hb=>hb.elim) fun m1 e g1 w1 r1=>?_) (by rw [yB,kIb];omega) fun _ _ _ h=>h
     have h1:=h.ofGrew g1 w1;have f1:=(h.grew g1 (fun e he=>by rw [w1] at he;exact he)).2;have hF1:=hF m1 r e h1 (g1.gro.val hr) r1.1;rw [g1.hs,r1.2,g1.gro.dens _ hr] at hF1;refine hF1.then (fun _ _ _ hb=>hb.elim) fun m2 r' g2 w2 r2=>?_
     rw [<- g1.hs] at g2;have h2:=h1.ofGrew g2 w2;have f2:=(h1.grew g2 (fun e he=>by rw [w2] at he;exact he)).2
     have:=foldE_ok hF l φs m2 r' h2 (by rw [f2,f1];exact hl.2) r2.1;rw [g2.hs,g1.hs,r2.2] at this;exact this
theorem andE_ok (hS1:∀ φ ψ χ,S 1 φ ψ χ=iteF φ ψ χ) (m:Mg) (a b:Nat) (h:Snd S n c m) (ha:val m.s.nd a) (hb:val m.s.nd b):Runs S m.hs.length (2 ^ n - 1) m (andE m a b) (Isf (fun ρ=>den m.s.nd a ρ && den m.s.nd b ρ)):=by
 refine (h.iteR hS1 ha hb (.inl rfl:val m.s.nd 1)).mono (jBb _) fun m' y _ hy=>?_
 cases y with
 | inr e=>exact hy
 | inl r =>
   refine ⟨hy.1,hy.2.trans (funext fun ρ=>?_)⟩;unfold iteF;rw [den_one h.ok.can.g0];cases den m.s.nd a ρ <;> simp
end G
namespace G
structure Keys (s:St) (q:RS):Prop where
 nd:(q.at_.map (·.1)).Nodup
 len:q.at_.length=q.rows.length+1
 mem:∀ k ∈ q.at_.map (·.1),k=0\/(s.nd k).isSome=true
 zero:(q.get 0).isSome=true
theorem keys0 (s:St):Keys s rs0:=⟨by simp [rs0],rfl,fun k h=>by simp [rs0] at h;exact .inl h,rfl⟩
theorem RS.get_none {q:RS} {i:Nat} (h:q.get i=none):i ∉ q.at_.map (·.1):=fun hm=>by
 unfold RS.get at h;rw [Option.map_eq_none_iff,kN] at h;obtain ⟨p,hp,rfl⟩:=jF.1 hm;exact h p hp (by simp)
theorem down_count {s:St} {rk:Nat->Nat} (hac:Acyc s.nd rk):∀ (k:Nat) (q q':RS) (f e:Nat),Keys s q->downR k s q f=some (q',e)->Keys s q'
 | 0,q,q',f,e,_,h=>by cases h
 | k+1,q,q',f,e,hK,h=>by
   have h':=h;rw [down_succ] at h;cases hg:q.get (f / 2) with
   | some n=>rw [hg] at h;cases h;exact hK
   | none =>
     rw [hg] at h;simp only at h;have hpf:flipIf f (f % 2 == 1) / 2=f / 2:=Ka _ _;have hpe:flipIf f (f % 2 == 1) % 2=0:=flipIf_self_even f;have hfr:=fun q1 q2 e1 e2=>down_fresh (k:=k) (q1:=q1) (q2:=q2) (e1:=e1) (e2:=e2) hac hK.zero hg
     cases hn:s.nd (f / 2) with
     | none =>
       have hn':s.nd (flipIf f (f % 2 == 1) / 2)=none:=by rw [hpf];exact hn
       simp only [topE_none hn'] at h;rw [down_stuck hn' hpe k q (by rw [hpf];exact hg)] at h;cases h
     | some n =>
       generalize (s.splitI (flipIf f (f % 2 == 1)) (s.topE [flipIf f (f % 2 == 1)]).1).1=lo at *
       generalize (s.splitI (flipIf f (f % 2 == 1)) (s.topE [flipIf f (f % 2 == 1)]).1).2=hi at *
       cases hd1:downR k s q lo with
       | none=>rw [hd1] at h;cases h
       | some x =>
         obtain ⟨q1,e1⟩:=x;rw [hd1] at h;simp only [Option.bind_some] at h;have K1:=down_count hac k q q1 lo e1 hK hd1;cases hd2:downR k s q1 hi with
         | none=>rw [hd2] at h;cases h
         | some x =>
           obtain ⟨q2,e2⟩:=x;rw [hd2] at h;simp only [Option.bind_some] at h;have K2:=down_count hac k q1 q2 hi e2 K1 hd2;have hf2:=hfr q1 q2 e1 e2 hd1 hd2;cases h;refine ⟨?_,by simp [K2.len],fun x hx=>?_,?_⟩
           . simp only [jH,jD,jTb]
             rw [jZa];exact ⟨K2.nd,by simp,fun a ha b hb=>by
              simp only [jBa,jCb,jKb] at hb;subst hb;intro e0;subst e0;exact RS.get_none hf2 ha⟩
           . simp only [jH,jD,jTb,jIa,jBa,jCb,jKb] at hx
             rcases hx with hx|rfl
             . exact K2.mem x hx
             . exact .inr (by rw [hn];rfl)
           . rw [RS.get_push]
             obtain ⟨z,hz⟩:=yF.1 K2.zero;rw [hz];rfl
theorem rowsE_keys {m:Mg} {rk:Nat->Nat} (hac:Acyc m.s.nd rk):∀ (l:List Int) (m':Mg) (q q':RS) (r r':List Nat),Keys m.s q->rowsE l m q r=some (m',.ok (q',r'))->Keys m.s q'
 | [],m',q,q',r,r',hK,h=>by cases h;exact hK
 | k::l,m',q,q',r,r',hK,h=>by
   unfold rowsE Mg.edge at h;cases hk:m.of k with
   | none=>rw [hk] at h;cases h
   | some f =>
     rw [hk] at h;simp only [Step.then] at h;cases hd:downR fuel m.s q f with
     | none=>rw [hd] at h;cases h
     | some x =>
       rw [hd] at h;exact rowsE_keys hac l m' _ q' _ r' (down_count hac _ _ _ _ _ hK hd) h
theorem nodup_lt:∀ (n:Nat) (l:List Nat),l.Nodup->(∀ x ∈ l,x<n)->l.length<=n
 | 0,[],_,_=>jBb _
 | 0,x::l,_,h=>by have:=h x (.head _);omega
 | n+1,l,hn,h=>by
   have h1:=nodup_lt n (l.erase n) (hn.erase n) fun x hx=>by
    have h2:=h x (List.mem_of_mem_erase hx);have h3:x≠n:=fun e=>by subst e;exact (List.Nodup.not_mem_erase hn) hx
    omega
   have h2:l.length<=(l.erase n).length+1:=by
    by_cases hm:n ∈ l
    . rw [List.length_erase_of_mem hm];have:=kM hm;omega
    . rw [List.erase_of_not_mem hm];omega
   omega
theorem Keys.bound {s:St} {q:RS} (h:Keys s q):q.rows.length<=s.pl.slots.length:=by
 have h1:=nodup_lt (s.pl.slots.length+1) _ h.nd fun x hx=>by
  rcases h.mem x hx with rfl|hx
  . omega
  . have:=Pl.nd_lt hx;omega
 rw [jHb,h.len] at h1;omega
end G
section
open Go.RowKit
def ValR (m:G.Mg):Nat ⊕ Nat->Prop
 | .inl r=>G.val m.s.nd r
 | .inr _=>False
theorem G.Isf.valR {φ:G.Fn} {m:G.Mg} {y:Nat ⊕ Nat} (h:G.Isf φ m y):ValR m y:=by
 cases y with
 | inl r=>exact h.1
 | inr e=>exact h
section
variable {S:G.Sem} {n c:Nat} {E w:World} {I p:PH} {ms:List PH} {D:Nat} {m m':G.Mg} {h er:Nat}
theorem wvar_any (hs:G.Snd S n c m) (hH:m.hs.length<1152921504606846976) (hr:m.s.pl.room<=900000) {x:Nat} (hx:x<n) (hm:m.var_ x=some (m',h,er)) (hA:MgAt D m p) (hS:Sat E I (p::ms) w) :
  Calls Tryz.prog 18 #[vPt D,nv x] w fun e w'=>e=.returned (.tuple #[nv h,nv er])/\∃ p',MgAt D m' p'/\Sat E I (p'::ms) w' :=
 mvar_any (x:Int) (InvS.keeps hH hr) (fun _=>InvS.doOk (K:=1) (R:=ValR) (fun m1 hI=>by
  have:=hI.ok.varR hx;rw [hI.hs] at this;exact this.mono (jBb _) fun _ _ _ h=>h.valR) (fun _ _ h=>h) (fun _ h=>h)) (InvS.of hs) hm hA hS
theorem fold_runs (hS1:∀ φ ψ χ,S 1 φ ψ χ=G.iteF φ ψ χ) {Φ:Int->Option G.Fn} {H:List (Int × Nat)} {r:Nat} (l:List Int) (φs:List G.Fn) (hl:l.map Φ=φs.map some) (m:G.Mg) (hI:InvS S n c Φ H r m):G.Runs S H.length (l.length * (2 ^ n - 1)) m (G.foldE G.andE l m 0) ValR:=by
 have:=G.foldE_ok (F:=G.andE) (f:=fun a b ρ=>a ρ && b ρ) (G.andE_ok hS1) l φs m 0 hI.ok (by rw [hI.fn];exact hl) (.inl rfl);rw [hI.hs] at this;exact this.mono (jBb _) fun _ _ _ h=>h.valR
theorem wand_any (hS1:∀ φ ψ χ,S 1 φ ψ χ=G.iteF φ ψ χ) (hs:G.Snd S n c m) (hH:m.hs.length<1152921504606846976) (hr:m.s.pl.room<=900000) {l:List Int} {φs:List G.Fn} (hl:l.map m.fn=φs.map some) (hlen:l.length<=1000000) {vl:Value} (hvl:IntR I vl l) (hm:m.andM l=some (m',h,er)) (hA:MgAt D m p) (hS:Sat E I (p::ms) w) :
  Calls Tryz.prog 19 #[vPt D,vl] w fun e w'=>e=.returned (.tuple #[nv h,nv er])/\∃ p',MgAt D m' p'/\Sat E I (p'::ms) w' :=
 dand_any (InvS.keeps hH hr) hlen (InvS.doOk (R:=ValR) (fun m1 hI=>fold_runs hS1 l φs hl m1 hI) (fun _ _ h=>h) (fun _ h=>h))
  (fun m1 hI i mi r he=>by
    have hli:(l.take i).map m.fn=(φs.take i).map some:=by rw [List.map_take,hl,List.map_take]
    obtain ⟨h1,h2⟩:=InvS.step (fun m2 hI=>fold_runs hS1 (l.take i) (φs.take i) hli m2 hI) m1 mi _ hI he
    have:=h1.ok.ok.val_lt h2.2;exact ⟨h1,by omega⟩) hvl (InvS.of hs) hm hA hS
theorem InvS.acyc {Φ:Int->Option G.Fn} {H:List (Int × Nat)} {r:Nat} (hI:InvS S n c Φ H r m):∃ rk,G.Acyc m.s.nd rk:=⟨_,hI.ok.ok.can.toAcyc⟩
theorem wrows_any (hs:G.Snd S n c m) (hH:m.hs.length<1152921504606846976) (hr:m.s.pl.room<=900000) {l:List Int} (hlen:l.length<=1000000) {vl:Value} (hvl:IntR I vl l) {res:(G.RS × List Nat) ⊕ Nat} (hm:m.rowsM l=some (m',res)) (hA:MgAt D m p) (hS:Sat E I (p::ms) w) :
  Calls Tryz.prog 13 #[vPt D,vl] w fun e w'=>∃ p' ns,RowsR (rowsOut res) e ns/\MgAt D m' p'/\Sat E I (p'::ns ++ ms) w' :=
 drows_any (InvS.keeps hH hr) (fun m1 hI=>hI.acyc) hlen (fun m1 hI i m2 q r he=>by
  obtain ⟨rk,hac⟩:=hI.acyc;have h1:=(G.rowsE_keys hac _ _ _ _ _ _ (G.keys0 m1.s) he).bound;have h2:=hI.ok.ok.pl.len;have h3:=hI.room;omega) hvl (InvS.of hs) hm hA hS
end
section
variable {S:G.Sem} {n c r:Nat} {Φ:Int->Option G.Fn} {H:List (Int × Nat)}
theorem RowsOk.get {rows:List G.Rw3}:∀ (k:Nat),G.RowsOk n rows k->∀ (i:Nat) x,rows[i]?=some x->0<=x.v/\x.v<n/\0<=x.lo/\0<=x.hi/\x.lo.toNat / 2<=k+i/\x.hi.toNat / 2<=k+i:=by
 induction rows with
 | nil=>intro k h i x hx;cases hx
 | cons y l ih =>
   intro k h i x hx;obtain ⟨⟨h1,h2,h3,h4,h5,h6⟩,h7⟩:=h;cases i with
   | zero=>cases hx;exact ⟨h1,h2,h3,h5,by omega,by omega⟩
   | succ i =>
     obtain ⟨a,b,c1,d,e,f⟩:=ih (k+1) h7 i x hx;exact ⟨a,b,c1,d,by omega,by omega⟩
theorem RowsOk.takes {rows:List G.Rw3}:∀ (k i:Nat),G.RowsOk n rows k->G.RowsOk n (rows.take i) k:=by
 induction rows with
 | nil=>intro k i h;rw [List.take_nil];exact h
 | cons y l ih =>
   intro k i h;cases i with
   | zero=>exact trivial
   | succ i=>exact ⟨h.1,ih (k+1) i h.2⟩
theorem load_inv (hS1:∀ φ ψ χ,S 1 φ ψ χ=G.iteF φ ψ χ) {rows:List G.Rw3} (hr:G.RowsOk n rows 0):LoadOk (InvS S n c Φ H r) rows where
 pre:=fun m1 hI i mi ns he=>by
  obtain ⟨h1,h2⟩:=InvS.step (fun m2 (hI:InvS S n c Φ H r m2)=>by
   have hN:G.Ns m2 [0] [fun _=>true]:=⟨rfl,by simp,fun i hi=>by
    simp only [List.length_singleton] at hi;obtain rfl:i=0:=by omega
    exact ⟨.inl rfl,funext fun ρ=>G.den_zero hI.ok.ok.can.g0 ρ⟩⟩
   have:=G.loadE_ok hS1 (rows.take i) m2 [0] [fun _=>true] hI.ok hN (RowsOk.takes _ _ hr);rw [hI.hs] at this;exact this) m1 mi _ hI he
  refine ⟨h1,fun x hx=>?_⟩;obtain ⟨j,hj⟩:=kXb hx;have hlt:=(yE.1 hj).1;have hv:=((h2.2:G.Ns mi ns _).get j hlt).1;rw [yD,hj] at hv
  have:=h1.ok.ok.val_lt hv;simp only [zJ] at this;omega
 mkv:=fun x hx m1 m2 y hI he=>by
  obtain ⟨i,hi⟩:=kXb hx;obtain ⟨h0,hn,_⟩:=RowsOk.get _ hr i x hi;obtain ⟨v,hv⟩:=jXa h0;rw [hv] at he;obtain ⟨h1,h2⟩:=InvS.step (R:=ValR) (K:=1) (fun m2 (hI:InvS S n c Φ H r m2)=>by
   have:=hI.ok.varR (v:=v) (by omega);rw [hI.hs] at this;exact this.mono (jBb _) fun _ _ _ h=>h.valR) m1 m2 _ hI he
  have:=h1.ok.ok.val_lt h2.2;exact ⟨h1.ok.ok.saneD,by omega⟩
 refs:=fun i x hx=>by
  obtain ⟨_,_,a,b,c1,d⟩:=RowsOk.get _ hr i x hx;exact ⟨a,b,by omega,by omega⟩
theorem load_do (hS1:∀ φ ψ χ,S 1 φ ψ χ=G.iteF φ ψ χ) {rows:List G.Rw3} (hr:G.RowsOk n rows 0) {root:Nat} (hroot:root / 2<=rows.length):DoOk (InvS S n c Φ H r) (G.load1 rows root) :=
 InvS.doOk (R:=ValR) (fun m1 hI=>by
  have:=G.load1_ok hS1 hI.ok hr hroot;rw [hI.hs] at this;exact this.mono (jBb _) fun _ _ _ h=>h.valR) (fun _ _ h=>h) (fun _ h=>h)
end
end
end Go.Proofs.YtidamcdklgfogaaGreatDoor
