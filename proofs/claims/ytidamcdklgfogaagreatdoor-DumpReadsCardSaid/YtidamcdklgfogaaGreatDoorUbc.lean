import Derived.Test.YtidamcdklgfogaaGreatDoorUbb
set_option linter.unusedVariables false
set_option linter.unusedSimpArgs false
set_option maxRecDepth 100000
set_option maxHeartbeats 8000000
namespace Go.Proofs.YtidamcdklgfogaaGreatDoor
namespace G
theorem rowsE_cons (h:Int) (l:List Int) (m:Mg) (q:RS) (r:List Nat):rowsE (h::l) m q r=(m.edge h).then fun m e=>match downR fuel m.s q e with|none=>none|some (q,x)=>rowsE l m q (r ++ [x]):=rfl
theorem rowsE_append:∀ (a b:List Int) (m:Mg) (q:RS) (r:List Nat),rowsE (a ++ b) m q r=match rowsE a m q r with|none=>none|some (m',.stop s)=>some (m',.stop s)|some (m',.ok (q',r'))=>rowsE b m' q' r'
 | [],b,m,q,r=>rfl
 | h::a,b,m,q,r=>by
   rw [List.cons_append,rowsE_cons,rowsE_cons];unfold Mg.edge;cases m.of h with
   | none=>rfl
   | some f =>
     simp only [Step.then];cases downR fuel m.s q f with
     | none=>rfl
     | some x=>exact rowsE_append a b m x.1 (r ++ [x.2])
theorem rowsE_same:∀ (l:List Int) (m m':Mg) (q:RS) (r:List Nat) (rs:Rs (RS × List Nat)),rowsE l m q r=some (m',rs)->m'=m
 | [],m,m',q,r,rs,h=>by cases h;rfl
 | k::l,m,m',q,r,rs,h=>by
   rw [rowsE_cons] at h;unfold Mg.edge at h;cases hk:m.of k with
   | none=>rw [hk] at h;cases h;rfl
   | some f =>
     rw [hk] at h;simp only [Step.then] at h;cases hd:downR fuel m.s q f with
     | none=>rw [hd] at h;cases h
     | some x=>rw [hd] at h;exact rowsE_same l m m' _ _ rs h
end G
section
open Go.RowKit
def RwP (X7 X8:Nat) (q:PH):Prop:=∃ v1 v2,Bd q [PH.one X7 (.cells #[v1] 23),PH.one X8 (.cells #[v2] 24)]
def RwQ (X7 X8:Nat) (a:G.RS × List Nat) (q:PH):Prop:=∃ vR mR vr mr,Bd q [PH.one X7 (.cells #[vR] 23),mR,PH.one X8 (.cells #[vr] 24),mr]/\OwnP mR 63 3 vR a.1.rows.length (a.1.rows.flatMap rowC)/\OwnP mr 3 1 vr a.2.length (a.2.flatMap ivC)
def rtG (H X7 X8:Nat) (q q1:G.RS) (x:Nat) (r:List Nat) (vr:Value) (mr:PH) (rest:List PH) (s:Nat) (vals:Nat->Value) (_:PH) (ns:List PH):Prop :=
 match s with
 | 0=>DwP H X7 q (PH.one X8 (.cells #[vr] 24)::mr::rest) ns
 | 1=>DwP H X7 q1 (PH.one X8 (.cells #[vr] 24)::mr::rest) ns
 | 2=>∃ XS ns0,vals 6=.slice (some ⟨XS,0,none⟩) 1 1/\DwP H X7 q1 (PH.one X8 (.cells #[vr] 24)::mr::rest) ns0/\ns=PH.one XS (.cells #[nv x] 3)::ns0
 | 3=>∃ XS ns0 mr',OwnP mr' 3 1 (vals 7) (r.length+1) (r.flatMap ivC ++ [nv x])/\DwP H X7 q1 (PH.one X8 (.cells #[vr] 24)::mr'::rest) ns0/\ns=PH.one XS (.cells #[nv x] 3)::ns0
 | _=>∃ XS ns0 mr',OwnP mr' 3 1 (vals 7) (r.length+1) (r.flatMap ivC ++ [nv x])/\DwP H X7 q1 (PH.one X8 (.cells #[vals 7] 24)::mr'::rest) ns0/\ns=PH.one XS (.cells #[nv x] 3)::ns0
section
variable {H X7 X8:Nat} {q q1:G.RS} {x:Nat} {r:List Nat} {vr:Value} {mr:PH} {rest:List PH}
theorem rtG_st (s:Nat) (vals vals':Nat->Value) (J:PH) (ns:List PH) (h:∀ j ∈ [5,6,7,8].take s,vals j=vals' j) (hG:rtG H X7 X8 q q1 x r vr mr rest s vals J ns):rtG H X7 X8 q q1 x r vr mr rest s vals' J ns:=by
 match s,h,hG with
 | 0,h,hG=>exact hG
 | 1,h,hG=>exact hG
 | 2,h,hG =>
   obtain ⟨XS,ns0,h1,h2,h3⟩:=hG;exact ⟨XS,ns0,by rw [<- h 6 (by simp)];exact h1,h2,h3⟩
 | 3,h,hG =>
   obtain ⟨XS,ns0,mr',h1,h2,h3⟩:=hG;exact ⟨XS,ns0,mr',by rw [<- h 7 (by simp)];exact h1,h2,h3⟩
 | s+4,h,hG =>
   obtain ⟨XS,ns0,mr',h1,h2,h3⟩:=hG;have e:=h 7 (by simp);exact ⟨XS,ns0,mr',by rw [<- e];exact h1,by rw [<- e];exact h2,h3⟩
theorem rtG_x8 {s:Nat} {vals:Nat->Value} {J:PH} {ns:List PH} (hs:s<=2) (hG:rtG H X7 X8 q q1 x r vr mr rest s vals J ns):PH.one X8 (.cells #[vr] 24) ∈ ns:=by
 match s,hs,hG with
 | 0,_,hG=>obtain ⟨l,clock,vR,mR,_,_,_,rfl⟩:=hG;simp
 | 1,_,hG=>obtain ⟨l,clock,vR,mR,_,_,_,rfl⟩:=hG;simp
 | 2,_,hG=>obtain ⟨XS,ns0,_,⟨l,clock,vR,mR,_,_,_,rfl⟩,rfl⟩:=hG;simp
 | s+3,h,hG=>omega
end
theorem atBslB {P:Program} {dst:Option Tmp} {type:TypeId} {pos:String} {after:Array Edge} {g:Option (Nat × Bool)} {a:Act} {w:World} {K:Act->World->Prop} {Q:Exit->Act->World->Prop} {T:TypeId} {k:Nat} {parts:Array (Nat × Operand)} (h:Oper.wp P ⟨dst,.buildSlice T k parts,type,pos,after,g⟩ a w K Q):Oper.wp P ⟨dst,.buildSlice T k parts,type,pos,after,g⟩ a w K Q:=h
theorem rows0_ok (H X7:Nat) (ms:List PH):DwP H X7 G.rs0 ms (PH.one H (Qk ikey [⟨0,.int .i64 0,0⟩] 1)::PH.one X7 (.cells #[.slice none 0 0] 23)::Zo::ms) :=
 ⟨_,_,_,Zo,⟨by decide,by decide,by decide⟩,by simp [MtR,G.rs0,nv],OwnP.nil _ _,rfl⟩
theorem rows1_op {D X3 X7 X8:Nat} {J:PH} {Inv:G.Mg->Prop} (hK:KeepsM Inv) (hac:∀ m,Inv m->∃ rk,G.Acyc m.s.nd rk) {l:List Int} {vl:Value} (hl:l.length<=1000000) (h3:J.at X3 0=some vl) (hvl:IntR J vl l)
  (hrows:∀ m,Inv m->∀ i m' q r,G.rowsE (l.take i) m G.rs0 []=some (m',.ok (q,r))->q.rows.length<4000000) :
  OpC 41 #[vPt X7,vPt X8,vPt X3] D J Inv (fun m=>G.rowsE l m G.rs0 []) (fun _=>.tuple #[]) (RwP X7 X8) (RwQ X7 X8) where
 enter:=fun args w=>by kernel_rfl
 run:=by
  intro E I p q0 ms w m m' rs X hJ1 hI hF hX hA hP hS;obtain ⟨v1,v2,hbd⟩:=hP;obtain rfl:=G.rowsE_same _ _ _ _ _ _ hF;have hS1:=Sat.unpack hbd (hS.pick 1 rfl);simp only [List.cons_append,List.nil_append,List.eraseIdx_cons_succ,List.eraseIdx_cons_zero] at hS1;obtain ⟨I1,l1,lp,hS2,bp⟩:=(hS1.pick 2 rfl).ice;simp only [List.eraseIdx_cons_succ,List.eraseIdx_cons_zero] at hS2;have hM:=hA.read.le lp;have iX:I1.at X 0=some (vPt D):=PH.at_le l1 hX;have i3:I1.at X3 0=some vl:=PH.at_le l1 (PH.at_le hJ1 h3);have hvI:=hvl.le (hJ1.trans l1);obtain ⟨⟨A,c,rfl⟩,hrow⟩:=hvI;obtain ⟨rk,hrk⟩:=hac _ hI;have HRw:=yH hrow;have HF:=yH hF;have HRows:=yH (hrows _ hI);have HOf:=yH (fun k a=>hK.ofl m' k a hI);have HA:=yH hA;have Hbp:=yH bp;clear hS hS1 hbd hJ1 hX h3 hvl hrow hF hrows hK hac hI hA bp;have hS:=hS2;clear hS2 l1 lp;show Calls _ _ #[vPt X,vPt X7,vPt X8,vPt X3] _ _
  have hmf:∀ (fn:Fn) (first cap:Array Value) (w:World),(Instr.makeFunc fn first cap).run Tryz.prog w=.ok (.func fn first cap) w:=fun _ _ _ _=>rfl
  go_enter Tryz.func41,Tryz.ntmps41;go_wp2_with (first
   | ((with_reducible refine isMakeMap ?_);refine mkM ikey hS rfl rfl ?_;clear hS;intro H w hS;(try simp only [Act.put,zE,zF,zG]))
   | ((with_reducible refine isInsert ?_);refine inNew (x:=0) (l:=[]) hS 0 rfl kI Tryz.underlying94 rfl rfl rfl rfl rfl MapOk.nil rfl ?_;clear hS;intro w hS;(try simp only [zG,Act.eval] at hS);(try simp only [Act.put]))
   | (refine aN 4 ?_;clear hS;intro X4 w hS)|(refine aN 5 ?_;clear hS;intro X5 w hS)|(refine aN 6 ?_;clear hS;intro X6 w hS)|(refine aL ?_)|(refine aS ?_;clear hS;intro w hS))
  obtain ⟨I2,l2,m6,hSa,_⟩:=hS.ice;obtain ⟨I3,l3,m5,hSb,_⟩:=hSa.ice;obtain ⟨I4,l4,m4,hSc,_⟩:=(hSb.pick 1 rfl).ice;simp only [List.eraseIdx_cons_succ,List.eraseIdx_cons_zero] at hSc;have hI4:DwI I4 D X H X7 X4 X5 X6 m':=⟨PH.at_le l4 (PH.at_le m5 (Qc rfl)),PH.at_le m4 (Qc rfl),PH.at_le (l2.trans (l3.trans l4)) iX,PH.at_le (l3.trans l4) (PH.at_le m6 (Qc rfl)),hM.le (l2.trans (l3.trans l4))⟩;have i6:=hI4.i6;have i4:=hI4.i4;have HI4:=yH hI4;have HL4:=yH (l2.trans (l3.trans l4));have k1:=hSc.empty.empty;have k2:=k1.pick 4 rfl;simp only [List.eraseIdx_cons_succ,List.eraseIdx_cons_zero] at k2;have k3:=k2.pick 1 rfl;simp only [List.eraseIdx_cons_succ,List.eraseIdx_cons_zero] at k3;have k4:=k3.pick 4 rfl;simp only [List.eraseIdx_cons_succ,List.eraseIdx_cons_zero] at k4;have k5:=k4.pick 4 rfl;simp only [List.eraseIdx_cons_succ,List.eraseIdx_cons_zero] at k5;clear hS hSa hSb hSc k1 k2 k3 k4 m6 m5 m4 l2 l3 l4 hM iX i3 hI4;have HRw4:=yH (fun (hn:0<l.length)=>(show ∃ (X c':Nat),Value.slice A l.length c=Value.slice (some ⟨X,0,none⟩) l.length c'/\∀ (i:Nat) x,l[i]?=some x->I4.at X i=some (.int .i64 x) from by
   obtain ⟨X,c',h1,h2⟩:=HRw.out hn;exact ⟨X,c',h1,fun i x hx=>PH.at_le HL4.out (h2 i x hx)⟩))
  generalize hN:l.length=N at *
  have HLn:=yH hN;clear hN HRw;go_loopw [14] (fun v14 wr=>∃ (i:Nat) (q:G.RS) (r:List Nat) (vr:Value) (mr:PH) (ns:List PH),i<=N/\v14=.int .i64 (i:Int)/\G.rowsE (l.take i) m' G.rs0 []=some (m',.ok (q,r))/\(q.get 0).isSome=true/\(∀ j n,q.get j=some n->n<4194303)/\r.length=i/\OwnP mr 3 1 vr r.length (r.flatMap ivC)/\DwP H X7 q (PH.one X8 (.cells #[vr] 24)::mr::ms) ns/\Sat E I4 ns wr) (fun v14 _=>(N - intOf v14).toNat)
  case atStart=>exact ⟨0,G.rs0,[],_,_,_,jCa _,rfl,rfl,rfl,fun j n h=>by
   have:n=0:=by
    unfold G.RS.get G.rs0 at h;by_cases e:(0:Nat)=j
    . subst e;simpa using h.symm
    . rw [kG (by simpa using e)] at h;cases h
   omega,rfl,OwnP.nil _ _,rows0_ok _ _ _,k5⟩
  case round =>
   clear k5;obtain ⟨i,q,r,vr,mr,ns,hi,rfl,hpre,h0,hb,hrl,hO,hP,hS⟩:=hrel;by_cases hlt:i<N
   . obtain ⟨k,hk⟩:∃ k,l[i]?=some k:=⟨_,yA (by rw [HLn.out];exact hlt)⟩
     obtain ⟨Y,c',hY,hcell⟩:=HRw4.out (by omega);injection hY with hA1 hB1 hC1
     subst hA1 hC1;have hcell:=hcell i _ hk;have iN:(i:Int)<(N:Int):=by omega
     have hsplit:l.take i ++ l.drop i=l:=jX i l;have hdr:l.drop i=k::l.drop (i+1):=by
      rw [jHa (by rw [HLn.out];exact hlt)];congr 1
      have:=yA (l:=l) (i:=i) (by rw [HLn.out];exact hlt);rw [hk] at this;injection this with this
      exact this.symm
     have htk:l.take (i+1)=l.take i ++ [k]:=by rw [jP,hk];rfl
     have hf:=HF.out;rw [<- hsplit,G.rowsE_append,hpre] at hf;simp only at hf;rw [hdr,G.rowsE_cons] at hf;cases hok:m'.of k with
     | none =>
       have he:rs=.stop (.err 8):=by
        unfold G.Mg.edge at hf;rw [hok] at hf;cases hf;rfl
       subst he;have HEb:=yH (fun (w:World) (hX:(Qa w).at X 0=some (vPt D)) (hM:MgR (Qa w) D m')=>xedge_no hX hM k hok);have HP:=yH hP;clear hf hok hsplit hdr htk hpre h0 hb hO hP hk HF HRows;go_wp2_with (first|(refine aL ?_))
       refine Kt (fun c w'=>c=stopE (.err 8)/\Sat E I4 ns w') [[],[],[],[],[2,3],[1,2,3,4],[1,2,3,4,5],[0,1,2,3,4,5,6],[0,1,2,3,4,5,6,7]] E I4 _
        [fun _ _=>True,fun v _=>v=.func (.func 42) #[] #[vPt X5,vPt X4,vPt X6,vPt X7],fun v _=>v=vPt X,fun v _=>v=.int .i64 k,fun _ _=>False,fun _ _=>True,fun _ _=>True,fun _ _=>True,fun _ _=>True] []
        (fun _ _ _ bs=>bs=ns) (by kernel_rfl) (by kernel_rfl) (by decide) hS rfl ?last (fun _ _ _ _ _ _ h=>h) (fun _ _ _ _ _ _ h=>h) ?plain ?step ?hZ ?fin
       case last=>exact bL
       case plain =>
        clear hS;refine ⟨⟨⟨⟨⟨⟨⟨⟨⟨trivial,?p0⟩,?p1⟩,?p2⟩,?p3⟩,?p4⟩,?p5⟩,?p6⟩,?p7⟩,?p8⟩
        case p0=>refine .inr ?_;intro s vals J bs w hstop hg hJ hS hG;have hX8:PH.one X8 (.cells #[vr] 24) ∈ bs:=(by have hG:bs=ns:=hG;obtain ⟨lq,cq,vRq,mRq,_,_,_,hns⟩:=HP.out;rw [hG,hns];simp);clear hG;simp only [zI,Given,Facts] at hg;simp only [Qb,Qe,Qf,zI];refine ⟨?_⟩;refine Qo (fun K hK=>?_);have HK:=yH hK;clear hK;rw [jAa (by rfl)];((with_reducible refine Yg ?_);(refine' wp_ld1 (v:=vr) (hS.own _ hX8) rfl ?ha rfl ?hc ?_);(case ha=>exact ty_agg24);(case hc=>exact Qc rfl));refine HK.out _ _ ⟨rfl,J,PH.le.refl _,hS,trivial⟩
        case p4=>refine .inr ?_;intro s vals J bs w hstop hg hJ hS hG;have hG:bs=ns:=hG;subst hG;refine bZ ?_;intro K HK;go_wp2_with (go_at_call 49;with_reducible refine bC (HEb.out _ (PH.at_le hS.ile (PH.at_le hJ HI4.out.iX)) (HI4.out.hM.le (hJ.trans hS.ile))) ?_);exact And.intro rfl (hS.less hJ)
        all_goals first|(refine .inr ?_;intro s vals J bs w hstop hg hJ hS hG;exfalso;simp only [zH,zI,Given,Facts,and_false,false_and] at hg;done)|(refine .inr ?_;intro s vals J bs w hstop hg hJ hS hG;clear hG;simp only [zH,zI,Given,Facts] at hg;simp only [Qb,Qe,Qd,Qf,zH,zI,zA,zB,zK,jC,Act.put,zE,zF,zG];refine ⟨?_⟩;refine Qo (fun K hK=>?_);have HK:=yH hK;clear hK;rw [jAa (by rfl)];(first|(refine bJ ?_)|(go_wp2_with (fail)));exact bO)
       case step=>trivial
       case hZ =>
        rintro c b w' hd ⟨rfl,hS'⟩;obtain ⟨lq,cq,vRq,mRq,_,_,_,rfl⟩:=HP.out;obtain ⟨q',hb',hS2⟩:=Sat.pack [PH.one X7 (.cells #[vRq] 23),PH.one X8 (.cells #[vr] 24)] ((hS'.sub (.cons _ (.cons_cons _ (.cons _ (.cons_cons _ (.cons _ (kCb _))))))));exact ⟨hd,rfl,p,q',HA.out,⟨vRq,vr,hb'⟩,Hbp.out _ _ (hS2.less HL4.out)⟩
       case fin =>
        intro vals J9 bs w hJ hg hS hG;exact False.elim (by simp only [yB,yC,Nat.reduceAdd,Below_,Facts,zH,zI,jGb,jMb] at hg;simp at hg)
     | some f =>
       unfold G.Mg.edge at hf;rw [hok] at hf;simp only [G.Step.then] at hf;cases hd:G.downR G.fuel m'.s q f with
       | none=>rw [hd] at hf;cases hf
       | some y =>
         obtain ⟨q1,x⟩:=y;rw [hd] at hf;simp only at hf;have hpre':G.rowsE (l.take (i+1)) m' G.rs0 []=some (m',.ok (q1,r ++ [x])):=by
          rw [htk,G.rowsE_append,hpre];simp only;rw [G.rowsE_cons];unfold G.Mg.edge;rw [hok];simp only [G.Step.then];rw [hd];rfl
         have hlen:=HRows.out _ _ _ _ hpre';obtain ⟨_,a2,a3,a4⟩:=G.down_keys hrk _ _ _ _ _ h0 hd;have h0':(q1.get 0).isSome=true:=by
          obtain ⟨z,hz⟩:=yF.1 h0;rw [a2 _ _ hz];rfl
         have hb':∀ j n,q1.get j=some n->n<4194303:=fun j n hj=>by
          rcases a4 j n hj with h|h
          . exact hb j n h
          . omega
         have HE:=yH (fun (w:World) (hX:(Qa w).at X 0=some (vPt D)) (hM:MgR (Qa w) D m')=>xedge_ok hX hM k hok);have HDn:=yH (fun (J:PH) (ns:List PH) (w:World) (hJ:I4.le J) (hP:DwP H X7 q (PH.one X8 (.cells #[vr] 24)::mr::ms) ns) (h:Sat E J ns w)=>ddown_any hrk G.fuel J q q1 f x (HI4.out.le hJ) hd h0 hb hlen (HOf.out _ _ hok) E _ ns w hP h);have HN:=yH (And.intro hpre' (And.intro h0' hb'));have HO:=yH hO;have HP:=yH hP;have hrl2:r.length+1<=1000000:=by omega
         clear hf hok hsplit hdr htk hpre h0 hb hO hP hk hpre' h0' hb' a2 a3 a4 hd hlen;go_wp2_with (first|(refine aL ?_))
         refine Kt (fun _ _=>False) [[],[],[],[],[2,3],[1,2,3,4],[1,2,3,4,5],[0,1,2,3,4,5,6],[0,1,2,3,4,5,6,7]] E I4 _
          [fun v _=>v=vr,fun v _=>v=.func (.func 42) #[] #[vPt X5,vPt X4,vPt X6,vPt X7],fun v _=>v=vPt X,fun v _=>v=.int .i64 k,fun v _=>v=nv f,fun v _=>v=nv x,fun _ _=>True,fun _ _=>True,fun _ _=>True] [5,6,7,8]
          (rtG H X7 X8 q q1 x r vr mr ms) (by kernel_rfl) (by kernel_rfl) (by decide) hS HP.out ?last rtG_st (fun _ _ _ _ _ _ h=>h) ?plain ?step ?hZ ?fin
         case last=>exact bL
         case hZ=>exact fun _ _ _ _ h=>h.elim
         case plain =>
          clear hS;refine ⟨⟨⟨⟨⟨⟨⟨⟨⟨trivial,?r0⟩,?r1⟩,?r2⟩,?r3⟩,?r4⟩,.inl rfl⟩,.inl rfl⟩,.inl rfl⟩,.inl rfl⟩
          case r0 =>
           refine .inr ?_;intro s vals J bs w hstop hg hJ hS hG;have hX8:=rtG_x8 (jL hstop (by decide)) hG;clear hG;simp only [zI,Given,Facts] at hg;simp only [Qb,Qe,Qf,zI];refine ⟨?_⟩;refine Qo (fun K hK=>?_);have HK:=yH hK;clear hK;rw [jAa (by rfl)]
           (with_reducible refine Yg ?_)
           refine' wp_ld1 (v:=vr) (hS.own _ hX8) rfl ty_agg24 rfl (Qc rfl) ?_;exact HK.out _ _ ⟨rfl,J,PH.le.refl _,hS,rfl⟩
          all_goals (refine .inr ?_;intro s vals J bs w hstop hg hJ hS hG;clear hG;refine bZ ?_;intro K HK;(first|(refine bJ ?_)|(go_wp2_with (first|(go_at_call 49;with_reducible refine bC (HE.out _ (PH.at_le hS.ile (PH.at_le hJ HI4.out.iX)) (HI4.out.hM.le (hJ.trans hS.ile))) ?_))));exact bO)
         case step =>
          clear hS;refine ⟨⟨⟨⟨trivial,?s0⟩,?s1⟩,?s2⟩,?s3⟩
          case s0 =>
           intro vals J bs w hg hJ hS hG;have HG:=yH (show DwP H X7 q (PH.one X8 (.cells #[vr] 24)::mr::ms) bs from hG);clear hG;refine bZ ?_;intro K HK;go_wp2_with (first|(go_at_call 42;(with_reducible refine yI (HDn.out _ _ _ hJ HG.out hS) ?_);clear hS;rintro e w ⟨rfl,ns1,hP1,hS⟩;have HP1:=yH hP1;clear hP1))
           exact HK.out _ _ ⟨rfl,J,_,PH.le.refl _,hS,rfl,HP1.out⟩
          case s1 =>
           intro vals J bs w hg hJ hS hG;have HG:=yH (show DwP H X7 q1 (PH.one X8 (.cells #[vr] 24)::mr::ms) bs from hG);clear hG;refine bZ ?_;intro K HK;refine wp_bsl (cs := #[nv x]) (e:=3) hS (fun w0=>by go_simp) fun XS w' hS'=>?_
           exact HK.out _ _ ⟨rfl,J,_,PH.le.refl _,hS',trivial,XS,bs,rfl,HG.out,rfl⟩
          case s2 =>
           intro vals J bs w hg hJ hS hG;obtain ⟨XS,ns0,e6,⟨lq,cq,vRq,mRq,g1,g2,g3,rfl⟩,rfl⟩:=hG;simp only [zH,zI,Given,Facts] at hg;simp only [Qb,Qe,Qd,Qf,zH,zI,zA,zB,zK,jC,Act.put,zE,zF,zG,hg,e6];refine ⟨?_⟩;refine Qo (fun K hK=>?_);have HK:=yH hK;clear hK;rw [jAa (by rfl)]
           refine wp_apP (p:=PH.one XS (.cells #[nv x] 3)) (m:=mr) (v:=vr) (n:=r.length) (xs:=r.flatMap ivC) (news:=[nv x]) hS 5 rfl (.inr (.head _)) rfl Tryz.underlying24 Xw rfl (by decide) rfl HO.out rfl rfl (Cells.one _ _ _ _) rfl (by unfold maxLen;omega) (by omega) fun v' m' w' hO' hS'=>?_
           exact HK.out _ _ ⟨rfl,J,_,PH.le.refl _,hS',trivial,XS,_,m',hO',⟨lq,cq,vRq,mRq,g1,g2,g3,rfl⟩,rfl⟩
          case s3 =>
           intro vals J bs w hg hJ hS hG;obtain ⟨XS,ns0,mr',g0,⟨lq,cq,vRq,mRq,g1,g2,g3,rfl⟩,rfl⟩:=hG;obtain ⟨A7,c7,e7,_⟩:=OwnP.shape g0;simp only [zH,zI,Given,Facts] at hg;simp only [Qb,Qe,Qd,Qf,zH,zI,zA,zB,zK,jC,Act.put,zE,zF,zG,hg,e7];refine ⟨?_⟩;refine Qo (fun K hK=>?_);have HK:=yH hK;clear hK;rw [jAa (by rfl)]
           refine wp_st1 hS 4 rfl rfl rfl rfl ty_sz24 rfl rfl (by simp) fun w' hS'=>?_
           refine HK.out _ _ ⟨rfl,J,_,PH.le.refl _,hS',trivial,XS,_,mr',g0,⟨lq,cq,vRq,mRq,g1,g2,g3,?_⟩,rfl⟩;rw [show upd vals 8 _ 7=vals 7 from rfl,e7];rfl
         case fin =>
          intro vals J9 bs w hJ hg hS hG;obtain ⟨XS,ns0,mr',g0,HP2,rfl⟩:=hG;have HP2:=yH HP2;have g0:=yH g0;have hS:=(hS.less hJ).drop;clear hJ HDn HP HO HE;simp only [yB,yC,Nat.reduceAdd,Below_,Facts,zH,zI,jGb,jMb] at hg;simp only [yB,yC,Nat.reduceAdd,Qb,Qe,Qd,zA,zB,zK,jC,Act.put,zE,zF,zG,hg];refine ⟨?_⟩;clear hg;go_wp2_with (fail)
          exact ⟨⟨i+1,q1,r ++ [x],vals 7,mr',ns0,by omega,by go_num,HN.out.1,HN.out.2.1,HN.out.2.2,by rw [yG,hrl];rfl,by rw [yG,jLb];exact g0.out,HP2.out,hS⟩,by simp [intOf];omega⟩
   . obtain rfl:i=N:=by omega
     have e:l.take i=l:=jFa (by rw [HLn.out];exact jBb _);rw [e] at hpre;have hf:=HF.out;rw [hpre] at hf;obtain rfl:rs=.ok (q,r):=by injection hf with h;injection h with h1 h2;exact h2.symm
     obtain ⟨lq,cq,vR,mR,_,_,hO2,rfl⟩:=hP;have HO2:=yH hO2;have HO:=yH hO;clear hO2 hO hf hpre e HF HRows HRw4 HI4 HOf h0 hb hrl i6 i4;go_wp2_with fail
     go_end0
     obtain ⟨q',hb',hS2⟩:=Sat.pack [PH.one X7 (.cells #[vR] 23),mR,PH.one X8 (.cells #[vr] 24),mr] hS.drop;exact ⟨rfl,p,q',HA.out,⟨vR,mR,vr,mr,hb',HO2.out,HO.out⟩,Hbp.out _ _ (hS2.less HL4.out)⟩
end
namespace G
theorem rowsE_stop:∀ (l:List Int) (m m':Mg) (q:RS) (r:List Nat) (s:Stop),rowsE l m q r=some (m',.stop s)->s=.err 8
 | [],m,m',q,r,s,h=>by cases h
 | k::l,m,m',q,r,s,h=>by
   rw [rowsE_cons] at h;unfold Mg.edge at h;cases hk:m.of k with
   | none=>rw [hk] at h;cases h;rfl
   | some f =>
     rw [hk] at h;simp only [Step.then] at h;cases hd:downR fuel m.s q f with
     | none=>rw [hd] at h;cases h
     | some x=>rw [hd] at h;exact rowsE_stop l m m' _ _ s h
theorem rowsM_cases {m m':Mg} {l:List Int} {res:(RS × List Nat) ⊕ Nat} (h:m.rowsM l=some (m',res)):m'=m/\((∃ q r,res=.inl (q,r)/\rowsE l m rs0 []=some (m,.ok (q,r)))\/res=.inr 8):=by
 unfold Mg.rowsM Mg.look at h;rw [show fuel=2097151+1 from rfl,run_succ] at h;cases hr:rowsE l m rs0 [] with
 | none=>rw [hr] at h;cases h
 | some x =>
   obtain ⟨m1,rs⟩:=x;obtain rfl:=rowsE_same _ _ _ _ _ _ hr;rw [hr] at h;cases rs with
   | ok a=>cases h;exact ⟨rfl,.inl ⟨_,_,rfl,rfl⟩⟩
   | stop s =>
     obtain rfl:=rowsE_stop _ _ _ _ _ _ hr;simp only [] at h;cases h;exact ⟨rfl,.inr rfl⟩
end G
section
open Go.RowKit
theorem mlook_any {α:Type} {fid D:Nat} {cs:Array Value} {J0:PH} {Inv:G.Mg->Prop} {F:G.Mg->G.Step α} {P:PH->Prop} {Q:α->PH->Prop} (hop:OpC fid cs D J0 Inv F (fun _=>.tuple #[]) P Q) (hK:KeepsM Inv) (hstep:∀ m m' rs,Inv m->F m=some (m',rs)->Inv m')
  {E w:World} {I p q:PH} {ms:List PH} {m m':G.Mg} {res:α ⊕ Nat} (hJ0:J0.le I) (hI:Inv m) (hm:m.look F=some (m',res)) (hA:MgAt D m p) (hq:P q) (hS:Sat E I (p::q::ms) w) :
  Calls Tryz.prog 40 #[vPt D,.func (.func fid) #[] cs] w fun e w'=>e=.returned (runE res)/\∃ p' q',MgAt D m' p'/\sideR P Q res q'/\Sat E I (p'::q'::ms) w':=by
 have hnf:∀ W:World,(binOp .eql 104 (.func (.func fid) #[] cs) .nilFunc).run Tryz.prog W=.ok (.bool false) W:=fun _=>by kernel_rfl
 have HR:=yH (mrun_any hop hK hstep hJ0 hI hm hA hq hS);clear hop hK hstep hJ0 hI hm hA hq;go_enter Tryz.func40,Tryz.ntmps40;go_wp2_with (first|(go_at_call 83;(with_reducible refine yI HR.out ?_);clear hS;rintro e w ⟨rfl,p1,q1,hA1,hQ1,hS⟩;have HA1:=yH hA1;have HQ1:=yH hQ1;clear hA1 hQ1))
 go_ret;exact ⟨rfl,p1,q1,HA1.out,HQ1.out,hS⟩
def rowsOut:(G.RS × List Nat) ⊕ Nat->List G.Rw3 × List Nat × Nat
 | .inl (q,r)=>if 4096<q.rows.length then ([],[],18) else (q.rows,r,0)
 | .inr e=>([],[],e)
def RowsR (o:List G.Rw3 × List Nat × Nat) (e:Ending) (ns:List PH):Prop:=∃ vR vr mR mr,e=.returned (.tuple #[vR,vr,nv o.2.2])/\ns=[mR,mr]/\OwnP mR 63 3 vR o.1.length (o.1.flatMap rowC)/\OwnP mr 3 1 vr o.2.1.length (o.2.1.flatMap ivC)
theorem drows_any {D:Nat} {Inv:G.Mg->Prop} (hK:KeepsM Inv) (hac:∀ m,Inv m->∃ rk,G.Acyc m.s.nd rk) {l:List Int} {vl:Value} (hl:l.length<=1000000)
  (hrows:∀ m,Inv m->∀ i m' q r,G.rowsE (l.take i) m G.rs0 []=some (m',.ok (q,r))->q.rows.length<4000000)
  {E w:World} {I p:PH} {ms:List PH} {m m':G.Mg} {res:(G.RS × List Nat) ⊕ Nat} (hvl:IntR I vl l) (hI:Inv m) (hm:m.rowsM l=some (m',res)) (hA:MgAt D m p) (hS:Sat E I (p::ms) w) :
  Calls Tryz.prog 13 #[vPt D,vl] w fun e w'=>∃ p' ns,RowsR (rowsOut res) e ns/\MgAt D m' p'/\Sat E I (p'::ns ++ ms) w':=by
 have hstep:∀ m m' rs,Inv m->G.rowsE l m G.rs0 []=some (m',rs)->Inv m':=fun m m' rs hI h=>by rw [G.rowsE_same _ _ _ _ _ _ h];exact hI
 have HR:Hid (∀ (w:World) (X3 X7 X8:Nat),Sat E I (PH.one X8 (.cells #[.slice none 0 0] 24)::PH.one X7 (.cells #[.slice none 0 0] 23)::PH.one X3 (.cells #[vl] 24)::p::ms) w ->
   Calls Tryz.prog 40 #[vPt D,.func (.func 41) #[] #[vPt X7,vPt X8,vPt X3]] w fun e w'=>e=.returned (runE res)/\∃ p1 q1,MgAt D m' p1/\sideR (RwP X7 X8) (RwQ X7 X8) res q1/\Sat E I (p1::q1::ms) w'):=by
  refine yH fun w X3 X7 X8 h=>?_
  obtain ⟨J,lJ,mJ,h2,back⟩:=(h.pick 2 rfl).ice;simp only [List.eraseIdx_cons_succ,List.eraseIdx_cons_zero] at h2;obtain ⟨q',hb,h3⟩:=Sat.pack [PH.one X7 (.cells #[.slice none 0 0] 23),PH.one X8 (.cells #[.slice none 0 0] 24)] (h2.perm (List.Perm.swap _ _ _));have i3:J.at X3 0=some vl:=PH.at_le mJ (Qc rfl);refine (mlook_any (rows1_op (X7:=X7) (X8:=X8) hK hac hl i3 (hvl.le lJ) hrows) hK hstep (PH.le.refl J) hI hm hA ⟨_,_,hb⟩ (h3.perm (List.Perm.swap _ _ _))).mono ?_;rintro e w' ⟨rfl,p1,q1,hA1,hQ1,h4⟩;exact ⟨rfl,p1,q1,hA1,hQ1,(back _ _ h4).drop⟩
 have hmf:∀ (fn:Fn) (first cap:Array Value) (w:World),(Instr.makeFunc fn first cap).run Tryz.prog w=.ok (.func fn first cap) w:=fun _ _ _ _=>rfl
 obtain ⟨rfl,hc⟩:=G.rowsM_cases hm;obtain ⟨⟨A,c,rfl⟩,hrow⟩:=hvl;have hlen:=fun q r (h:G.rowsE l m' G.rs0 []=some (m',.ok (q,r)))=>hrows _ hI l.length _ q r (by rw [List.take_length];exact h)
 clear hK hac hrows hstep hI hm hA hrow;rcases hc with ⟨q,r,rfl,hE⟩|rfl
 . have hq:=hlen q r hE
   clear hlen hE;simp only [runE,sideR] at HR;by_cases h40:4096<q.rows.length
   . have e:rowsOut (.inl (q,r))=([],[],18):=jAa h40
     rw [e];have d1:decide ((q.rows.length:Int) > 4096)=true:=by simp;omega
     go_enter Tryz.func13,Tryz.ntmps13;go_wp2_with (first|(go_at_call 40;(with_reducible refine yI (HR.out _ _ _ _ hS) ?_);clear hS;rintro e w ⟨rfl,p1,q1,hA1,hQ1,hS⟩;have HA1:=yH hA1;obtain ⟨vR,mR,vr,mr,hb,hO1,hO2⟩:=hQ1;obtain ⟨A1,c1,rfl,_⟩:=OwnP.shape hO1;obtain ⟨A2,c2,rfl,_⟩:=OwnP.shape hO2;have hS2:=Sat.unpack hb (hS.pick 1 rfl);clear hS hb hA1;have hS:=hS2;clear hS2;simp only [List.eraseIdx_cons_succ,List.eraseIdx_cons_zero,List.cons_append,List.nil_append] at hS;have HO1:=yH hO1;have HO2:=yH hO2;clear hO1 hO2)|(refine aN 3 ?_;clear hS;intro X3 w hS)|(refine aN 7 ?_;clear hS;intro X7 w hS)|(refine aN 8 ?_;clear hS;intro X8 w hS)|(refine aL ?_))
     go_ret3;exact ⟨p1,_,⟨_,_,Zo,Zo,rfl,rfl,OwnP.nil _ _,OwnP.nil _ _⟩,HA1.out,(((hS.drop.drop.drop.drop).empty.empty).pick 2 rfl)⟩
   . have e:rowsOut (.inl (q,r))=(q.rows,r,0):=jAb h40
     rw [e];have d1:decide ((q.rows.length:Int) > 4096)=false:=by simp;omega
     go_enter Tryz.func13,Tryz.ntmps13;go_wp2_with (first|(go_at_call 40;(with_reducible refine yI (HR.out _ _ _ _ hS) ?_);clear hS;rintro e w ⟨rfl,p1,q1,hA1,hQ1,hS⟩;have HA1:=yH hA1;obtain ⟨vR,mR,vr,mr,hb,hO1,hO2⟩:=hQ1;obtain ⟨A1,c1,rfl,_⟩:=OwnP.shape hO1;obtain ⟨A2,c2,rfl,_⟩:=OwnP.shape hO2;have hS2:=Sat.unpack hb (hS.pick 1 rfl);clear hS hb hA1;have hS:=hS2;clear hS2;simp only [List.eraseIdx_cons_succ,List.eraseIdx_cons_zero,List.cons_append,List.nil_append] at hS;have HO1:=yH hO1;have HO2:=yH hO2;clear hO1 hO2)|(refine aN 3 ?_;clear hS;intro X3 w hS)|(refine aN 7 ?_;clear hS;intro X7 w hS)|(refine aN 8 ?_;clear hS;intro X8 w hS)|(refine aL ?_))
     have x7:w.cell? ⟨X7,0,none⟩=some (.slice A1 q.rows.length c1):=Qn (hS.mle (k:=0) rfl) (Qc rfl);have x8:w.cell? ⟨X8,0,none⟩=some (.slice A2 r.length c2):=Qn (hS.mle (k:=2) rfl) (Qc rfl);go_quiet (fail)
     replace hS:=hS.drewN nq;clear x7 x8;go_wp2_with fail
     go_ret3;exact ⟨p1,_,⟨_,_,mR,mr,rfl,rfl,HO1.out,HO2.out⟩,HA1.out,((hS.sub (.cons _ (.cons_cons _ (.cons _ (kCb _))))).pick 2 rfl)⟩
 . clear hlen
   simp only [runE] at HR;go_enter Tryz.func13,Tryz.ntmps13;go_wp2_with (first|(go_at_call 40;(with_reducible refine yI (HR.out _ _ _ _ hS) ?_);clear hS;rintro e w ⟨rfl,p1,q1,hA1,hQ1,hS⟩;have HA1:=yH hA1;clear hA1 hQ1)|(refine aN 3 ?_;clear hS;intro X3 w hS)|(refine aN 7 ?_;clear hS;intro X7 w hS)|(refine aN 8 ?_;clear hS;intro X8 w hS))
   go_ret3;exact ⟨p1,_,⟨_,_,Zo,Zo,rfl,rfl,OwnP.nil _ _,OwnP.nil _ _⟩,HA1.out,(((hS.pick 1 rfl).drop).empty.empty).pick 2 rfl⟩
end
section
open Go.RowKit
theorem lget_any {w:World} {X5:Nat} {vr:Value} {ns:List Nat} (h5:(Qa w).at X5 0=some vr) (hO:NumR (Qa w) vr ns) (e:Nat) (he:e / 2<ns.length) (hl:ns.length<=4000000) (hlt:∀ x ∈ ns,x<4611686018427387904) :
  Calls Tryz.prog 55 #[nv e,vPt X5] w fun e' w'=>e'=.returned (nv (G.flipIf (ns.getD (e / 2) 0) (e % 2 == 1)))/\w=w':=by
 obtain ⟨x,hx⟩:∃ x,ns[e / 2]?=some x:=⟨_,yA he⟩;have hg:ns.getD (e / 2) 0=x:=by rw [yD,hx];rfl
 have hxl:=hlt x (jDb hx);rw [hg];obtain ⟨Y,c,rfl,hc⟩:=hO.2 (by omega);have hcell:=hc _ _ hx;have HF:=yH (fun (b:Bool)=>Zw (w:=w) x b hxl);have hb:(((e:Int) % 2) == 1)=(e % 2 == 1):=by rw [kNb];simp only [jVa];omega
 have hS:=Sat.start w;go_enter Tryz.func55,Tryz.ntmps55;go_wp2_with (first|(go_at_call 44;with_reducible refine bC (HF.out _) ?_)|(refine aL ?_))
 go_ret;exact ⟨by rw [<- hb];rfl,rfl⟩
end
end Go.Proofs.YtidamcdklgfogaaGreatDoor
