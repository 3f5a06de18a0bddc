import Derived.Test.YtidamcdklgfogaaGreatZab
import Derived.Test.YtidamcdklgfogaaGreatZak
import Derived.Test.YtidamcdklgfogaaGreatZat
import Derived.Test.YtidamcdklgfogaaGreatZbb
import Derived.Deep.CutRange
import Derived.Deep.CutBlock
set_option linter.unusedSimpArgs false
set_option linter.unusedVariables false
set_option maxRecDepth 100000
set_option maxHeartbeats 8000000
namespace Go.Proofs.YtidamcdklgfogaaGreat
section
open Go.RowKit
theorem Sane.mkE {s s':G.St} {v lo hi:Int} {r er:Nat} (h:Sane s) (hm:s.mkE v lo hi=some (s',r,er)) (hlo:lo<4611686018427387904):Sane s'∧r<4611686018427387904:=by
 unfold G.St.mkE at hm
 split at hm
 · cases hm;exact ⟨h,by omega⟩
 · split at hm
   · cases hm;exact ⟨h,by omega⟩
   · split at hm
     · cases hm;exact ⟨h,by omega⟩
     · split at hm
       · cases hm;exact ⟨h,by omega⟩
       · simp only [] at hm
         split at hm
         · split at hm
           · rename_i id hf
             cases hm
             obtain ⟨e,he,hi⟩:=find_mem hf
             exact ⟨h,edge_lt (by rw [← hi];exact h.tab _ e he) _⟩
           · split at hm
             · cases hm
             · cases hm;exact ⟨h,by omega⟩
             · rename_i s1 id had
               cases hm
               obtain ⟨h1,h2,h3,h4⟩:=h.add had
               exact ⟨h1,edge_lt h4 _⟩
         · cases hm
theorem Sane.mk_ {m m':G.Mg} {v lo hi:Int} {rs:G.Rs Nat} (h:Sane m.s) (hm:m.mk_ v lo hi=some (m',rs)) (hlo:lo<4611686018427387904):Sane m'.s∧∀ r,rs=.ok r→r<4611686018427387904:=by
 have key:∀ m1:G.Mg,m1.s=m.s→m1.mkS v lo hi=some (m',rs)→Sane m'.s∧∀ r,rs=.ok r→r<4611686018427387904:=fun m1 e hm=>by
  unfold G.Mg.mkS at hm
  split at hm
  · cases hm
  · rename_i s r er hk
    rw [e] at hk
    obtain ⟨h1,h2⟩:=h.mkE hk hlo
    split at hm
    · cases hm;exact ⟨h1,fun r' e=>by cases e;exact h2⟩
    · cases hm;exact ⟨h1,fun r' e=>by cases e⟩
 unfold G.Mg.mk_ at hm
 simp only [] at hm
 split at hm
 · split at hm
   · cases hm;exact ⟨h,fun r' e=>by cases e⟩
   · exact key { m with calls:=G.wrapI (m.calls+1) } rfl hm
 · exact key { m with calls:=G.wrapI (m.calls+1) } rfl hm
def LtE:Nat ⊕ (Nat × Nat × Nat × Bool)→Prop
 | .inl r=>r<4611686018427387904
 | .inr (a,b,c,_)=>a<4611686018427387904∧b<4611686018427387904∧c<4611686018427387904
theorem iteT_lt {f g h:Nat} (hf:f<4611686018427387904) (hg:g<4611686018427387904) (hh:h<4611686018427387904):LtE (iteT f g h):=by
 unfold iteT
 have h1:=flip_lt hf
 have h2:=fun b=>Kw hg b
 have h3:=fun b=>Kw hh b
 repeat' split
 all_goals first|exact hg|exact hh|exact hf|exact h1|exact ⟨h1,h3 _,h2 _⟩|exact ⟨hf,h2 _,h3 _⟩
theorem iteE_lt {f g h:Nat} (hf:f<4611686018427387904) (hg:g<4611686018427387904) (hh:h<4611686018427387904):LtE (G.iteE f g h):=by
 rw [iteE_T]
 refine iteT_lt hf ?_ ?_
 · split
   · omega
   · split
     · omega
     · exact hg
 · split
   · omega
   · split
     · omega
     · exact hh
theorem splitI_lt {s:G.St} (hp:PlFit s.pl) {f:Nat} (hf:f<4611686018427387904) (v:Int):(s.splitI f v).1<4611686018427387904∧(s.splitI f v).2<4611686018427387904:=by
 cases hn:s.nd (f / 2) with
 | none=>rw [splitI_none hn];exact ⟨hf,hf⟩
 | some n =>
   rw [splitI_some hn]
   obtain ⟨_,h2,h3,_⟩:=hp.nd _ _ (G.Pl.nd_some.1 hn).2
   split
   · exact ⟨Kw h2 _,Kw h3 _⟩
   · exact ⟨hf,hf⟩
def iteRest (k:Nat) (m:G.Mg):Bool × (Nat ⊕ (Nat × Nat × Nat))→G.Step Nat
 | (t,.inl r)=>some (m,.ok (G.flipIf r t))
 | (t,.inr (f,g,h)) =>
   match m.me.get 1 f g h with
   | some r=>some (m,.ok (G.flipIf r t))
   | none =>
     (G.Mg.ite k m (m.s.splitI f (m.s.topE [f,g,h]).1).1 (m.s.splitI g (m.s.topE [f,g,h]).1).1 (m.s.splitI h (m.s.topE [f,g,h]).1).1).then fun m' lo =>
     (G.Mg.ite k m' (m.s.splitI f (m.s.topE [f,g,h]).1).2 (m.s.splitI g (m.s.topE [f,g,h]).1).2 (m.s.splitI h (m.s.topE [f,g,h]).1).2).then fun m' hi =>
     (m'.mk_ (m.s.topE [f,g,h]).1 lo hi).then fun m' r=>some ({ m' with me:=m'.me.put 1 f g h r },.ok (G.flipIf r t))
theorem ite_succ (k:Nat) (m:G.Mg) (f g h:Nat):G.Mg.ite (k+1) m f g h=iteRest k m (G.iteN 3 false f g h):=rfl
theorem iteN_succ (k:Nat) (t:Bool) (f g h:Nat):G.iteN (k+1) t f g h=match G.iteE f g h with
 | .inl r=>(t,.inl r)
 | .inr (a,b,c,n)=>if a=f∧b=g∧c=h then (t ^^ n,.inr (f,g,h)) else G.iteN k (t ^^ n) a b c:=rfl
theorem NumR.three {I:PH} {X:Nat} {x y z:Nat} (h:(PH.one X (.cells #[nv x,nv y,nv z] 102)).le I):NumR I (.slice (some ⟨X,0,none⟩) 3 3) [x,y,z] :=
 (OwnP.num (l:=[x,y,z]) (OwnP.lit X 102 1 3 #[nv x,nv y,nv z] (by decide) rfl)).le h
theorem MeFit.get {me:G.Memo} (h:MeFit me) {op a b c r:Nat} (hg:me.get op a b c=some r):r<4611686018427387904:=by
 unfold G.Memo.get at hg
 split at hg
 · rename_i e he
   split at hg
   · injection hg with hg;rw [← hg];exact (h _ _ he).2.2.2.2
   · cases hg
 · cases hg
def IteC (X D k:Nat):Prop:=∀ (m m':G.Mg) (f g h:Nat) (rs:G.Rs Nat),G.Mg.ite k m f g h=some (m',rs)→Sane m.s→f<4611686018427387904→g<4611686018427387904→h<4611686018427387904→∀ (E:World) (I p:PH) (ms:List PH) (w:World),I.at X 0=some (vPt D)→MgAt D m p→Sat E I (p::ms) w →
 Calls Tryz.prog 64 #[vPt X,nv f,nv g,nv h] w fun e w'=>e=endE nv rs∧Sane m'.s∧(∀ r,rs=.ok r→r<4611686018427387904)∧∃ p',MgAt D m' p'∧Sat E I (p'::ms) w'
theorem xite_step (X D k:Nat) (ih:IteC X D k):IteC X D (k+1):=by
 intro m m' f g h rs hm hs hf hg hh E I p ms w hX hA hS
 rw [ite_succ] at hm
 have HE:=yH (fun (f g h:Nat) (hf:f<4611686018427387904) (hg:g<4611686018427387904) (hh:h<4611686018427387904) (w':World)=>eite_any (w:=w') f g h hf hg hh)
 have HP:=yH (fun (w':World) (n:Nat) (b:Bool) (h:n<4611686018427387904)=>Xg (w:=w') n b h)
 have HN0:Hid (G.iteN 3 false f g h=G.iteN 3 false f g h):=yH rfl
 generalize hN:G.iteN 3 false f g h=N at *
 have HM:=yH hm
 have HI:=yH ih
 have HA:=yH hA
 have HNs:=yH hN
 clear hm ih hA hN HN0
 go_enter Tryz.func64,Tryz.ntmps64
 go_upto_block 0 with fail
 go_cut [1,2,3,9] from 8 to 63 (fun v1 v2 v3 v9 wc=>∃ (f g h:Nat) (t:Bool),v1=nv f∧v2=nv g∧v3=nv h∧v9=.bool t∧f<4611686018427387904∧g<4611686018427387904∧h<4611686018427387904∧N=(t,.inr (f,g,h))∧Sat E I (p::ms) wc)
 case first =>
  go_wp2_with fail
  go_loopw [1,2,3,9,27] (fun v1 v2 v3 v9 v27 wr=>∃ (i f g h:Nat) (t:Bool),v1=nv f∧v2=nv g∧v3=nv h∧v9=.bool t∧v27=.int .i64 (i:Int)∧i≤3∧f<4611686018427387904∧g<4611686018427387904∧h<4611686018427387904∧G.iteN (3 - i) t f g h=N∧Sat E I (p::ms) wr) (fun _ _ _ _ v27 _=>(3 - intOf v27).toNat)
  case atStart=>exact ⟨0,f,g,h,false,rfl,rfl,rfl,rfl,rfl,by omega,hf,hg,hh,HNs.out,hS⟩
  case round =>
   clear hS hf hg hh HNs
   obtain ⟨i,f,g,h,t,rfl,rfl,rfl,rfl,rfl,hi,hf,hg,hh,hN,hS⟩:=hrel
   have hEl:=iteE_lt hf hg hh
   by_cases hi3:i=3
   · subst hi3
     have hN':N=(t,.inr (f,g,h)):=hN.symm
     go_wp2_with fail
     go_meet
     case rel=>exact ⟨f,g,h,t,rfl,rfl,rfl,rfl,hf,hg,hh,hN',hS⟩
   · have hiN:(i:Int)<3:=by omega
     have HEc:=yH (HE.out f g h hf hg hh)
     rw [show 3 - i=(2 - i)+1 by omega,iteN_succ] at hN
     cases he:G.iteE f g h with
     | inl r =>
       rw [he] at hN hEl HEc
       have hm:=HM.out
       rw [← hN] at hm
       cases hm
       simp only [iteV] at HEc
       have hr:r<4611686018427387904:=hEl
       clear HE HM HI hN hEl he
       go_wp2_with (first|(go_at_call 106;(with_reducible refine yI (HEc.out _) ?_);rintro e w9 ⟨rfl,rfl⟩)|(go_at_call 50;(with_reducible refine yI (HP.out _ _ _ hr) ?_);rintro e w9 ⟨rfl,rfl⟩))
       go_ret
       exact ⟨rfl,hs,(fun r' e=>by cases e;exact Kw hr _),p,HA.out,hS⟩
     | inr q =>
       obtain ⟨a,b,c,n⟩:=q
       rw [he] at hN hEl HEc
       simp only [iteV] at HEc
       obtain ⟨ha,hb,hc⟩:=hEl
       simp only at hN
       by_cases hsame:a=f∧b=g∧c=h
       · rw [if_pos hsame] at hN
         obtain ⟨rfl,rfl,rfl⟩:=hsame
         clear HE HM HI he
         go_wp2_with (first|(go_at_call 106;(with_reducible refine yI (HEc.out _) ?_);rintro e w9 ⟨rfl,rfl⟩)|((with_reducible refine Qc ?_);first|((with_reducible refine Qp ?_);  ((with_reducible refine Qi ?hw ?_);case hw=>(simp only [Region.wanted,yielded,zC,zA,zB,zK,beq_self_eq_true];done)) )))
         go_meet
         case rel=>exact ⟨a,b,c,t ^^ n,rfl,rfl,rfl,rfl,hf,hg,hh,hN.symm,hS⟩
       · rw [if_neg hsame] at hN
         have dn:((a:Int) == (f:Int))=false∨(((a:Int) == (f:Int))=true∧((b:Int) == (g:Int))=false)∨(((a:Int) == (f:Int))=true∧((b:Int) == (g:Int))=true∧((c:Int) == (h:Int))=false):=by
          by_cases e1:a=f
          · by_cases e2:b=g
            · have e3:c≠h:=fun e3=>hsame ⟨e1,e2,e3⟩
              exact .inr (.inr ⟨by simp only [beq_iff_eq];omega,by simp only [beq_iff_eq];omega,by simp;omega⟩)
            · exact .inr (.inl ⟨by simp only [beq_iff_eq];omega,by simp;omega⟩)
          · exact .inl (by simp;omega)
         clear HE HM HI he hsame
         rcases dn with d1|⟨d1,d2⟩|⟨d1,d2,d3⟩
         all_goals
          go_wp2_with (first|(go_at_call 106;(with_reducible refine yI (HEc.out _) ?_);rintro e w9 ⟨rfl,rfl⟩)|((with_reducible refine Qc ?_);first|((with_reducible refine Qp ?_);  ((with_reducible refine Qi ?hw ?_);case hw=>(simp only [Region.wanted,yielded,zC,zA,zB,zK,beq_self_eq_true];done)) )))
          exact ⟨⟨i+1,a,b,c,t ^^ n,rfl,rfl,rfl,rfl,by go_num,by omega,ha,hb,hc,by rw [← hN];congr 1;omega,hS⟩,by simp [intOf];omega⟩
 case rest =>
  clear hS hf hg hh HNs HE
  obtain ⟨f,g,h,t,rfl,rfl,rfl,rfl,hf,hg,hh,hN,hS⟩:=hcut
  have hm:=HM.out
  rw [hN] at hm
  clear HM hN
  simp only [iteRest] at hm
  have hfit:=HA.out.fit
  obtain ⟨S,M,H,wv,mS,mM,mH,mW,hSt,hMe,hHs,hW,hS⟩:=HA.out.open_ hS
  have hpf:PlFit m.s.pl:=by obtain ⟨_,_,P,_,_,_,_,_,_,_,mP,_,_,_,_,_,_,hP,_⟩:=hSt;exact hP.1
  have hmf:=hMe.1
  have hget:∀ w',Sat E I (PH.one D (.cells (Yn S M H (m.next:Int) wv m.calls) 117)::mS::mM::mH::mW::ms) w'→Calls Tryz.prog 107 #[vPt M,nv 1,nv f,nv g,nv h] w' fun e w''=>e=.returned (match m.me.get 1 f g h with|some r=>.tuple #[nv r,.bool true]|none=>.tuple #[.int .i64 0,.bool false])∧∃ p',MgAt D m p'∧Sat E I (p'::ms) w'':=fun w' h' =>
   (mget_any 1 f g h (by omega) hf hg hh hMe (h'.pick 2 rfl)).mono (by
     rintro e w'' ⟨rfl,mM',hMe',h''⟩
     replace h'':=Sat.back (m:=mM) 2 rfl h''
     simp only [zF,zG] at h''
     exact ⟨rfl,MgAt.close (m:=m) hfit hSt hMe' hHs hW h''⟩)
  unfold Yn at hS hget
  have HTop:=yH (fun (w':World) (hX':(Qa w').at X 0=some (vPt D)) (hR:MgR (Qa w') D m) (vl:Value) (hl:NumR (Qa w') vl [f,g,h])=>xtop_any hX' hR [f,g,h] vl hl (fun x hx=>by simp only [List.mem_cons,List.not_mem_nil,or_false] at hx;rcases hx with rfl|rfl|rfl <;> assumption) (by simp))
  generalize (m.s.topE [f,g,h]).1=v at *
  cases hg1:m.me.get 1 f g h with
  | some r =>
    rw [hg1] at hm
    cases hm
    have hr:=hmf.get hg1
    simp only [hg1] at hget
    have HG:=yH hget
    clear hget hg1 HTop HI hSt hMe hHs hW hmf hpf
    go_wp2_with (first|(go_at_call 107;(with_reducible refine yI (HG.out _ hS) ?_);clear hS;rintro e w ⟨rfl,p1,hA1,hS⟩;have HA1:=yH hA1;clear hA1)|(go_at_call 50;(with_reducible refine yI (HP.out _ _ _ hr) ?_);rintro e w9 ⟨rfl,rfl⟩)|((with_reducible refine Qc ?_);  ((with_reducible refine Qb ?_);(first|(refine ld1 0 hS rfl rfl ?ha rfl rfl rfl ?_;(case ha =>  exact Yf))|((refine' Ka (v:=_) hS rfl rfl ?ha rfl ?hb ?_);(case ha =>  exact Ky );(case hb=>assumption)));(try simp only [Act.put,zE,zF,zG]))))
    go_ret
    exact ⟨rfl,hs,(fun r' e=>by cases e;exact Kw hr _),p1,HA1.out,hS⟩
  | none =>
    rw [hg1] at hm
    simp only [hg1] at hget
    have HG:=yH hget
    have HSf:=yH (fun (w':World) (hX':(Qa w').at X 0=some (vPt D)) (hR:MgR (Qa w') D m)=>xsplit_any hX' hR f v hf)
    have HSg:=yH (fun (w':World) (hX':(Qa w').at X 0=some (vPt D)) (hR:MgR (Qa w') D m)=>xsplit_any hX' hR g v hg)
    have HSh:=yH (fun (w':World) (hX':(Qa w').at X 0=some (vPt D)) (hR:MgR (Qa w') D m)=>xsplit_any hX' hR h v hh)
    obtain ⟨bf0,bf1⟩:=splitI_lt hpf hf v
    obtain ⟨bg0,bg1⟩:=splitI_lt hpf hg v
    obtain ⟨bh0,bh1⟩:=splitI_lt hpf hh v
    generalize (m.s.splitI f v).1=f0 at *
    generalize (m.s.splitI f v).2=f1 at *
    generalize (m.s.splitI g v).1=g0 at *
    generalize (m.s.splitI g v).2=g1 at *
    generalize (m.s.splitI h v).1=h0 at *
    generalize (m.s.splitI h v).2=h1 at *
    clear hget hg1 hSt hMe hHs hW hmf hpf
    cases k1:G.Mg.ite k m f0 g0 h0 with
    | none=>rw [k1] at hm;cases hm
    | some q1 =>
      obtain ⟨m1,r1⟩:=q1
      rw [k1] at hm
      have H1:=yH (HI.out m m1 f0 g0 h0 r1 k1 hs bf0 bg0 bh0 E I)
      clear k1
      cases r1 with
      | stop st =>
        cases hm
        simp only [endE] at H1
        clear HI
        go_wp2_with (first|(go_at_call 107;(with_reducible refine yI (HG.out _ hS) ?_);clear hS HG;rintro e w ⟨rfl,p1,hA1,hS⟩;have HA1:=yH hA1;clear hA1)|(go_at_call 52;(with_reducible refine yI (HTop.out _ (PH.at_le hS.ile hX) (HA1.out.read.le (hS.mle (k:=1) rfl)) _ (NumR.three (hS.mle (k:=0) rfl))) ?_);rintro e w9 ⟨rfl,hb⟩;replace hS:=(hS.below_ hb).drop;clear hb)|(go_at_call 53;first|((with_reducible refine yI (HSf.out _ (PH.at_le hS.ile hX) (HA1.out.read.le (hS.mle (k:=0) rfl))) ?_);rintro e w9 ⟨rfl,hb⟩;replace hS:=hS.below_ hb;clear hb)|((with_reducible refine yI (HSg.out _ (PH.at_le hS.ile hX) (HA1.out.read.le (hS.mle (k:=0) rfl))) ?_);rintro e w9 ⟨rfl,hb⟩;replace hS:=hS.below_ hb;clear hb)|((with_reducible refine yI (HSh.out _ (PH.at_le hS.ile hX) (HA1.out.read.le (hS.mle (k:=0) rfl))) ?_);rintro e w9 ⟨rfl,hb⟩;replace hS:=hS.below_ hb;clear hb))|(go_at_call 64;(with_reducible refine yI (H1.out _ _ _ hX HA1.out hS) ?_);clear hS;rintro e w ⟨rfl,hs1,hr1,p2,hA2,hS⟩;have HA2:=yH hA2;clear hA2)|((with_reducible refine Qc ?_);first|((with_reducible refine Qb ?_);(first|(refine ld1 0 hS rfl rfl ?ha rfl rfl rfl ?_;(case ha =>  exact Yf))|((refine' Ka (v:=_) hS rfl rfl ?ha rfl ?hb ?_);(case ha =>  exact Ky );(case hb=>assumption)));(try simp only [Act.put,zE,zF,zG]))|((with_reducible refine Kq ?_);(refine' bsl hS ?hr ?_);(case hr=>(intro w0;go_simp;rfl));clear hS;intro XS w hS;(try simp only [Act.eval,zD,zC,zA,zB,zJ,Value.cells] at hS);(try simp only [Act.put,zE,zF,zG]))))
        refine ⟨rfl,?_⟩
        exact And.intro rfl ⟨hs1,(fun _ e=>by cases e),p2,HA2.out,hS⟩
      | ok lo =>
        simp only [G.Step.then] at hm
        simp only [endE] at H1
        cases k2:G.Mg.ite k m1 f1 g1 h1 with
        | none=>rw [k2] at hm;cases hm
        | some q2 =>
          obtain ⟨m2,r2⟩:=q2
          rw [k2] at hm
          have H2:=yH (fun hs1=>HI.out m1 m2 f1 g1 h1 r2 k2 hs1 bf1 bg1 bh1 E I)
          clear k2 HI
          cases r2 with
          | stop st =>
            cases hm
            simp only [endE] at H2
            go_wp2_with (first|(go_at_call 107;(with_reducible refine yI (HG.out _ hS) ?_);clear hS HG;rintro e w ⟨rfl,p1,hA1,hS⟩;have HA1:=yH hA1;clear hA1)|(go_at_call 52;(with_reducible refine yI (HTop.out _ (PH.at_le hS.ile hX) (HA1.out.read.le (hS.mle (k:=1) rfl)) _ (NumR.three (hS.mle (k:=0) rfl))) ?_);rintro e w9 ⟨rfl,hb⟩;replace hS:=(hS.below_ hb).drop;clear hb)|(go_at_call 53;first|((with_reducible refine yI (HSf.out _ (PH.at_le hS.ile hX) (HA1.out.read.le (hS.mle (k:=0) rfl))) ?_);rintro e w9 ⟨rfl,hb⟩;replace hS:=hS.below_ hb;clear hb)|((with_reducible refine yI (HSg.out _ (PH.at_le hS.ile hX) (HA1.out.read.le (hS.mle (k:=0) rfl))) ?_);rintro e w9 ⟨rfl,hb⟩;replace hS:=hS.below_ hb;clear hb)|((with_reducible refine yI (HSh.out _ (PH.at_le hS.ile hX) (HA1.out.read.le (hS.mle (k:=0) rfl))) ?_);rintro e w9 ⟨rfl,hb⟩;replace hS:=hS.below_ hb;clear hb))|(go_at_call 64;first|((with_reducible refine yI (H1.out _ _ _ hX HA1.out hS) ?_);clear hS;rintro e w ⟨rfl,hs1,hr1,p2,hA2,hS⟩;have HA2:=yH hA2;have Hs1:=yH hs1;clear hA2 hs1 HA1 H1)|((with_reducible refine yI (H2.out Hs1.out _ _ _ hX HA2.out hS) ?_);clear hS;rintro e w ⟨rfl,hs2,hr2,p3,hA3,hS⟩;have HA3:=yH hA3;clear hA3))|((with_reducible refine Qc ?_);first|((with_reducible refine Qb ?_);(first|(refine ld1 0 hS rfl rfl ?ha rfl rfl rfl ?_;(case ha =>  exact Yf))|((refine' Ka (v:=_) hS rfl rfl ?ha rfl ?hb ?_);(case ha =>  exact Ky );(case hb=>assumption)));(try simp only [Act.put,zE,zF,zG]))|((with_reducible refine Kq ?_);(refine' bsl hS ?hr ?_);(case hr=>(intro w0;go_simp;rfl));clear hS;intro XS w hS;(try simp only [Act.eval,zD,zC,zA,zB,zJ,Value.cells] at hS);(try simp only [Act.put,zE,zF,zG]))))
            refine ⟨rfl,?_⟩
            exact And.intro rfl ⟨hs2,(fun _ e=>by cases e),p3,HA3.out,hS⟩
          | ok hi =>
            simp only at hm
            simp only [endE] at H2
            cases k3:m2.mk_ v (lo:Int) (hi:Int) with
            | none=>rw [k3] at hm;cases hm
            | some q3 =>
              obtain ⟨m3,r3⟩:=q3
              rw [k3] at hm
              have H3:=yH (fun (p:PH) (w:World) (hlo:(lo:Int)<4611686018427387904) (hhi:(hi:Int)<4611686018427387904) (hs2:Sane m2.s) (hA:MgAt D m2 p) (hS:Sat E I (p::ms) w)=>xmk_any v (lo:Int) (hi:Int) k3 hX (by omega) (by omega) hs2.tab hA hS)
              have H4:=yH (fun (hlo:(lo:Int)<4611686018427387904) (hs2:Sane m2.s)=>hs2.mk_ k3 hlo)
              clear k3
              cases r3 with
              | stop st =>
                cases hm
                simp only [endE] at H3
                go_wp2_with (first|(go_at_call 107;(with_reducible refine yI (HG.out _ hS) ?_);clear hS HG;rintro e w ⟨rfl,p1,hA1,hS⟩;have HA1:=yH hA1;clear hA1)|(go_at_call 52;(with_reducible refine yI (HTop.out _ (PH.at_le hS.ile hX) (HA1.out.read.le (hS.mle (k:=1) rfl)) _ (NumR.three (hS.mle (k:=0) rfl))) ?_);rintro e w9 ⟨rfl,hb⟩;replace hS:=(hS.below_ hb).drop;clear hb)|(go_at_call 53;first|((with_reducible refine yI (HSf.out _ (PH.at_le hS.ile hX) (HA1.out.read.le (hS.mle (k:=0) rfl))) ?_);rintro e w9 ⟨rfl,hb⟩;replace hS:=hS.below_ hb;clear hb)|((with_reducible refine yI (HSg.out _ (PH.at_le hS.ile hX) (HA1.out.read.le (hS.mle (k:=0) rfl))) ?_);rintro e w9 ⟨rfl,hb⟩;replace hS:=hS.below_ hb;clear hb)|((with_reducible refine yI (HSh.out _ (PH.at_le hS.ile hX) (HA1.out.read.le (hS.mle (k:=0) rfl))) ?_);rintro e w9 ⟨rfl,hb⟩;replace hS:=hS.below_ hb;clear hb))|(go_at_call 64;first|((with_reducible refine yI (H1.out _ _ _ hX HA1.out hS) ?_);clear hS;rintro e w ⟨rfl,hs1,hr1,p2,hA2,hS⟩;have hl1:=hr1 _ rfl;have HA2:=yH hA2;have Hs1:=yH hs1;clear hA2 hs1 HA1 H1 hr1)|((with_reducible refine yI (H2.out Hs1.out _ _ _ hX HA2.out hS) ?_);clear hS;rintro e w ⟨rfl,hs2,hr2,p3,hA3,hS⟩;have hl2:=hr2 _ rfl;have HA3:=yH hA3;have Hs2:=yH hs2;clear hA3 hs2 HA2 H2 hr2))|(go_at_call 63;(with_reducible refine yI (H3.out _ _ (by omega) (by omega) Hs2.out HA3.out hS) ?_);clear hS;rintro e w ⟨rfl,p4,hA4,hS⟩;have HA4:=yH hA4;clear hA4)|((with_reducible refine Qc ?_);first|((with_reducible refine Qb ?_);(first|(refine ld1 0 hS rfl rfl ?ha rfl rfl rfl ?_;(case ha =>  exact Yf))|((refine' Ka (v:=_) hS rfl rfl ?ha rfl ?hb ?_);(case ha =>  exact Ky );(case hb=>assumption)));(try simp only [Act.put,zE,zF,zG]))|((with_reducible refine Kq ?_);(refine' bsl hS ?hr ?_);(case hr=>(intro w0;go_simp;rfl));clear hS;intro XS w hS;(try simp only [Act.eval,zD,zC,zA,zB,zJ,Value.cells] at hS);(try simp only [Act.put,zE,zF,zG]))))
                refine ⟨rfl,?_⟩
                exact And.intro rfl ⟨(H4.out (by omega) Hs2.out).1,(fun _ e=>by cases e),p4,HA4.out,hS⟩
              | ok r =>
                cases hm
                simp only [endE] at H3
                go_wp2_with (first|(go_at_call 107;(with_reducible refine yI (HG.out _ hS) ?_);clear hS HG;rintro e w ⟨rfl,p1,hA1,hS⟩;have HA1:=yH hA1;clear hA1)|(go_at_call 52;(with_reducible refine yI (HTop.out _ (PH.at_le hS.ile hX) (HA1.out.read.le (hS.mle (k:=1) rfl)) _ (NumR.three (hS.mle (k:=0) rfl))) ?_);rintro e w9 ⟨rfl,hb⟩;replace hS:=(hS.below_ hb).drop;clear hb)|(go_at_call 53;first|((with_reducible refine yI (HSf.out _ (PH.at_le hS.ile hX) (HA1.out.read.le (hS.mle (k:=0) rfl))) ?_);rintro e w9 ⟨rfl,hb⟩;replace hS:=hS.below_ hb;clear hb)|((with_reducible refine yI (HSg.out _ (PH.at_le hS.ile hX) (HA1.out.read.le (hS.mle (k:=0) rfl))) ?_);rintro e w9 ⟨rfl,hb⟩;replace hS:=hS.below_ hb;clear hb)|((with_reducible refine yI (HSh.out _ (PH.at_le hS.ile hX) (HA1.out.read.le (hS.mle (k:=0) rfl))) ?_);rintro e w9 ⟨rfl,hb⟩;replace hS:=hS.below_ hb;clear hb))|(go_at_call 64;first|((with_reducible refine yI (H1.out _ _ _ hX HA1.out hS) ?_);clear hS;rintro e w ⟨rfl,hs1,hr1,p2,hA2,hS⟩;have hl1:=hr1 _ rfl;have HA2:=yH hA2;have Hs1:=yH hs1;clear hA2 hs1 HA1 H1 hr1)|((with_reducible refine yI (H2.out Hs1.out _ _ _ hX HA2.out hS) ?_);clear hS;rintro e w ⟨rfl,hs2,hr2,p3,hA3,hS⟩;have hl2:=hr2 _ rfl;have HA3:=yH hA3;have Hs2:=yH hs2;clear hA3 hs2 HA2 H2 hr2))|(go_at_call 63;(with_reducible refine yI (H3.out _ _ (by omega) (by omega) Hs2.out HA3.out hS) ?_);clear hS;rintro e w ⟨rfl,p4,hA4,hS⟩;have hfit4:=hA4.fit;have hr4:=(H4.out (by omega) Hs2.out).2 _ rfl;refine Veil.out ?_;obtain ⟨S4,M4,H4',wv4,mS4,mM4,mH4,mW4,hSt4,hMe4,hHs4,hW4,hS⟩:=hA4.open_ hS;unfold Yn at hS;refine ⟨?_⟩;have HA4:=yH hMe4;have Hc4:=yH (fun (mM':PH) (me':G.Memo) (w':World) (a:Yj M4 me' mM') (b:Sat E I (PH.one D (.cells (Yn S4 M4 H4' (m3.next:Int) wv4 m3.calls) 117)::mS4::mM'::mH4::mW4::ms) w')=>MgAt.close (m:={ m3 with me:=me' }) hfit4 hSt4 a hHs4 hW4 b);clear hA4 hfit4 hSt4 hMe4 hHs4 hW4)|(go_at_call 108;(with_reducible refine yI (mput_any 1 f g h r (by omega) hf hg hh hr4 HA4.out (hS.pick 2 rfl)) ?_);clear hS;rintro e w ⟨rfl,mM5,hMe5,hS⟩;replace hS:=Sat.back (m:=mM4) 2 rfl hS;simp only [zF,zG] at hS;have HM5:=yH hMe5;clear hMe5)|(go_at_call 50;(with_reducible refine yI (HP.out _ _ _ hr4) ?_);rintro e w9 ⟨rfl,rfl⟩)|((with_reducible refine Qc ?_);first|((with_reducible refine Qb ?_);(first|(refine ld1 0 hS rfl rfl ?ha rfl rfl rfl ?_;(case ha =>  exact Yf))|((refine' Ka (v:=_) hS rfl rfl ?ha rfl ?hb ?_);(case ha =>  exact Ky );(case hb=>assumption)));(try simp only [Act.put,zE,zF,zG]))|((with_reducible refine Kq ?_);(refine' bsl hS ?hr ?_);(case hr=>(intro w0;go_simp;rfl));clear hS;intro XS w hS;(try simp only [Act.eval,zD,zC,zA,zB,zJ,Value.cells] at hS);(try simp only [Act.put,zE,zF,zG]))))
                go_ret
                exact ⟨rfl,(H4.out (by omega) Hs2.out).1,Kw hr4 _,Hc4.out _ _ _ HM5.out hS⟩
theorem xite_any (X D:Nat):∀ k,IteC X D k
 | 0=>fun m m' f g h rs hm=>by cases hm
 | k+1=>xite_step X D k (xite_any X D k)
end
end Go.Proofs.YtidamcdklgfogaaGreat
