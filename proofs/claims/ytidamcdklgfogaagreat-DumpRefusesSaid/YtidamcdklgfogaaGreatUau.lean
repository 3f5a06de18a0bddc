import Derived.Test.YtidamcdklgfogaaGreatUat
set_option linter.unusedVariables false
set_option linter.unusedSimpArgs false
set_option maxRecDepth 100000
set_option maxHeartbeats 8000000
namespace Go.Proofs.YtidamcdklgfogaaGreat
section
open Go.RowKit
theorem run_inv{α:Type}{Inv:G.Mg->Prop}{F:G.Mg->G.Step α}(hK:KeepsM Inv)(hstep:∀m m' rs,Inv m->F m=some (m',rs)->Inv m'):∀(k:Nat) (room:Bool) (m m':G.Mg) (res:α ⊕ Nat),Inv m->G.Mg.run F k room m=some (m',res) ->
  Inv m'/\(∀f,res=.inl f->∃m0,Inv m0/\F m0=some (m',.ok f))/\∀e,res=.inr e->∃m0,Inv m0/\F m0=some (m',.stop (.err e))
 | 0,room,m,m',res,hI,h=>by cases h
 | k+1,room,m,m',res,hI,h=>by
   rw[run_succ] at h;cases hF:F m with
   | none=>rw[hF] at h;cases h
   | some x =>
     obtain⟨m2,rs⟩:=x;rw[hF] at h;have hI2:=hstep _ _ _ hI hF;cases rs with
     | ok a=>cases h;exact⟨hI2,λf e=>by cases e;exact⟨m,hI,hF⟩,λe h=>by cases h⟩
     | stop st =>
       cases st with
       | event ev =>
         simp only at h;cases hh:m2.happen ev with
         | none=>rw[hh] at h;cases h
         | some m3 =>
           rw[hh] at h;exact run_inv hK hstep k false m3 m' res (hK.happen hI2 hh) h
       | err er =>
         simp only at h;split at h
         . cases hh:m2.collect with
           | none=>rw[hh] at h;cases h
           | some x =>
             obtain⟨m3,kk⟩:=x;rw[hh] at h;have hI3:Inv m3:=by
              unfold G.Mg.collect at hh;cases hc:m2.s.collect with
              | none=>rw[hc] at hh;cases hh
              | some y=>rw[hc] at hh;cases hh;exact hK.coll _ _ _ hI2 hc
             exact run_inv hK hstep k true m3 m' res hI3 h
         . cases h;exact⟨hI2,(λf e=>by cases e),λe h=>by cases h;exact⟨m,hI,hF⟩⟩
def doP(X:Nat)(P:PH->Prop)(q':PH):Prop:=∃q v,Bd q' [PH.one X (.cells #[v] 102),q]/\P q
def doQ(X:Nat)(Q:Nat->PH->Prop)(f:Nat)(q':PH):Prop:=∃q,Bd q' [PH.one X (.cells #[nv f] 102),q]/\Q f q
theorem perm_a(a b c:PH)(ms:List PH):List.Perm (a::b::c::ms) (c::b::a::ms):=by
 have h1:List.Perm (a::b::c::ms) (b::a::c::ms):=List.Perm.swap _ _ _;have h2:List.Perm (b::a::c::ms) (b::c::a::ms):=List.Perm.cons _ (List.Perm.swap _ _ _);have h3:List.Perm (b::c::a::ms) (c::b::a::ms):=List.Perm.swap _ _ _;exact (h1.trans h2).trans h3
theorem do1_op{fid D X3 X6:Nat}{cs:Array Value}{J0 J1:PH}{Inv:G.Mg->Prop}{F:G.Mg->G.Step Nat}{P:PH->Prop}{Q:Nat->PH->Prop}(hop:OpC fid cs D J0 Inv F nv P Q)(hJ:J0.le J1)(h3:J1.at X3 0=some (.func (.func fid) #[] cs)) :
  OpC 102 #[vPt X3,vPt X6] D J1 Inv F (λ_=>.tuple #[]) (doP X6 P) (doQ X6 Q) where
 enter:=λargs w=>by kernel_rfl
 run:=by
  intro E I p q' ms w m m' rs X hJ1 hI hF hX hA hP' hS;obtain⟨q,v,hb,hq⟩:=hP';have hS1:=Sat.unpack hb (hS.pick 1 rfl);simp only[List.cons_append,List.nil_append,List.eraseIdx_cons_succ,List.eraseIdx_cons_zero] at hS1;have hent:=hop.enter;have HO:=yH (λ(w:World) (h:Sat E I (p::q::PH.one X6 (.cells #[v] 102)::ms) w)=>hop.run E I p q _ w m m' rs X (hJ.trans hJ1) hI hF hX hA hq h);have i3:I.at X3 0=some (.func (.func fid) #[] cs):=PH.at_le hJ1 h3;have hS2:=hS1.perm (perm_a _ _ _ _);clear hS hS1 hb hq hJ hJ1 hI hF hA h3 hop hX;have hS:=hS2;clear hS2;show Calls _ _ #[vPt X,vPt X3,vPt X6] _ _
  cases rs with
  | ok a =>
    simp only[Yl] at HO;go_enter Tryz.func102,Tryz.ntmps102;go_wp2_with (first|((with_reducible refine yI (HO.out _ hS) ?_);clear hS;rintro e w ⟨rfl,p1,q1,hA1,hQ1,hS⟩;have HA1:=yH hA1;have HQ1:=yH hQ1;clear hA1 hQ1)|(refine aL ?_)|(refine aS ?_;clear hS;intro w hS))
    go_end0
    obtain⟨q2,hb2,hS2⟩:=Sat.pack [PH.one X6 (.cells #[nv a] 102),q1] (hS.perm (perm_a _ _ _ _));exact⟨rfl,p1,q2,HA1.out,⟨q1,hb2,HQ1.out⟩,hS2.perm (List.Perm.swap _ _ _)⟩
  | stop st =>
    simp only[Yl] at HO;go_enter Tryz.func102,Tryz.ntmps102;go_wp2_with (first|((with_reducible refine yI (HO.out _ hS) ?_);clear hS;rintro e w ⟨rfl,p1,q1,hA1,hQ1,hS⟩;have HA1:=yH hA1;have HQ1:=yH hQ1;clear hA1 hQ1)|(refine aL ?_))
    refine⟨rfl,?_⟩;obtain⟨q2,hb2,hS2⟩:=Sat.pack [PH.one X6 (.cells #[v] 102),q1] (hS.perm (perm_a _ _ _ _));exact And.intro rfl ⟨p1,q2,HA1.out,⟨q1,v,hb2,HQ1.out⟩,hS2.perm (List.Perm.swap _ _ _)⟩
theorem mdo_any{fid D:Nat}{cs:Array Value}{J0:PH}{Inv:G.Mg->Prop}{F:G.Mg->G.Step Nat}{P:PH->Prop}{Q:Nat->PH->Prop}(hop:OpC fid cs D J0 Inv F nv P Q)(hK:KeepsM Inv)(hstep:∀m m' rs,Inv m->F m=some (m',rs)->Inv m')(hlt:∀m m' f,Inv m->F m=some (m',.ok f)->f<4611686018427387904)(hne:∀m m',Inv m->F m≠some (m',.stop (.err 0)))
  {E w:World}{I p q:PH}{ms:List PH}{m m':G.Mg}{h er:Nat}(hJ0:J0.le I)(hI:Inv m)(hm:m.do_ F=some (m',h,er))(hA:MgAt D m p)(hq:P q)(hS:Sat E I (p::q::ms) w) :
  Calls Tryz.prog 60 #[vPt D,.func (.func fid) #[] cs] w λe w'=>e=.returned (.tuple #[nv h,nv er])/\∃p',MgAt D m' p'/\Sat E I (p'::ms) w':=by
 have hnf:∀W:World,(binOp .eql 122 (.func (.func fid) #[] cs) .nilFunc).run Tryz.prog W=.ok (.bool false) W:=λ_=>by kernel_rfl
 have hmf:∀(fn:Fn) (first cap:Array Value) (w:World),(Instr.makeFunc fn first cap).run Tryz.prog w=.ok (.func fn first cap) w:=λ_ _ _ _=>rfl
 unfold G.Mg.do_ at hm;cases hr:G.Mg.run F G.fuel false m with
 | none=>rw[hr] at hm;cases hm
 | some x =>
   obtain⟨m1,res⟩:=x;rw[hr] at hm;obtain⟨hI1,hres,herr⟩:=run_inv hK hstep _ _ _ _ _ hI hr;have HR:Hid (∀(w:World) (X3 X6:Nat),Sat E I (PH.one X6 (.cells #[.int .i64 0] 102)::PH.one X3 (.cells #[.func (.func fid) #[] cs] 122)::p::q::ms) w ->
     Calls Tryz.prog 92 #[vPt D,.func (.func 102) #[] #[vPt X3,vPt X6]] w λe w'=>e=.returned (runE res)/\∃p1 v,MgAt D m1 p1/\(∀f,res=.inl f->v=nv f)/\Sat E I (PH.one X6 (.cells #[v] 102)::PH.one X3 (.cells #[.func (.func fid) #[] cs] 122)::p1::ms) w'):=by
    refine yH λw X3 X6 h=>?_
    obtain⟨J,lJ,mJ,h2,back⟩:=(h.perm (List.Perm.swap _ _ _)).ice;obtain⟨q',hb,h3⟩:=Sat.pack [PH.one X6 (.cells #[.int .i64 0] 102),q] (h2.perm (List.Perm.cons _ (List.Perm.swap _ _ _)));refine (mrun_any (do1_op (X3:=X3) (X6:=X6) hop (hJ0.trans lJ) (PH.at_le mJ (Qb rfl))) hK hstep (PH.le.refl J) hI hr hA ⟨q,_,hb,hq⟩ (h3.perm (List.Perm.swap _ _ _))).mono ?_;rintro e w' ⟨rfl,p1,q1,hA1,hQ1,h4⟩;have h5:=h4.perm (List.Perm.swap _ _ _);cases res with
    | inl f =>
      obtain⟨q2,hb2,_⟩:=hQ1;have h6:=Sat.unpack hb2 h5;simp only[List.cons_append,List.nil_append] at h6;exact⟨rfl,p1,_,hA1,(λf' e=>by cases e;rfl),(back _ _ (h6.perm (List.Perm.swap _ _ _)).drop).perm (List.Perm.swap _ _ _)⟩
    | inr e2 =>
      obtain⟨q2,v,hb2,_⟩:=hQ1;have h6:=Sat.unpack hb2 h5;simp only[List.cons_append,List.nil_append] at h6;exact⟨rfl,p1,v,hA1,(λf' e=>by cases e),(back _ _ (h6.perm (List.Perm.swap _ _ _)).drop).perm (List.Perm.swap _ _ _)⟩
   clear hop hJ0 hq hA hr;cases res with
   | inr e2 =>
     cases hm;simp only[runE] at HR;by_cases he:er=0
     . obtain⟨m0,hI0,hF0⟩:=herr _ rfl
       rw[he] at hF0;exact absurd hF0 (hne _ _ hI0)
     have d1:((er:Int) != 0)=true:=by simp;omega
     clear hres herr hne hI1 hK hstep hlt hI he;go_enter Tryz.func60,Tryz.ntmps60;go_wp2_with (first|(go_at_call 92;(with_reducible refine yI (HR.out _ _ _ hS) ?_);clear hS;rintro e w ⟨rfl,p1,v1,hA1,hv1,hS⟩;have HA1:=yH hA1;clear hA1 hv1)|(refine aN 3 ?_;clear hS;intro X3 w hS)|(refine aN 6 ?_;clear hS;intro X6 w hS)|(refine aL ?_))
     go_ret2;exact⟨rfl,p1,HA1.out,hS.drop.drop⟩
   | inl f =>
     obtain⟨m0,hI0,hF0⟩:=hres f rfl;have hfl:=hlt _ _ _ hI0 hF0;have hnew:=hK.new _ hI1;simp only[runE] at HR;simp only at hm;clear hres herr hne hI1 hK hstep hlt hI hI0 hF0;cases his:m1.s.is (f:Int) with
     | false =>
       rw[his] at hm;simp only[jFa,jOb,jEa,jIa] at hm;obtain⟨rfl,rfl,rfl⟩:=hm;go_enter Tryz.func60,Tryz.ntmps60;go_wp2_with (first|(go_at_call 92;(with_reducible refine yI (HR.out _ _ _ hS) ?_);clear hS;rintro e w ⟨rfl,p1,v1,hA1,hv1,hS⟩;have HA1:=yH hA1;have HV1:=yH (hv1 f rfl);clear hA1 hv1)|(refine aN 3 ?_;clear hS;intro X3 w hS)|(refine aN 6 ?_;clear hS;intro X6 w hS)|(refine aL ?_))
       rw[HV1.out] at hS;obtain⟨I1,_,lX,hS1,bX⟩:=hS.ice;obtain⟨I2,l2,lP,hS2,bP⟩:=(hS1.pick 1 rfl).ice;simp only[List.eraseIdx_cons_succ,List.eraseIdx_cons_zero] at hS2 bP;have iX:I2.at X6 0=some (nv f):=PH.at_le l2 (PH.at_le lX (Qb rfl));obtain⟨_,S,M,H,wv,r0,_,_,_,_,_,rS,_⟩:=HA1.out.read.le lP;have HIs:=yH (λ(w':World) (h:I2.le (Qa w'))=>sis_any (rS.le h) (f:Int) (by omega));rw[his] at HIs;clear lX l2 lP hS1 hS rS HR;refine Qf [[],[0],[0,1],[0,1,2],[],[0,1,2,3,4],[0,1,2,3,4,5]] E I2 _
        [λv _=>v=vPt D,λv _=>v=vPt D,λv _=>v=.pointer (some ⟨D,0,none⟩),λv _=>v=vPt S,λv _=>v=nv f,λv _=>v=.bool false,λv _=>v=.bool true] []
        (λ_ _ _ ns=>ns=PH.one X3 (.cells #[.func (.func fid) #[] cs] 122)::ms) (by kernel_rfl) (by kernel_rfl) (by decide) hS2 rfl ?last (λ_ _ _ _ _ _ h=>h) (λ_ _ _ _ _ _ h=>h) ?plain ?step ?fin
       case last=>exact bL
       case plain=>(repeat' (first|exact trivial|apply And.intro)) <;>  (refine .inr ?_;intro s vals J bs w hstop hg hJ hS hG;clear hG;refine bS ?_;intro K HK;(first|(refine bJ ?_)|(go_wp2_with (first|(go_at_call 103;(with_reducible refine bB hS (HIs.out _ (PH.le.trans hJ hS.ile)) ?_);clear hS;intro w2 hS))));exact bO)
       case step=>trivial
       case fin =>
        intro vals J9 bs w hJ hg hS hG;have hG:bs=_:=hG;subst hG;have hS:=bX _ _ (bP _ _ (hS.less hJ));clear iX r0 hJ hS2 bX bP;refine bH ?_;clear hg;go_wp2_with fail
        go_ret2;exact⟨rfl,p1,HA1.out,(hS.drop.perm (kOb _)).sub (.cons_cons _ (.cons _ (kBb _)))⟩
     | true =>
       rw[his] at hm;simp only[jEb] at hm;cases hgv:m1.give f with
       | none=>rw[hgv] at hm;cases hm
       | some y =>
         obtain⟨m2,h2⟩:=y;rw[hgv] at hm;simp only[Option.map_some,jEa,jIa] at hm;obtain⟨rfl,rfl,rfl⟩:=hm;have HG:=yH (λ(p:PH) (ms':List PH) (w:World) (hA:MgAt D m1 p) (h:Sat E I (p::ms') w)=>give_any hgv (by omega) hnew hA h);clear hgv hnew;go_enter Tryz.func60,Tryz.ntmps60;go_wp2_with (first|(go_at_call 92;(with_reducible refine yI (HR.out _ _ _ hS) ?_);clear hS;rintro e w ⟨rfl,p1,v1,hA1,hv1,hS⟩;have HA1:=yH hA1;have HV1:=yH (hv1 f rfl);clear hA1 hv1)|(refine aN 3 ?_;clear hS;intro X3 w hS)|(refine aN 6 ?_;clear hS;intro X6 w hS)|(refine aL ?_))
         rw[HV1.out] at hS;obtain⟨I1,_,lX,hS1,bX⟩:=hS.ice;obtain⟨I2,l2,lP,hS2,bP⟩:=(hS1.pick 1 rfl).ice;simp only[List.eraseIdx_cons_succ,List.eraseIdx_cons_zero] at hS2 bP;have iX:I2.at X6 0=some (nv f):=PH.at_le l2 (PH.at_le lX (Qb rfl));obtain⟨_,S,M,H,wv,r0,_,_,_,_,_,rS,_⟩:=HA1.out.read.le lP;have HIs:=yH (λ(w':World) (h:I2.le (Qa w'))=>sis_any (rS.le h) (f:Int) (by omega));rw[his] at HIs;clear lX l2 lP hS1 hS rS HR;refine Qf [[],[0],[0,1],[0,1,2],[],[0,1,2,3,4],[0,1,2,3,4,5]] E I2 _
          [λv _=>v=vPt D,λv _=>v=vPt D,λv _=>v=.pointer (some ⟨D,0,none⟩),λv _=>v=vPt S,λv _=>v=nv f,λv _=>v=.bool true,λv _=>v=.bool false] []
          (λ_ _ _ ns=>ns=PH.one X3 (.cells #[.func (.func fid) #[] cs] 122)::ms) (by kernel_rfl) (by kernel_rfl) (by decide) hS2 rfl ?last (λ_ _ _ _ _ _ h=>h) (λ_ _ _ _ _ _ h=>h) ?plain ?step ?fin
         case last=>exact bL
         case plain=>(repeat' (first|exact trivial|apply And.intro)) <;>  (refine .inr ?_;intro s vals J bs w hstop hg hJ hS hG;clear hG;refine bS ?_;intro K HK;(first|(refine bJ ?_)|(go_wp2_with (first|(go_at_call 103;(with_reducible refine bB hS (HIs.out _ (PH.le.trans hJ hS.ile)) ?_);clear hS;intro w2 hS))));exact bO)
         case step=>trivial
         case fin =>
          intro vals J9 bs w hJ hg hS hG;have hG:bs=_:=hG;subst hG;have hS:=bX _ _ (bP _ _ (hS.less hJ));clear iX r0 hJ hS2 bX bP;refine bH ?_;clear hg;go_wp2_with (first|(go_at_call 104;(with_reducible refine bD (HG.out _ _ _ HA1.out (hS.pick 1 rfl)) ?_);clear hS;intro w p2 HA2 hS)|(refine aL ?_))
          go_ret2;simp only[List.eraseIdx_cons_succ,List.eraseIdx_cons_zero] at hS;exact⟨rfl,p2,HA2.out,hS.sub (.cons_cons _ (.cons _ (.cons _ (kBb _))))⟩
end
section
open Go.RowKit
theorem wpStepZ_mono{Z:List PanicEntry->World->Prop}{P:Program}{ops:List Oper}{o:Oper}{K K':Act->World->Prop}{a:Act}{w:World}(h:wpStepZ Z P ops o K a w)(hk:∀a w,K a w->K' a w):wpStepZ Z P ops o K' a w:=by
 unfold wpStepZ at h ⊢;split
 . rename_i hw;rw[jAb hw] at h;exact Oper.wp_mono hk h
 . rename_i hw;rw[jAa hw] at h;exact hk _ _ h
theorem Kf(Z:List PanicEntry->World->Prop){P:Program}{id:Nat}{ops:List Oper}{Q:Exit->Act->World->Prop}{a:Act}{w:World}(A:List (List Nat))(E:World)(I:PH)(ms:List PH)(Ds:List Fct)
  (c:List Nat)(G:Nat->(Nat->Value)->PH->List PH->Prop)
  (hm:P.follows .mixedOrders=true)(chk:ogOk ops A a.tmps.size=true)(hc:chainOk A [] c ops.length=true)
  (hS:Sat E I ms w)(hG:G 0 (λ_=>undef) I ms)(lasting:Lasting Ds)
  (gst:∀s vals vals' J ns,(∀j∈c.take s,vals j=vals' j)->G s vals J ns->G s vals' J ns)(gle:∀s vals J J' ns,PH.le J J'->G s vals J ns->G s vals J' ns)
  (plain:Below_ (λk=>c.contains k=true\/∀(s:Nat) (vals:Nat->Value) (J:PH) (bs:List PH) (w':World),s<=stopAt A c k->Given (λj=>Facts Ds j (vals j) J) (A.getD k [])->I.le J->Sat E J bs w'->G s vals J bs ->
    Veil0 (wpStepZ Z P ops (Qd ops k) (λa' w''=>a'.defers=a.defers/\∃J':PH,J.le J'/\Sat E J' bs w''/\Facts Ds k (Qk (Qd ops k) a') J') (Qc ops vals a k) w')) ops.length)
  (step:Below_ (λs=>∀(vals:Nat->Value) (J:PH) (bs:List PH) (w':World),Given (λj=>Facts Ds j (vals j) J) (A.getD (c.getD s 0) [])->I.le J->Sat E J bs w'->G s vals J bs ->
    Veil0 (wpStepZ Z P ops (Qd ops (c.getD s 0)) (λa' w''=>a'.defers=a.defers/\∃(J':PH) (ns':List PH),J.le J'/\Sat E J' ns' w''/\Facts Ds (c.getD s 0) (Qk (Qd ops (c.getD s 0)) a') J'/\G (s+1) (upd vals (c.getD s 0) (Qk (Qd ops (c.getD s 0)) a')) J' ns') (Qc ops vals a (c.getD s 0)) w')) c.length)
  (hZ:∀c (b:Act) w',b.defers=a.defers->Z c w'->Q (.panic c) b w')
  (fin:∀(vals:Nat->Value) (J:PH) (bs:List PH) (w':World),I.le J->Below_ (λj=>Facts Ds j (vals j) J) ops.length->Sat E J bs w'->G c.length vals J bs->Veil0 (Q .normal (Qc ops vals a ops.length) w')) :
  (Code.region id ops.toArray true).wp P Q a w:=by
 unfold chainOk at hc;rw[jI] at hc;obtain⟨hc1,_⟩:=hc;have hc1':∀t,t<c.length->c.getD t 0<ops.length/\(∀u,u<c.length->t≠u->c.getD t 0≠c.getD u 0)/\(t≠0->c.getD (t-1) 0∈A.getD (c.getD t 0) []):=λt ht=>by
  have:=jTb.1 hc1 t (jVb.2 ht);simp only[jI,jPa,kFa,jRb] at this;refine⟨this.1.1,λu hu hne=>?_,λh0=>?_⟩
  . have h2:=jTb.1 this.1.2 u (jVb.2 hu)
    simp only[kFa,jRb,bne_iff_ne] at h2;rcases h2 with h2|h2
    . exact absurd h2 hne
    . exact h2
  . rcases this.2 with h2|h2
    . exact absurd h2 h0
    . simpa using h2
 have cmem:∀t,t<c.length->c.getD t 0∈c:=λt ht=>by
  rw[yD,yA ht];exact jWb ht
 have notc:∀k,k∉c->∀t,t<c.length->c.getD t 0≠k:=λk hk t ht e=>hk (e ▸ cmem t ht)
 refine region_ogZ Z A E I [] ms (Facts Ds) (λL vals J ns=>∃s,s<=c.length/\(∀t,t<c.length->(L (c.getD t 0)=true↔t<s))/\G s vals J ns) hm chk (by simpa using hS) ⟨0,jC _,λt ht=>by simp,hG⟩ (λi v I J hJ=>Facts.lasting lasting i v I J hJ) ?_ hZ ?_
 . intro k hk L vals J ns w' hLk hdown hanc hJ hs ⟨s,h1,h2,h3⟩
   by_cases hkc:k∈c
   . obtain⟨t,ht,rfl⟩:=kXb.1 hkc
     have eg:c[t]=c.getD t 0:=by rw[yD,yA ht];rfl
     rw[eg] at hLk hanc ⊢;have hst:s=t:=by
      have a1:¬t<s:=λh=>by rw[(h2 t ht).2 h] at hLk;cases hLk
      by_cases h0:t=0
      . omega
      . have a2:=(h2 (t-1) (by omega)).1 (hanc _ ((hc1' t ht).2.2 h0)).1
        omega
     subst hst;refine wpStepZ_mono (step.get s ht vals J ns w' (Given.of λj hj=>(hanc j hj).2) hJ (by simpa using hs) h3).out λa' w'' hpost=>?_
     obtain⟨p1,J',ns',p2,p3,p4,p5⟩:=hpost;refine⟨p1,J',ns',p2,by simpa using p3,p4,s+1,ht,λu hu=>?_,p5⟩;by_cases hus:u=s
     . subst hus;rw[Qq];simp
     . rw[Qw _ _ ((hc1' u hu).2.1 s ht hus),h2 u hu]
       omega
   . rcases plain.get k hk with h|h
     . exact absurd (by simpa using h) hkc
     . have hst:s<=stopAt A c k:=by
         rcases jYb (stopAt A c k) s with hlt|hge
         . exfalso
           have hlc:stopAt A c k<c.length:=by omega
           have:=hdown _ (hc1' _ hlc).1 ((h2 _ hlc).2 hlt) k (stopAt_mem hlc);rw[hLk] at this;cases this
         . exact hge
       refine wpStepZ_mono (h s vals J ns w' hst (Given.of λj hj=>(hanc j hj).2) hJ (by simpa using hs) h3).out λa' w'' hpost=>?_
       obtain⟨p1,J',p2,p3,p4⟩:=hpost;refine⟨p1,J',ns,p2,by simpa using p3,p4,s,h1,λt ht=>by rw[Qw _ _ (notc k hkc t ht)];exact h2 t ht,gst s vals _ J' ns (λj hj=>?_) (gle s vals J J' ns p2 h3)⟩;rw[Qw];rintro rfl;exact hkc (kY hj)
 . intro vals J ns w' hJ hD hs ⟨L,hL,s,h1,h2,h3⟩
   have hsl:s=c.length:=by
    rcases jYb s c.length with hlt|hge
    . have:=(h2 s hlt).1 (hL _ (hc1' s hlt).1)
      omega
    . omega
   subst hsl;have hB2:Below_ (λj=>Facts Ds j (vals j) J) ops.length:=by
    have:∀n,n<=ops.length->Below_ (λj=>Facts Ds j (vals j) J) n:=λn=>by
     induction n with
     | zero=>exact λ_=>trivial
     | succ n ih=>exact λhn=>⟨ih (by omega),hD n (by omega)⟩
    exact this _ (jBb _)
   exact (fin vals J ns w' hJ hB2 (by simpa using hs) h3).out
end
section
open Go.RowKit
theorem Sat.iceL:∀{bs:List PH} {E w:World} {I:PH} {ms:List PH},Sat E I (bs++ms) w->∃J:PH,I.le J/\(∀b∈bs,b.le J)/\Sat E J ms w/\∀w' ns,Sat E J ns w'->Sat E I (bs++ns) w'
 | [],E,w,I,ms,h=>⟨I,PH.le.refl _,(λb hb=>by cases hb),h,λ_ _ h=>h⟩
 | b::bs,E,w,I,ms,h=>by
   obtain⟨J,l1,l2,h2,back⟩:=Sat.ice (m:=b) (ms:=bs++ms) h;obtain⟨K,k1,k2,h3,back2⟩:=Sat.iceL h2;refine⟨K,l1.trans k1,λc hc=>?_,h3,λw' ns h'=>back _ _ (back2 _ _ h')⟩;rcases jBa.1 hc with rfl|hc
   . exact l2.trans k1
   . exact k2 c hc
structure DoOk (Inv:G.Mg->Prop) (F:G.Mg->G.Step Nat):Prop where
 step:∀m m' rs,Inv m->F m=some (m',rs)->Inv m'
 lt:∀m m' f,Inv m->F m=some (m',.ok f)->f<4611686018427387904
 ne:∀m m',Inv m->F m≠some (m',.stop (.err 0))
abbrev Ku:PH:=λ_=>none
abbrev OpP(fid:Nat)(cs:Array Value)(D:Nat)(J:PH)(Inv:G.Mg->Prop)(F:G.Mg->G.Step Nat):Prop:=OpC fid cs D J Inv F nv (λq=>q=Ku) (λ_ q=>q=Ku)
theorem mdo_pure{fid D:Nat}{cs:Array Value}{Inv:G.Mg->Prop}{F:G.Mg->G.Step Nat}{bs:List PH}(hop:∀J:PH,(∀b∈bs,b.le J)->OpP fid cs D J Inv F)(hK:KeepsM Inv)(hD:DoOk Inv F)
  {E w:World}{I p:PH}{ms:List PH}{m m':G.Mg}{h er:Nat}(hI:Inv m)(hm:m.do_ F=some (m',h,er))(hA:MgAt D m p)(hS:Sat E I (bs++p::ms) w) :
  Calls Tryz.prog 60 #[vPt D,.func (.func fid) #[] cs] w λe w'=>e=.returned (.tuple #[nv h,nv er])/\∃p',MgAt D m' p'/\Sat E I (bs++p'::ms) w':=by
 obtain⟨J,l1,l2,h2,back⟩:=Sat.iceL hS;refine (mdo_any (hop J l2) hK hD.step hD.lt hD.ne (PH.le.refl J) hI hm hA rfl ((h2.empty).perm (List.Perm.swap _ _ _))).mono ?_;rintro e w' ⟨rfl,p',h3,h4⟩;exact⟨rfl,p',h3,back _ _ h4⟩
theorem var1_op{D X3:Nat}{J:PH}{Inv:G.Mg->Prop}(hK:KeepsM Inv)(v:Int)(h3:J.at X3 0=some (.int .i64 v)):OpP 72 #[vPt X3] D J Inv (λm=>m.mk_ v 1 0) where
 enter:=λargs w=>by kernel_rfl
 run:=by
  intro E I p q ms w m m' rs X hJ1 hI hF hX hA hq hS;have i3:I.at X3 0=some (.int .i64 v):=PH.at_le hJ1 h3;have HM:=yH (λ(w:World) (h:Sat E I (p::q::ms) w)=>xmk_any v 1 0 hF hX (by omega) (by omega) (hK.sane _ hI).tab hA h);clear hJ1 h3 hK hI hF hA;show Calls _ _ #[vPt X,vPt X3] _ _
  cases rs with
  | ok a =>
    simp only[Yl] at HM;go_enter Tryz.func72,Tryz.ntmps72;go_wp2_with (first|(go_at_call 63;(with_reducible refine bD (HM.out _ hS) ?_);clear hS;intro w p1 HA1 hS)|(refine aL ?_))
    go_ret;exact⟨rfl,p1,q,HA1.out,hq,hS⟩
  | stop st =>
    simp only[Yl] at HM;go_enter Tryz.func72,Tryz.ntmps72;go_wp2_with (first|(go_at_call 63;(with_reducible refine bD (HM.out _ hS) ?_);clear hS;intro w p1 HA1 hS)|(refine aL ?_))
    refine⟨rfl,?_⟩;exact And.intro rfl ⟨p1,q,HA1.out,hq,hS⟩
theorem mvar_any{D:Nat}{Inv:G.Mg->Prop}(x:Int)(hK:KeepsM Inv)(hD:0<=x->DoOk Inv (λm=>m.mk_ x 1 0)){E w:World}{I p:PH}{ms:List PH}{m m':G.Mg}{h er:Nat}(hI:Inv m)(hm:m.var_ x=some (m',h,er))(hA:MgAt D m p)(hS:Sat E I (p::ms) w) :
  Calls Tryz.prog 27 #[vPt D,.int .i64 x] w λe w'=>e=.returned (.tuple #[nv h,nv er])/\∃p',MgAt D m' p'/\Sat E I (p'::ms) w':=by
 have hmf:∀(fn:Fn) (first cap:Array Value) (w:World),(Instr.makeFunc fn first cap).run Tryz.prog w=.ok (.func fn first cap) w:=λ_ _ _ _=>rfl
 have hlv:m.s.level x<0\/0<=x:=by
  by_cases h0:0<=x
  . exact .inr h0
  . refine .inl ?_
    unfold G.St.level;rw[jAa (by omega)];omega
 unfold G.Mg.var_ at hm;have hD2:¬(m.s.level x<0)->∀(w:World) (X3:Nat),Sat E I (PH.one X3 (.cells #[.int .i64 x] 3)::p::ms) w->Calls Tryz.prog 60 #[vPt D,.func (.func 72) #[] #[vPt X3]] w λe w'=>e=.returned (.tuple #[nv h,nv er])/\∃p',MgAt D m' p'/\Sat E I (PH.one X3 (.cells #[.int .i64 x] 3)::p'::ms) w':=λhn w X3 hS=>by
  rw[jAa hn] at hm;refine mdo_pure (bs:=[PH.one X3 (.cells #[.int .i64 x] 3)]) (λJ hJ=>var1_op hK x (PH.at_le (hJ _ (.head _)) (Qb rfl))) hK (hD (by rcases hlv with h|h;exact absurd h hn;exact h)) hI hm hA hS
 have HD:=yH hD2;have HA:=yH hA;clear hD2 hK hD hI hlv;generalize hlev:m.s.level x=lv at *
 go_enter Tryz.func27,Tryz.ntmps27;go_wp2_with (first|(refine aN 3 ?_;clear hS;intro X3 w hS))
 have HAr:=HA.out.read;obtain⟨I1,_,lX,hS1,bX⟩:=hS.ice;obtain⟨I2,l2,lP,hS2,bP⟩:=hS1.ice;have iX:I2.at X3 0=some (.int .i64 x):=PH.at_le l2 (PH.at_le lX (Qb rfl));obtain⟨_,S,M,H,wv,r0,_,_,_,_,_,rS,_⟩:=HAr.le lP;have HLv:=yH (λ(w':World) (h:I2.le (Qa w'))=>slevel_any (rS.le h) x);rw[hlev] at HLv;clear lX l2 lP hS1 hS rS HAr;by_cases hneg:lv<0
 . rw[jAb hneg] at hm
   cases hm;refine Qf [[],[0],[0,1],[0,1,2],[],[0,1,2,3,4],[0,1,2,3,4,5]] E I2 _
    [λv _=>v=vPt D,λv _=>v=vPt D,λv _=>v=.pointer (some ⟨D,0,none⟩),λv _=>v=vPt S,λv _=>v=.int .i64 x,λv _=>v=.int .i64 lv,λv _=>v=.bool true] []
    (λ_ _ _ ns=>ns=ms) (by kernel_rfl) (by kernel_rfl) (by decide) hS2 rfl ?last (λ_ _ _ _ _ _ h=>h) (λ_ _ _ _ _ _ h=>h) ?plain ?step ?fin
   case last=>exact bL
   case plain=>(repeat' (first|exact trivial|apply And.intro)) <;>  (refine .inr ?_;intro s vals J bs w hstop hg hJ hS hG;clear hG;refine bS ?_;intro K HK;(first|(refine bJ ?_)|(go_wp2_with (first|(go_at_call 71;with_reducible refine bC (HLv.out _ (PH.le.trans hJ hS.ile)) ?_))));exact bO)
   case step=>trivial
   case fin =>
    intro vals J9 bs w hJ hg hS hG;have hG:bs=_:=hG;subst hG;have hS:=bX _ _ (bP _ _ (hS.less hJ));clear iX r0 hJ hS2 bX bP;refine bH ?_;clear hg;go_wp2_with fail
    go_ret2;exact⟨rfl,p,HA.out,hS.drop⟩
 . refine Qf [[],[0],[0,1],[0,1,2],[],[0,1,2,3,4],[0,1,2,3,4,5]] E I2 _
     [λv _=>v=vPt D,λv _=>v=vPt D,λv _=>v=.pointer (some ⟨D,0,none⟩),λv _=>v=vPt S,λv _=>v=.int .i64 x,λv _=>v=.int .i64 lv,λv _=>v=.bool false] []
     (λ_ _ _ ns=>ns=ms) (by kernel_rfl) (by kernel_rfl) (by decide) hS2 rfl ?last (λ_ _ _ _ _ _ h=>h) (λ_ _ _ _ _ _ h=>h) ?plain ?step ?fin
   case last=>exact bL
   case plain=>(repeat' (first|exact trivial|apply And.intro)) <;>  (refine .inr ?_;intro s vals J bs w hstop hg hJ hS hG;clear hG;refine bS ?_;intro K HK;(first|(refine bJ ?_)|(go_wp2_with (first|(go_at_call 71;with_reducible refine bC (HLv.out _ (PH.le.trans hJ hS.ile)) ?_))));exact bO)
   case step=>trivial
   case fin =>
    intro vals J9 bs w hJ hg hS hG;have hG:bs=_:=hG;subst hG;have hS:=bX _ _ (bP _ _ (hS.less hJ));have HN:=yH hneg;clear iX r0 hJ hS2 bX bP hneg hlev;refine bH ?_;clear hg;go_wp2_with (first|(go_at_call 60;(with_reducible refine bD (HD.out HN.out _ _ hS) ?_);clear hS;intro w p1 HA1 hS))
    go_ret2;exact⟨rfl,p1,HA1.out,Sat.drop hS⟩
end
section
open Go.RowKit
def iteS(f g h:Int)(m:G.Mg):G.Step Nat:=(m.edge f).then λm a=>(m.edge g).then λm b=>(m.edge h).then λm c=>m.ite G.fuel a b c
theorem iteS_eq{m:G.Mg}{f g h:Int}{a b c:Nat}(hf:m.of f=some a)(hg:m.of g=some b)(hh:m.of h=some c):iteS f g h m=m.ite G.fuel a b c:=by
 simp only[iteS,G.Mg.edge,hf,hg,hh,G.Step.then]
theorem ite1_op{D X5 X6 X7:Nat}{J:PH}{Inv:G.Mg->Prop}(hK:KeepsM Inv)(f g h:Int)(hv:∀m,Inv m->(∃a,m.of f=some a)/\(∃a,m.of g=some a)/\(∃a,m.of h=some a))(h5:J.at X5 0=some (.int .i64 f))(h6:J.at X6 0=some (.int .i64 g))(h7:J.at X7 0=some (.int .i64 h)) :
  OpP 124 #[vPt X5,vPt X6,vPt X7] D J Inv (iteS f g h) where
 enter:=λargs w=>by kernel_rfl
 run:=by
  intro E I p q ms w m m' rs X hJ1 hI hF hX hA hq hS;subst hq;have i5:I.at X5 0=some (.int .i64 f):=PH.at_le hJ1 h5;have i6:I.at X6 0=some (.int .i64 g):=PH.at_le hJ1 h6;have i7:I.at X7 0=some (.int .i64 h):=PH.at_le hJ1 h7;obtain⟨⟨a,ha⟩,⟨b,hb⟩,⟨c,hc⟩⟩:=hv m hI;rw[iteS_eq ha hb hc] at hF;have HA:=yH hA;have HE1:=yH (λ(w:World) (hX:(Qa w).at X 0=some (vPt D)) (hM:MgR (Qa w) D m)=>xedge_ok hX hM f ha);have HE2:=yH (λ(w:World) (hX:(Qa w).at X 0=some (vPt D)) (hM:MgR (Qa w) D m)=>xedge_ok hX hM g hb);have HE3:=yH (λ(w:World) (hX:(Qa w).at X 0=some (vPt D)) (hM:MgR (Qa w) D m)=>xedge_ok hX hM h hc);have HI:=yH (λ(J:PH) (ns:List PH) (w:World) (hX:J.at X 0=some (vPt D)) (hS:Sat E J (p::ns) w)=>xite_any X D G.fuel m m' a b c rs hF (hK.sane _ hI) (hK.ofl _ _ _ hI ha) (hK.ofl _ _ _ hI hb) (hK.ofl _ _ _ hI hc) E J p ns w hX hA hS);clear hJ1 h5 h6 h7 hI hF ha hb hc hA hv;show Calls _ _ #[vPt X,vPt X5,vPt X6,vPt X7] _ _
  cases rs with
  | ok r =>
    simp only[Yl] at HI;go_enter Tryz.func124,Tryz.ntmps124;go_wp2_with fail
    refine Kf (λ_ _=>False) [[],[],[],[1,2],[],[],[1,2,3,4,5],[],[],[1,2,3,4,5,6,7,8],[0,1,2,3,4,5,6,7,8,9],[0,1,2,3,4,5,6,7,8,9,10]] E I _
     [λv _=>v=vPt X,λv _=>v=vPt X,λv _=>v=.int .i64 f,λv _=>v=nv a,λv _=>v=vPt X,λv _=>v=.int .i64 g,λv _=>v=nv b,λv _=>v=vPt X,λv _=>v=.int .i64 h,λv _=>v=nv c,λv _=>v=nv r,λv _=>v=nv r] [10]
     (set1G _ 0 (λp'=>MgAt D m' p')) (by kernel_rfl) (by kernel_rfl) (by decide) hS rfl ?last (λ_ _ _ _ _ _ h=>h) (λ_ _ _ _ _ _ h=>h) ?plain ?step ?hZ ?fin
    case last=>exact bL
    case plain=>(repeat' (first|exact trivial|apply And.intro)) <;> first|exact .inl rfl|(refine .inr ?_;intro s vals J bs w hstop hg hJ hS hG;(first|(have h0:s<=0:=hstop;obtain rfl:s=0:=kQa.1 h0;have hG:bs=_:=hG;subst hG)|clear hG);refine bZ ?_;intro K HK;(first|(refine bJ ?_)|(go_wp2_with (first|(go_at_call 55;first|(with_reducible refine bC (HE1.out _ (PH.at_le hS.ile (PH.at_le hJ hX)) (HA.out.read.le (hS.mle (k:=0) rfl))) ?_)|(with_reducible refine bC (HE2.out _ (PH.at_le hS.ile (PH.at_le hJ hX)) (HA.out.read.le (hS.mle (k:=0) rfl))) ?_)|(with_reducible refine bC (HE3.out _ (PH.at_le hS.ile (PH.at_le hJ hX)) (HA.out.read.le (hS.mle (k:=0) rfl))) ?_)))));exact bO)
    case step =>
     refine⟨trivial,?_⟩;intro vals J bs w hg hJ hS hG;have hG:bs=_:=hG;subst hG;refine bZ ?_;intro K HK;go_wp2_with (first|(go_at_call 64;(with_reducible refine yI (HI.out _ _ _ (PH.at_le hJ hX) hS) ?_);clear hS;rintro e w ⟨rfl,_,_,p1,hA1,hS⟩;have HA1:=yH hA1;clear hA1))
     exact HK.out _ _ ⟨rfl,J,_,PH.le.refl _,hS,rfl,p1,HA1.out,rfl⟩
    case hZ=>exact λ_ _ _ _ h=>h.elim
    case fin =>
     intro vals J9 bs w hJ hg hS hG;obtain⟨p1,hA1,hns⟩:=hG;subst hns;have hS:=hS.less hJ;simp only[zG] at hS;have HA1:=yH hA1;clear hJ hA1;refine bH ?_;clear hg;go_wp2_with fail
     go_ret;exact⟨rfl,p1,Ku,HA1.out,rfl,hS⟩
  | stop st =>
    simp only[Yl] at HI;go_enter Tryz.func124,Tryz.ntmps124;go_wp2_with fail
    refine Kf (λc w'=>c=stopE st/\∃p1,MgAt D m' p1/\Sat E I (p1::Ku::ms) w') [[],[],[],[1,2],[],[],[1,2,3,4,5],[],[],[1,2,3,4,5,6,7,8],[0,1,2,3,4,5,6,7,8,9],[0,1,2,3,4,5,6,7,8,9,10]] E I _
     [λv _=>v=vPt X,λv _=>v=vPt X,λv _=>v=.int .i64 f,λv _=>v=nv a,λv _=>v=vPt X,λv _=>v=.int .i64 g,λv _=>v=nv b,λv _=>v=vPt X,λv _=>v=.int .i64 h,λv _=>v=nv c,λ_ _=>False,λ_ _=>True] [10]
     (set1G _ 0 (λp'=>False)) (by kernel_rfl) (by kernel_rfl) (by decide) hS rfl ?last (λ_ _ _ _ _ _ h=>h) (λ_ _ _ _ _ _ h=>h) ?plain ?step ?hZ ?fin
    case last=>exact bL
    case plain=>(repeat' (first|exact trivial|apply And.intro)) <;> first|exact .inl rfl|(refine .inr ?_;intro s vals J bs w hstop hg hJ hS hG;(first|(have h0:s<=0:=hstop;obtain rfl:s=0:=kQa.1 h0;have hG:bs=_:=hG;subst hG)|clear hG);refine bZ ?_;intro K HK;(first|(refine bJ ?_)|(go_wp2_with (first|(go_at_call 55;first|(with_reducible refine bC (HE1.out _ (PH.at_le hS.ile (PH.at_le hJ hX)) (HA.out.read.le (hS.mle (k:=0) rfl))) ?_)|(with_reducible refine bC (HE2.out _ (PH.at_le hS.ile (PH.at_le hJ hX)) (HA.out.read.le (hS.mle (k:=0) rfl))) ?_)|(with_reducible refine bC (HE3.out _ (PH.at_le hS.ile (PH.at_le hJ hX)) (HA.out.read.le (hS.mle (k:=0) rfl))) ?_)))));exact bO)
    case step =>
     refine⟨trivial,?_⟩;intro vals J bs w hg hJ hS hG;have hG:bs=_:=hG;subst hG;refine bZ ?_;intro K HK;go_wp2_with (first|(go_at_call 64;(with_reducible refine yI (HI.out _ _ _ (PH.at_le hJ hX) hS) ?_);clear hS;rintro e w ⟨rfl,_,_,p1,hA1,hS⟩;have HA1:=yH hA1;clear hA1))
     exact And.intro rfl ⟨p1,HA1.out,hS.less hJ⟩
    case hZ =>
     rintro c b w' hd ⟨rfl,p1,hA1,hS1⟩;exact⟨hd,rfl,p1,Ku,hA1,rfl,hS1⟩
    case fin =>
     intro vals J9 bs w hJ hg hS hG;obtain⟨p1,hA1,hns⟩:=hG;exact hA1.elim
theorem mite_any{D:Nat}{Inv:G.Mg->Prop}(f g h:Int)(hK:KeepsM Inv)(hD:DoOk Inv (iteS f g h))(hv:∀m,Inv m->(∃a,m.of f=some a)/\(∃a,m.of g=some a)/\(∃a,m.of h=some a)){E w:World}{I p:PH}{ms:List PH}{m m':G.Mg}{r er:Nat}(hI:Inv m)(hm:m.iteH f g h=some (m',r,er))(hA:MgAt D m p)(hS:Sat E I (p::ms) w) :
  Calls Tryz.prog 89 #[vPt D,.int .i64 f,.int .i64 g,.int .i64 h] w λe w'=>e=.returned (.tuple #[nv r,nv er])/\∃p',MgAt D m' p'/\Sat E I (p'::ms) w':=by
 have hmf:∀(fn:Fn) (first cap:Array Value) (w:World),(Instr.makeFunc fn first cap).run Tryz.prog w=.ok (.func fn first cap) w:=λ_ _ _ _=>rfl
 have HD:=yH (λ(w:World) (X5 X6 X7:Nat) (hS:Sat E I (PH.one X7 (.cells #[.int .i64 h] 3)::PH.one X6 (.cells #[.int .i64 g] 3)::PH.one X5 (.cells #[.int .i64 f] 3)::p::ms) w)=>mdo_pure (bs:=[PH.one X7 (.cells #[.int .i64 h] 3),PH.one X6 (.cells #[.int .i64 g] 3),PH.one X5 (.cells #[.int .i64 f] 3)]) (fid:=124) (cs := #[vPt X5,vPt X6,vPt X7]) (λJ hJ=>ite1_op hK f g h hv (PH.at_le (hJ _ (.tail _ (.tail _ (.head _)))) (Qb rfl)) (PH.at_le (hJ _ (.tail _ (.head _))) (Qb rfl)) (PH.at_le (hJ _ (.head _)) (Qb rfl))) hK hD hI hm hA hS);clear hK hD hv hI hm hA;go_enter Tryz.func89,Tryz.ntmps89;go_wp2_with (first|(go_at_call 60;(with_reducible refine bD (HD.out _ _ _ _ hS) ?_);clear hS;intro w p1 HA1 hS)|(refine aN 5 ?_;clear hS;intro X5 w hS)|(refine aN 6 ?_;clear hS;intro X6 w hS)|(refine aN 7 ?_;clear hS;intro X7 w hS))
 go_ret2;exact⟨rfl,p1,HA1.out,Sat.drop (Sat.drop (Sat.drop hS))⟩
end
section
open Go.RowKit
theorem MgAt.look{D:Nat}{m:G.Mg}{p:PH}(h:MgAt D m p):∃H l clock,p.at D 2=some (.map (some H))/\p H=some (Qj ikey l clock)/\HsR l m.hs:=by
 obtain⟨_,S,M,H,wv,h1,h2,h3,h4,h5,h6,h7,⟨l,clock,h8,hr⟩,h9⟩:=h.read;exact⟨H,l,clock,h3,h8,hr⟩
section
variable{E w:World} {I p:PH} {ms:List PH} {D:Nat} {m m':G.Mg}
theorem mcopy_any{k:Int}{h er:Nat}(hm:m.copy k=some (m',h,er))(hnew:m.of (m.next:Int)=none)(hlt:∀a,m.of k=some a->a<4611686018427387904)(hA:MgAt D m p)(hS:Sat E I (p::ms) w) :
  Calls Tryz.prog 85 #[vPt D,.int .i64 k] w λe w'=>e=.returned (.tuple #[nv h,nv er])/\∃p',MgAt D m' p'/\Sat E I (p'::ms) w':=by
 obtain⟨H,l,clock,r2,r8,hr⟩:=hA.look;have hq:=hr.get k;have ho:m.of k=(m.hs.find? λp=>p.1==k).map (·.2):=rfl;rw[<- ho] at hq;have Hq:=yH hq;have HA:=yH hA;unfold G.Mg.copy at hm;clear hq ho hr hA;cases hk:m.of k with
 | none =>
   rw[hk] at hm Hq;cases hm;clear hk hlt hnew;go_enter Tryz.func85,Tryz.ntmps85;go_wp2_with (first|((with_reducible refine Qe ?_);(refine' Xx (v:=_) (.inr (List.Mem.head _)) hS rfl rfl ty_agg115 rfl r2 ?_);refine aM ?_)|((with_reducible refine Kb ?_);refine lk2 (x:=k) hS (.inr (List.Mem.head _)) r8 kI Tryz.underlying115 Zk rfl rfl rfl rfl Hq.out ?_;simp only[Option.map_none,Option.getD_none,Option.isSome_none];refine aM ?_))
   go_ret2;exact⟨rfl,p,HA.out,hS⟩
 | some f =>
   rw[hk] at hm Hq;have hf:=hlt f hk;simp only at hm;cases hg:m.give (f) with
   | none=>rw[hg] at hm;cases hm
   | some y =>
     obtain⟨m2,h2⟩:=y;rw[hg] at hm;simp only[Option.map_some,jEa,jIa] at hm;obtain⟨rfl,rfl,rfl⟩:=hm;have HG:=yH (λ(w:World) (h:Sat E I (p::ms) w)=>give_any hg (by omega) hnew HA.out h);clear hk hlt hnew hg;go_enter Tryz.func85,Tryz.ntmps85;go_wp2_with (first|((with_reducible refine Qe ?_);(refine' Xx (v:=_) (.inr (List.Mem.head _)) hS rfl rfl ty_agg115 rfl r2 ?_);refine aM ?_)|((with_reducible refine Kb ?_);refine lk2 (x:=k) hS (.inr (List.Mem.head _)) r8 kI Tryz.underlying115 Zk rfl rfl rfl rfl Hq.out ?_;simp only[Option.map_some,zJ,Option.isSome_some];refine aM ?_)|(go_at_call 104;(with_reducible refine bD (HG.out _ hS) ?_);clear hS;intro w p1 HA1 hS))
     go_ret2;exact⟨rfl,p1,HA1.out,hS⟩
theorem mnot_any{k:Int}{h er:Nat}(hm:m.not_ k=some (m',h,er))(hnew:m.of (m.next:Int)=none)(hlt:∀a,m.of k=some a->a<4611686018427387904)(hA:MgAt D m p)(hS:Sat E I (p::ms) w) :
  Calls Tryz.prog 88 #[vPt D,.int .i64 k] w λe w'=>e=.returned (.tuple #[nv h,nv er])/\∃p',MgAt D m' p'/\Sat E I (p'::ms) w':=by
 obtain⟨H,l,clock,r2,r8,hr⟩:=hA.look;have hq:=hr.get k;have ho:m.of k=(m.hs.find? λp=>p.1==k).map (·.2):=rfl;rw[<- ho] at hq;have Hq:=yH hq;have HA:=yH hA;unfold G.Mg.not_ at hm;clear hq ho hr hA;cases hk:m.of k with
 | none =>
   rw[hk] at hm Hq;cases hm;clear hk hlt hnew;go_enter Tryz.func88,Tryz.ntmps88;go_wp2_with (first|((with_reducible refine Qe ?_);(refine' Xx (v:=_) (.inr (List.Mem.head _)) hS rfl rfl ty_agg115 rfl r2 ?_);refine aM ?_)|((with_reducible refine Kb ?_);refine lk2 (x:=k) hS (.inr (List.Mem.head _)) r8 kI Tryz.underlying115 Zk rfl rfl rfl rfl Hq.out ?_;simp only[Option.map_none,Option.getD_none,Option.isSome_none];refine aM ?_))
   go_ret2;exact⟨rfl,p,HA.out,hS⟩
 | some f =>
   rw[hk] at hm Hq;have hf:=hlt f hk;simp only at hm;cases hg:m.give (G.flip f) with
   | none=>rw[hg] at hm;cases hm
   | some y =>
     obtain⟨m2,h2⟩:=y;rw[hg] at hm;simp only[Option.map_some,jEa,jIa] at hm;obtain⟨rfl,rfl,rfl⟩:=hm;have hf2:=flip_lt hf;have HNt:=yH (λw:World=>enot_any (w:=w) f hf);have HG:=yH (λ(w:World) (h:Sat E I (p::ms) w)=>give_any hg (by omega) hnew HA.out h);clear hk hlt hnew hg;go_enter Tryz.func88,Tryz.ntmps88;go_wp2_with (first|((with_reducible refine Qe ?_);(refine' Xx (v:=_) (.inr (List.Mem.head _)) hS rfl rfl ty_agg115 rfl r2 ?_);refine aM ?_)|((with_reducible refine Kb ?_);refine lk2 (x:=k) hS (.inr (List.Mem.head _)) r8 kI Tryz.underlying115 Zk rfl rfl rfl rfl Hq.out ?_;simp only[Option.map_some,zJ,Option.isSome_some];refine aM ?_)|(go_at_call 104;(with_reducible refine bD (HG.out _ hS) ?_);clear hS;intro w p1 HA1 hS)|(go_at_call 93;with_reducible refine bC (HNt.out _) ?_))
     go_ret2;exact⟨rfl,p1,HA1.out,hS⟩
theorem msame_any(f g:Int)(hM:MgR (Qa w) D m):Calls Tryz.prog 29 #[vPt D,.int .i64 f,.int .i64 g] w λe w'=>e=.returned (.tuple #[.bool (m.same f g).1,nv (m.same f g).2])/\w=w':=by
 obtain⟨h0,S,M,H,wv,h1,h2,h3,h4,h5,h6,h7,⟨l,clock,h8,hr⟩,h9⟩:=hM;have hS:=Sat.start w;have hq1:=hr.get f;have hq2:=hr.get g;have ho1:m.of f=(m.hs.find? λp=>p.1==f).map (·.2):=rfl;have ho2:m.of g=(m.hs.find? λp=>p.1==g).map (·.2):=rfl;rw[<- ho1] at hq1;rw[<- ho2] at hq2;have H2:=yH h8;unfold G.Mg.same;generalize m.of f=o1 at *
 generalize m.of g=o2 at *
 have Hq1:=yH hq1;have Hq2:=yH hq2;clear h1 h2 h4 h5 h6 h7 h8 h9 h0 hr hq1 hq2 ho1 ho2;cases o1 with
 | none =>
   cases o2
   all_goals
    go_enter Tryz.func29,Tryz.ntmps29;go_wp2_with (first|((with_reducible refine Kb ?_);first|(refine lk2 (x:=f) hS (.inl (PH.le.refl _)) H2.out kI Tryz.underlying115 Zk rfl rfl rfl rfl Hq1.out ?_)|(refine lk2 (x:=g) hS (.inl (PH.le.refl _)) H2.out kI Tryz.underlying115 Zk rfl rfl rfl rfl Hq2.out ?_);simp only[Option.map_none,Option.map_some,Option.getD_none,zJ,Option.isSome_none,Option.isSome_some];refine aM ?_)|(refine aL ?_))
    go_ret2;exact⟨rfl,rfl⟩
 | some a =>
   cases o2 with
   | none =>
     go_enter Tryz.func29,Tryz.ntmps29;go_wp2_with (first|((with_reducible refine Kb ?_);first|(refine lk2 (x:=f) hS (.inl (PH.le.refl _)) H2.out kI Tryz.underlying115 Zk rfl rfl rfl rfl Hq1.out ?_)|(refine lk2 (x:=g) hS (.inl (PH.le.refl _)) H2.out kI Tryz.underlying115 Zk rfl rfl rfl rfl Hq2.out ?_);simp only[Option.map_none,Option.getD_none,Option.isSome_none];refine aM ?_)|(refine aG ?_)|(refine aL ?_))
     go_ret2;exact⟨rfl,rfl⟩
   | some b =>
     simp only;have hab:(((a:Int)==(b:Int)))=(a==b):=by
      by_cases e:a=b
      . subst e;simp
      . rw[jGb.2 e];simp;omega
     generalize hz:(a==b)=z at *
     clear hz;go_enter Tryz.func29,Tryz.ntmps29;go_wp2_with (first|((with_reducible refine Kb ?_);first|(refine lk2 (x:=f) hS (.inl (PH.le.refl _)) H2.out kI Tryz.underlying115 Zk rfl rfl rfl rfl Hq1.out ?_)|(refine lk2 (x:=g) hS (.inl (PH.le.refl _)) H2.out kI Tryz.underlying115 Zk rfl rfl rfl rfl Hq2.out ?_);simp only[Option.map_some,zJ,Option.isSome_some];refine aM ?_)|(refine aG ?_)|(refine aL ?_))
     go_ret2;exact⟨rfl,rfl⟩
theorem morder_any(hA:MgAt D m p)(hS:Sat E I (p::ms) w):Calls Tryz.prog 18 #[vPt D] w λe w'=>∃v mO,e=.returned v/\OwnP mO 3 1 v m.s.vars.length (m.s.vars.flatMap ivC)/\Sat E I (mO::p::ms) w':=by
 obtain⟨_,S,M,H,wv,r0,_,_,_,_,_,rS,_⟩:=hA.read;have HO:=yH (λ(w:World) (h:Sat E I (p::ms) w)=>sorder_any (rS.le (h.mle (k:=0) rfl)) h);clear rS hA;go_enter Tryz.func18,Tryz.ntmps18;go_wp2_with (first|(go_at_call 57;(with_reducible refine yI (HO.out _ hS) ?_);clear hS;rintro e w ⟨v,mO,rfl,hO,hS⟩;have HO1:=yH hO;clear hO)|((with_reducible refine Qe ?_);(refine' Xx (v:=_) (.inr (List.Mem.head _)) hS rfl rfl ty_agg113 rfl r0 ?_);refine aM ?_))
 go_ret;exact⟨v,mO,rfl,HO1.out,hS⟩
end
end
section
open Go.RowKit
def BoolR(I:PH)(v:Value)(l:List Bool):Prop:=(∃A c,v=.slice A l.length c)/\(0<l.length->∃X c,v=.slice (some ⟨X,0,none⟩) l.length c/\∀(i:Nat) x,l[i]?=some x->I.at X i=some (.bool x))
theorem BoolR.le{I J:PH}{v:Value}{l:List Bool}(h:BoolR I v l)(hJ:I.le J):BoolR J v l:=⟨h.1,λhl=>by
 obtain⟨X,c,h1,h2⟩:=h.2 hl;exact⟨X,c,h1,λi x hx=>PH.at_le hJ (h2 i x hx)⟩⟩
end
end Go.Proofs.YtidamcdklgfogaaGreat
