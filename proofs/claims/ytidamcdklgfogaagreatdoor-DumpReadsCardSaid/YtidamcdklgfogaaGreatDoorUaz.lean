import Derived.Test.YtidamcdklgfogaaGreatDoorUay
set_option linter.unusedVariables false
set_option linter.unusedSimpArgs false
set_option maxRecDepth 100000
set_option maxHeartbeats 8000000
namespace Go.Proofs.YtidamcdklgfogaaGreatDoor
section
open Go.RowKit
theorem run_inv {α:Type} {Inv:G.Mg->Prop} {F:G.Mg->G.Step α} (hK:KeepsM Inv) (hstep:∀ m m' rs,Inv m->F m=some (m',rs)->Inv m'):∀ (k:Nat) (room:Bool) (m m':G.Mg) (res:α ⊕ Nat),Inv m->G.Mg.run F k room m=some (m',res) ->
  Inv m'/\(∀ f,res=.inl f->∃ m0,Inv m0/\F m0=some (m',.ok f))/\∀ e,res=.inr e->∃ m0,Inv m0/\F m0=some (m',.stop (.err e))
 | 0,room,m,m',res,hI,h=>by cases h
 | k+1,room,m,m',res,hI,h=>by
   rw [run_succ] at h;cases hF:F m with
   | none=>rw [hF] at h;cases h
   | some x =>
     obtain ⟨m2,rs⟩:=x;rw [hF] at h;have hI2:=hstep _ _ _ hI hF;cases rs with
     | ok a=>cases h;exact ⟨hI2,fun f e=>by cases e;exact ⟨m,hI,hF⟩,fun e h=>by cases h⟩
     | stop st =>
       cases st with
       | event ev =>
         simp only at h;cases hh:m2.happen ev with
         | none=>rw [hh] at h;cases h
         | some m3 =>
           rw [hh] at h;exact run_inv hK hstep k false m3 m' res (hK.happen hI2 hh) h
       | err er =>
         simp only at h;split at h
         . cases hh:m2.collect with
           | none=>rw [hh] at h;cases h
           | some x =>
             obtain ⟨m3,kk⟩:=x;rw [hh] at h;have hI3:Inv m3:=by
              unfold G.Mg.collect at hh;cases hc:m2.s.collect with
              | none=>rw [hc] at hh;cases hh
              | some y=>rw [hc] at hh;cases hh;exact hK.coll _ _ _ hI2 hc
             exact run_inv hK hstep k true m3 m' res hI3 h
         . cases h;exact ⟨hI2,(fun f e=>by cases e),fun e h=>by cases h;exact ⟨m,hI,hF⟩⟩
def doP (X:Nat) (P:PH->Prop) (q':PH):Prop:=∃ q v,Bd q' [PH.one X (.cells #[v] 96),q]/\P q
def doQ (X:Nat) (Q:Nat->PH->Prop) (f:Nat) (q':PH):Prop:=∃ q,Bd q' [PH.one X (.cells #[nv f] 96),q]/\Q f q
theorem perm_a (a b c:PH) (ms:List PH):List.Perm (a::b::c::ms) (c::b::a::ms):=by
 have h1:List.Perm (a::b::c::ms) (b::a::c::ms):=List.Perm.swap _ _ _;have h2:List.Perm (b::a::c::ms) (b::c::a::ms):=List.Perm.cons _ (List.Perm.swap _ _ _);have h3:List.Perm (b::c::a::ms) (c::b::a::ms):=List.Perm.swap _ _ _;exact (h1.trans h2).trans h3
theorem do1_op {fid D X3 X6:Nat} {cs:Array Value} {J0 J1:PH} {Inv:G.Mg->Prop} {F:G.Mg->G.Step Nat} {P:PH->Prop} {Q:Nat->PH->Prop} (hop:OpC fid cs D J0 Inv F nv P Q) (hJ:J0.le J1) (h3:J1.at X3 0=some (.func (.func fid) #[] cs)) :
  OpC 100 #[vPt X3,vPt X6] D J1 Inv F (fun _=>.tuple #[]) (doP X6 P) (doQ X6 Q) where
 enter:=fun args w=>by kernel_rfl
 run:=by
  intro E I p q' ms w m m' rs X hJ1 hI hF hX hA hP' hS;obtain ⟨q,v,hb,hq⟩:=hP';have hS1:=Sat.unpack hb (hS.pick 1 rfl);simp only [List.cons_append,List.nil_append,List.eraseIdx_cons_succ,List.eraseIdx_cons_zero] at hS1;have hent:=hop.enter;have HO:=yH (fun (w:World) (h:Sat E I (p::q::PH.one X6 (.cells #[v] 96)::ms) w)=>hop.run E I p q _ w m m' rs X (hJ.trans hJ1) hI hF hX hA hq h);have i3:I.at X3 0=some (.func (.func fid) #[] cs):=PH.at_le hJ1 h3;have hS2:=hS1.perm (perm_a _ _ _ _);clear hS hS1 hb hq hJ hJ1 hI hF hA h3 hop hX;have hS:=hS2;clear hS2;show Calls _ _ #[vPt X,vPt X3,vPt X6] _ _
  cases rs with
  | ok a =>
    simp only [endE] at HO;go_enter Tryz.func100,Tryz.ntmps100;go_wp2_with (first|((with_reducible refine yI (HO.out _ hS) ?_);clear hS;rintro e w ⟨rfl,p1,q1,hA1,hQ1,hS⟩;have HA1:=yH hA1;have HQ1:=yH hQ1;clear hA1 hQ1)|(refine aL ?_)|(refine aS ?_;clear hS;intro w hS))
    go_end0
    obtain ⟨q2,hb2,hS2⟩:=Sat.pack [PH.one X6 (.cells #[nv a] 96),q1] (hS.perm (perm_a _ _ _ _));exact ⟨rfl,p1,q2,HA1.out,⟨q1,hb2,HQ1.out⟩,hS2.perm (List.Perm.swap _ _ _)⟩
  | stop st =>
    simp only [endE] at HO;go_enter Tryz.func100,Tryz.ntmps100;go_wp2_with (first|((with_reducible refine yI (HO.out _ hS) ?_);clear hS;rintro e w ⟨rfl,p1,q1,hA1,hQ1,hS⟩;have HA1:=yH hA1;have HQ1:=yH hQ1;clear hA1 hQ1)|(refine aL ?_))
    refine ⟨rfl,?_⟩;obtain ⟨q2,hb2,hS2⟩:=Sat.pack [PH.one X6 (.cells #[v] 96),q1] (hS.perm (perm_a _ _ _ _));exact And.intro rfl ⟨p1,q2,HA1.out,⟨q1,v,hb2,HQ1.out⟩,hS2.perm (List.Perm.swap _ _ _)⟩
theorem mdo_any {fid D:Nat} {cs:Array Value} {J0:PH} {Inv:G.Mg->Prop} {F:G.Mg->G.Step Nat} {P:PH->Prop} {Q:Nat->PH->Prop} (hop:OpC fid cs D J0 Inv F nv P Q) (hK:KeepsM Inv) (hstep:∀ m m' rs,Inv m->F m=some (m',rs)->Inv m') (hlt:∀ m m' f,Inv m->F m=some (m',.ok f)->f<4611686018427387904) (hne:∀ m m',Inv m->F m≠some (m',.stop (.err 0)))
  {E w:World} {I p q:PH} {ms:List PH} {m m':G.Mg} {h er:Nat} (hJ0:J0.le I) (hI:Inv m) (hm:m.do_ F=some (m',h,er)) (hA:MgAt D m p) (hq:P q) (hS:Sat E I (p::q::ms) w) :
  Calls Tryz.prog 53 #[vPt D,.func (.func fid) #[] cs] w fun e w'=>e=.returned (.tuple #[nv h,nv er])/\∃ p',MgAt D m' p'/\Sat E I (p'::ms) w':=by
 have hnf:∀ W:World,(binOp .eql 114 (.func (.func fid) #[] cs) .nilFunc).run Tryz.prog W=.ok (.bool false) W:=fun _=>by kernel_rfl
 have hmf:∀ (fn:Fn) (first cap:Array Value) (w:World),(Instr.makeFunc fn first cap).run Tryz.prog w=.ok (.func fn first cap) w:=fun _ _ _ _=>rfl
 unfold G.Mg.do_ at hm;cases hr:G.Mg.run F G.fuel false m with
 | none=>rw [hr] at hm;cases hm
 | some x =>
   obtain ⟨m1,res⟩:=x;rw [hr] at hm;obtain ⟨hI1,hres,herr⟩:=run_inv hK hstep _ _ _ _ _ hI hr;have HR:Hid (∀ (w:World) (X3 X6:Nat),Sat E I (PH.one X6 (.cells #[.int .i64 0] 96)::PH.one X3 (.cells #[.func (.func fid) #[] cs] 114)::p::q::ms) w ->
     Calls Tryz.prog 83 #[vPt D,.func (.func 100) #[] #[vPt X3,vPt X6]] w fun e w'=>e=.returned (runE res)/\∃ p1 v,MgAt D m1 p1/\(∀ f,res=.inl f->v=nv f)/\Sat E I (PH.one X6 (.cells #[v] 96)::PH.one X3 (.cells #[.func (.func fid) #[] cs] 114)::p1::ms) w'):=by
    refine yH fun w X3 X6 h=>?_
    obtain ⟨J,lJ,mJ,h2,back⟩:=(h.perm (List.Perm.swap _ _ _)).ice;obtain ⟨q',hb,h3⟩:=Sat.pack [PH.one X6 (.cells #[.int .i64 0] 96),q] (h2.perm (List.Perm.cons _ (List.Perm.swap _ _ _)));refine (mrun_any (do1_op (X3:=X3) (X6:=X6) hop (hJ0.trans lJ) (PH.at_le mJ (Qc rfl))) hK hstep (PH.le.refl J) hI hr hA ⟨q,_,hb,hq⟩ (h3.perm (List.Perm.swap _ _ _))).mono ?_;rintro e w' ⟨rfl,p1,q1,hA1,hQ1,h4⟩;have h5:=h4.perm (List.Perm.swap _ _ _);cases res with
    | inl f =>
      obtain ⟨q2,hb2,_⟩:=hQ1;have h6:=Sat.unpack hb2 h5;simp only [List.cons_append,List.nil_append] at h6;exact ⟨rfl,p1,_,hA1,(fun f' e=>by cases e;rfl),(back _ _ (h6.perm (List.Perm.swap _ _ _)).drop).perm (List.Perm.swap _ _ _)⟩
    | inr e2 =>
      obtain ⟨q2,v,hb2,_⟩:=hQ1;have h6:=Sat.unpack hb2 h5;simp only [List.cons_append,List.nil_append] at h6;exact ⟨rfl,p1,v,hA1,(fun f' e=>by cases e),(back _ _ (h6.perm (List.Perm.swap _ _ _)).drop).perm (List.Perm.swap _ _ _)⟩
   clear hop hJ0 hq hA hr;cases res with
   | inr e2 =>
     cases hm;simp only [runE] at HR;by_cases he:er=0
     . obtain ⟨m0,hI0,hF0⟩:=herr _ rfl
       rw [he] at hF0;exact absurd hF0 (hne _ _ hI0)
     have d1:((er:Int) != 0)=true:=by simp;omega
     clear hres herr hne hI1 hK hstep hlt hI he;go_enter Tryz.func53,Tryz.ntmps53;go_wp2_with (first|(go_at_call 83;(with_reducible refine yI (HR.out _ _ _ hS) ?_);clear hS;rintro e w ⟨rfl,p1,v1,hA1,hv1,hS⟩;have HA1:=yH hA1;clear hA1 hv1)|(refine aN 3 ?_;clear hS;intro X3 w hS)|(refine aN 6 ?_;clear hS;intro X6 w hS)|(refine aL ?_))
     go_ret2;exact ⟨rfl,p1,HA1.out,hS.drop.drop⟩
   | inl f =>
     obtain ⟨m0,hI0,hF0⟩:=hres f rfl;have hfl:=hlt _ _ _ hI0 hF0;have hnew:=hK.new _ hI1;simp only [runE] at HR;simp only at hm;clear hres herr hne hI1 hK hstep hlt hI hI0 hF0;cases his:m1.s.is (f:Int) with
     | false =>
       rw [his] at hm;simp only [jE,jS,jEb,jQa] at hm;obtain ⟨rfl,rfl,rfl⟩:=hm;go_enter Tryz.func53,Tryz.ntmps53;go_wp2_with (first|(go_at_call 83;(with_reducible refine yI (HR.out _ _ _ hS) ?_);clear hS;rintro e w ⟨rfl,p1,v1,hA1,hv1,hS⟩;have HA1:=yH hA1;have HV1:=yH (hv1 f rfl);clear hA1 hv1)|(refine aN 3 ?_;clear hS;intro X3 w hS)|(refine aN 6 ?_;clear hS;intro X6 w hS)|(refine aL ?_))
       rw [HV1.out] at hS;obtain ⟨I1,_,lX,hS1,bX⟩:=hS.ice;obtain ⟨I2,l2,lP,hS2,bP⟩:=(hS1.pick 1 rfl).ice;simp only [List.eraseIdx_cons_succ,List.eraseIdx_cons_zero] at hS2 bP;have iX:I2.at X6 0=some (nv f):=PH.at_le l2 (PH.at_le lX (Qc rfl));obtain ⟨_,S,M,H,wv,r0,_,_,_,_,_,rS,_⟩:=HA1.out.read.le lP;have HIs:=yH (fun (w':World) (h:I2.le (Qa w'))=>sis_any (rS.le h) (f:Int) (by omega));rw [his] at HIs;clear lX l2 lP hS1 hS rS HR;refine Qg [[],[0],[0,1],[0,1,2],[],[0,1,2,3,4],[0,1,2,3,4,5]] E I2 _
        [fun v _=>v=vPt D,fun v _=>v=vPt D,fun v _=>v=.pointer (some ⟨D,0,none⟩),fun v _=>v=vPt S,fun v _=>v=nv f,fun v _=>v=.bool false,fun v _=>v=.bool true] []
        (fun _ _ _ ns=>ns=PH.one X3 (.cells #[.func (.func fid) #[] cs] 114)::ms) (by kernel_rfl) (by kernel_rfl) (by decide) hS2 rfl ?last (fun _ _ _ _ _ _ h=>h) (fun _ _ _ _ _ _ h=>h) ?plain ?step ?fin
       case last=>exact bL
       case plain=>(repeat' (first|exact trivial|apply And.intro)) <;>  (refine .inr ?_;intro s vals J bs w hstop hg hJ hS hG;clear hG;refine bS ?_;intro K HK;(first|(refine bJ ?_)|(go_wp2_with (first|(go_at_call 101;(with_reducible refine yI (HIs.out _ (PH.le.trans hJ hS.ile)) ?_);rintro e w2 ⟨rfl,hb2⟩;have hS2:=hS.below_ hb2;clear hS hb2;have hS:=hS2;clear hS2))));exact bO)
       case step=>trivial
       case fin =>
        intro vals J9 bs w hJ hg hS hG;have hG:bs=_:=hG;subst hG;have hS:=bX _ _ (bP _ _ (hS.less hJ));clear iX r0 hJ hS2 bX bP;simp only [yB,yC,Nat.reduceAdd,Below_,Facts,zH,zI,jGb] at hg;simp only [yB,yC,Nat.reduceAdd,Qb,Qe,Qd,zA,zB,zK,jC,Act.put,zE,zF,zG,hg];refine ⟨?_⟩;clear hg;go_wp2_with fail
        go_ret2;exact ⟨rfl,p1,HA1.out,(hS.drop.perm (kK _)).sub (.cons_cons _ (.cons _ (kCb _)))⟩
     | true =>
       rw [his] at hm;simp only [jC] at hm;cases hgv:m1.give f with
       | none=>rw [hgv] at hm;cases hm
       | some y =>
         obtain ⟨m2,h2⟩:=y;rw [hgv] at hm;simp only [Option.map_some,jEb,jQa] at hm;obtain ⟨rfl,rfl,rfl⟩:=hm;have HG:=yH (fun (p:PH) (ms':List PH) (w:World) (hA:MgAt D m1 p) (h:Sat E I (p::ms') w)=>give_any hgv (by omega) hnew hA h);clear hgv hnew;go_enter Tryz.func53,Tryz.ntmps53;go_wp2_with (first|(go_at_call 83;(with_reducible refine yI (HR.out _ _ _ hS) ?_);clear hS;rintro e w ⟨rfl,p1,v1,hA1,hv1,hS⟩;have HA1:=yH hA1;have HV1:=yH (hv1 f rfl);clear hA1 hv1)|(refine aN 3 ?_;clear hS;intro X3 w hS)|(refine aN 6 ?_;clear hS;intro X6 w hS)|(refine aL ?_))
         rw [HV1.out] at hS;obtain ⟨I1,_,lX,hS1,bX⟩:=hS.ice;obtain ⟨I2,l2,lP,hS2,bP⟩:=(hS1.pick 1 rfl).ice;simp only [List.eraseIdx_cons_succ,List.eraseIdx_cons_zero] at hS2 bP;have iX:I2.at X6 0=some (nv f):=PH.at_le l2 (PH.at_le lX (Qc rfl));obtain ⟨_,S,M,H,wv,r0,_,_,_,_,_,rS,_⟩:=HA1.out.read.le lP;have HIs:=yH (fun (w':World) (h:I2.le (Qa w'))=>sis_any (rS.le h) (f:Int) (by omega));rw [his] at HIs;clear lX l2 lP hS1 hS rS HR;refine Qg [[],[0],[0,1],[0,1,2],[],[0,1,2,3,4],[0,1,2,3,4,5]] E I2 _
          [fun v _=>v=vPt D,fun v _=>v=vPt D,fun v _=>v=.pointer (some ⟨D,0,none⟩),fun v _=>v=vPt S,fun v _=>v=nv f,fun v _=>v=.bool true,fun v _=>v=.bool false] []
          (fun _ _ _ ns=>ns=PH.one X3 (.cells #[.func (.func fid) #[] cs] 114)::ms) (by kernel_rfl) (by kernel_rfl) (by decide) hS2 rfl ?last (fun _ _ _ _ _ _ h=>h) (fun _ _ _ _ _ _ h=>h) ?plain ?step ?fin
         case last=>exact bL
         case plain=>(repeat' (first|exact trivial|apply And.intro)) <;>  (refine .inr ?_;intro s vals J bs w hstop hg hJ hS hG;clear hG;refine bS ?_;intro K HK;(first|(refine bJ ?_)|(go_wp2_with (first|(go_at_call 101;(with_reducible refine yI (HIs.out _ (PH.le.trans hJ hS.ile)) ?_);rintro e w2 ⟨rfl,hb2⟩;have hS2:=hS.below_ hb2;clear hS hb2;have hS:=hS2;clear hS2))));exact bO)
         case step=>trivial
         case fin =>
          intro vals J9 bs w hJ hg hS hG;have hG:bs=_:=hG;subst hG;have hS:=bX _ _ (bP _ _ (hS.less hJ));clear iX r0 hJ hS2 bX bP;simp only [yB,yC,Nat.reduceAdd,Below_,Facts,zH,zI,jGb] at hg;simp only [yB,yC,Nat.reduceAdd,Qb,Qe,Qd,zA,zB,zK,jC,Act.put,zE,zF,zG,hg];refine ⟨?_⟩;clear hg;go_wp2_with (first|(go_at_call 102;(with_reducible refine yI (HG.out _ _ _ HA1.out (hS.pick 1 rfl)) ?_);clear hS;rintro e w ⟨rfl,p2,hA2,hS⟩;have HA2:=yH hA2;clear hA2)|(refine aL ?_))
          go_ret2;simp only [List.eraseIdx_cons_succ,List.eraseIdx_cons_zero] at hS;exact ⟨rfl,p2,HA2.out,hS.sub (.cons_cons _ (.cons _ (.cons _ (kCb _))))⟩
end
section
open Go.RowKit
theorem wpStepZ_mono {Z:List PanicEntry->World->Prop} {P:Program} {ops:List Oper} {o:Oper} {K K':Act->World->Prop} {a:Act} {w:World} (h:wpStepZ Z P ops o K a w) (hk:∀ a w,K a w->K' a w):wpStepZ Z P ops o K' a w:=by
 unfold wpStepZ at h ⊢;split
 . rename_i hw;rw [jAa hw] at h;exact Oper.wp_mono hk h
 . rename_i hw;rw [jAb hw] at h;exact hk _ _ h
theorem Kt (Z:List PanicEntry->World->Prop) {P:Program} {id:Nat} {ops:List Oper} {Q:Exit->Act->World->Prop} {a:Act} {w:World} (A:List (List Nat)) (E:World) (I:PH) (ms:List PH) (Ds:List Fct)
  (c:List Nat) (G:Nat->(Nat->Value)->PH->List PH->Prop)
  (hm:P.follows .mixedOrders=true) (chk:ogOk ops A a.tmps.size=true) (hc:chainOk A [] c ops.length=true)
  (hS:Sat E I ms w) (hG:G 0 (fun _=>undef) I ms) (lasting:Lasting Ds)
  (gst:∀ s vals vals' J ns,(∀ j ∈ c.take s,vals j=vals' j)->G s vals J ns->G s vals' J ns) (gle:∀ s vals J J' ns,PH.le J J'->G s vals J ns->G s vals J' ns)
  (plain:Below_ (fun k=>c.contains k=true\/∀ (s:Nat) (vals:Nat->Value) (J:PH) (bs:List PH) (w':World),s<=stopAt A c k->Given (fun j=>Facts Ds j (vals j) J) (A.getD k [])->I.le J->Sat E J bs w'->G s vals J bs ->
    Veil0 (wpStepZ Z P ops (Qf ops k) (fun a' w''=>a'.defers=a.defers/\∃ J':PH,J.le J'/\Sat E J' bs w''/\Facts Ds k (Qh (Qf ops k) a') J') (Qb ops vals a k) w')) ops.length)
  (step:Below_ (fun s=>∀ (vals:Nat->Value) (J:PH) (bs:List PH) (w':World),Given (fun j=>Facts Ds j (vals j) J) (A.getD (c.getD s 0) [])->I.le J->Sat E J bs w'->G s vals J bs ->
    Veil0 (wpStepZ Z P ops (Qf ops (c.getD s 0)) (fun a' w''=>a'.defers=a.defers/\∃ (J':PH) (ns':List PH),J.le J'/\Sat E J' ns' w''/\Facts Ds (c.getD s 0) (Qh (Qf ops (c.getD s 0)) a') J'/\G (s+1) (upd vals (c.getD s 0) (Qh (Qf ops (c.getD s 0)) a')) J' ns') (Qb ops vals a (c.getD s 0)) w')) c.length)
  (hZ:∀ c (b:Act) w',b.defers=a.defers->Z c w'->Q (.panic c) b w')
  (fin:∀ (vals:Nat->Value) (J:PH) (bs:List PH) (w':World),I.le J->Below_ (fun j=>Facts Ds j (vals j) J) ops.length->Sat E J bs w'->G c.length vals J bs->Veil0 (Q .normal (Qb ops vals a ops.length) w')) :
  (Code.region id ops.toArray true).wp P Q a w:=by
 unfold chainOk at hc;rw [jEa] at hc;obtain ⟨hc1,_⟩:=hc;have hc1':∀ t,t<c.length->c.getD t 0<ops.length/\(∀ u,u<c.length->t≠u->c.getD t 0≠c.getD u 0)/\(t≠0->c.getD (t - 1) 0 ∈ A.getD (c.getD t 0) []):=fun t ht=>by
  have:=jLa.1 hc1 t (jZb.2 ht);simp only [jEa,jJ,kDa,jVa] at this;refine ⟨this.1.1,fun u hu hne=>?_,fun h0=>?_⟩
  . have h2:=jLa.1 this.1.2 u (jZb.2 hu)
    simp only [kDa,jVa,kWa] at h2;rcases h2 with h2|h2
    . exact absurd h2 hne
    . exact h2
  . rcases this.2 with h2|h2
    . exact absurd h2 h0
    . simpa using h2
 have cmem:∀ t,t<c.length->c.getD t 0 ∈ c:=fun t ht=>by
  rw [yD,yA ht];exact kKa ht
 have notc:∀ k,k ∉ c->∀ t,t<c.length->c.getD t 0≠k:=fun k hk t ht e=>hk (e ▸ cmem t ht)
 refine region_ogZ Z A E I [] ms (Facts Ds) (fun L vals J ns=>∃ s,s<=c.length/\(∀ t,t<c.length->(L (c.getD t 0)=true↔t<s))/\G s vals J ns) hm chk (by simpa using hS) ⟨0,jCa _,fun t ht=>by simp,hG⟩ (fun i v I J hJ=>Facts.lasting lasting i v I J hJ) ?_ hZ ?_
 . intro k hk L vals J ns w' hLk hdown hanc hJ hs ⟨s,h1,h2,h3⟩
   by_cases hkc:k ∈ c
   . obtain ⟨t,ht,rfl⟩:=List.mem_iff_getElem.1 hkc
     have eg:c[t]=c.getD t 0:=by rw [yD,yA ht];rfl
     rw [eg] at hLk hanc ⊢;have hst:s=t:=by
      have a1:¬ t<s:=fun h=>by rw [(h2 t ht).2 h] at hLk;cases hLk
      by_cases h0:t=0
      . omega
      . have a2:=(h2 (t - 1) (by omega)).1 (hanc _ ((hc1' t ht).2.2 h0)).1
        omega
     subst hst;refine wpStepZ_mono (step.get s ht vals J ns w' (Given.of fun j hj=>(hanc j hj).2) hJ (by simpa using hs) h3).out fun a' w'' hpost=>?_
     obtain ⟨p1,J',ns',p2,p3,p4,p5⟩:=hpost;refine ⟨p1,J',ns',p2,by simpa using p3,p4,s+1,ht,fun u hu=>?_,p5⟩;by_cases hus:u=s
     . subst hus;rw [Qr];simp
     . rw [Kb _ _ ((hc1' u hu).2.1 s ht hus),h2 u hu]
       omega
   . rcases plain.get k hk with h|h
     . exact absurd (by simpa using h) hkc
     . have hst:s<=stopAt A c k:=by
         rcases jY (stopAt A c k) s with hlt|hge
         . exfalso
           have hlc:stopAt A c k<c.length:=by omega
           have:=hdown _ (hc1' _ hlc).1 ((h2 _ hlc).2 hlt) k (stopAt_mem hlc);rw [hLk] at this;cases this
         . exact hge
       refine wpStepZ_mono (h s vals J ns w' hst (Given.of fun j hj=>(hanc j hj).2) hJ (by simpa using hs) h3).out fun a' w'' hpost=>?_
       obtain ⟨p1,J',p2,p3,p4⟩:=hpost;refine ⟨p1,J',ns,p2,by simpa using p3,p4,s,h1,fun t ht=>by rw [Kb _ _ (notc k hkc t ht)];exact h2 t ht,gst s vals _ J' ns (fun j hj=>?_) (gle s vals J J' ns p2 h3)⟩;rw [Kb];rintro rfl;exact hkc (kX hj)
 . intro vals J ns w' hJ hD hs ⟨L,hL,s,h1,h2,h3⟩
   have hsl:s=c.length:=by
    rcases jY s c.length with hlt|hge
    . have:=(h2 s hlt).1 (hL _ (hc1' s hlt).1)
      omega
    . omega
   subst hsl;have hB2:Below_ (fun j=>Facts Ds j (vals j) J) ops.length:=by
    have:∀ n,n<=ops.length->Below_ (fun j=>Facts Ds j (vals j) J) n:=fun n=>by
     induction n with
     | zero=>exact fun _=>trivial
     | succ n ih=>exact fun hn=>⟨ih (by omega),hD n (by omega)⟩
    exact this _ (jBb _)
   exact (fin vals J ns w' hJ hB2 (by simpa using hs) h3).out
end
section
open Go.RowKit
theorem Sat.iceL:∀ {bs:List PH} {E w:World} {I:PH} {ms:List PH},Sat E I (bs ++ ms) w->∃ J:PH,I.le J/\(∀ b ∈ bs,b.le J)/\Sat E J ms w/\∀ w' ns,Sat E J ns w'->Sat E I (bs ++ ns) w'
 | [],E,w,I,ms,h=>⟨I,PH.le.refl _,(fun b hb=>by cases hb),h,fun _ _ h=>h⟩
 | b::bs,E,w,I,ms,h=>by
   obtain ⟨J,l1,l2,h2,back⟩:=Sat.ice (m:=b) (ms:=bs ++ ms) h;obtain ⟨K,k1,k2,h3,back2⟩:=Sat.iceL h2;refine ⟨K,l1.trans k1,fun c hc=>?_,h3,fun w' ns h'=>back _ _ (back2 _ _ h')⟩;rcases jBa.1 hc with rfl|hc
   . exact l2.trans k1
   . exact k2 c hc
structure DoOk (Inv:G.Mg->Prop) (F:G.Mg->G.Step Nat):Prop where
 step:∀ m m' rs,Inv m->F m=some (m',rs)->Inv m'
 lt:∀ m m' f,Inv m->F m=some (m',.ok f)->f<4611686018427387904
 ne:∀ m m',Inv m->F m≠some (m',.stop (.err 0))
abbrev Zo:PH:=fun _=>none
abbrev OpP (fid:Nat) (cs:Array Value) (D:Nat) (J:PH) (Inv:G.Mg->Prop) (F:G.Mg->G.Step Nat):Prop:=OpC fid cs D J Inv F nv (fun q=>q=Zo) (fun _ q=>q=Zo)
theorem mdo_pure {fid D:Nat} {cs:Array Value} {Inv:G.Mg->Prop} {F:G.Mg->G.Step Nat} {bs:List PH} (hop:∀ J:PH,(∀ b ∈ bs,b.le J)->OpP fid cs D J Inv F) (hK:KeepsM Inv) (hD:DoOk Inv F)
  {E w:World} {I p:PH} {ms:List PH} {m m':G.Mg} {h er:Nat} (hI:Inv m) (hm:m.do_ F=some (m',h,er)) (hA:MgAt D m p) (hS:Sat E I (bs ++ p::ms) w) :
  Calls Tryz.prog 53 #[vPt D,.func (.func fid) #[] cs] w fun e w'=>e=.returned (.tuple #[nv h,nv er])/\∃ p',MgAt D m' p'/\Sat E I (bs ++ p'::ms) w':=by
 obtain ⟨J,l1,l2,h2,back⟩:=Sat.iceL hS;refine (mdo_any (hop J l2) hK hD.step hD.lt hD.ne (PH.le.refl J) hI hm hA rfl ((h2.empty).perm (List.Perm.swap _ _ _))).mono ?_;rintro e w' ⟨rfl,p',h3,h4⟩;exact ⟨rfl,p',h3,back _ _ h4⟩
theorem var1_op {D X3:Nat} {J:PH} {Inv:G.Mg->Prop} (hK:KeepsM Inv) (v:Int) (h3:J.at X3 0=some (.int .i64 v)):OpP 62 #[vPt X3] D J Inv (fun m=>m.mk_ v 1 0) where
 enter:=fun args w=>by kernel_rfl
 run:=by
  intro E I p q ms w m m' rs X hJ1 hI hF hX hA hq hS;have i3:I.at X3 0=some (.int .i64 v):=PH.at_le hJ1 h3;have HM:=yH (fun (w:World) (h:Sat E I (p::q::ms) w)=>xmk_any v 1 0 hF hX (by omega) (by omega) (hK.sane _ hI).tab hA h);clear hJ1 h3 hK hI hF hA;show Calls _ _ #[vPt X,vPt X3] _ _
  cases rs with
  | ok a =>
    simp only [endE] at HM;go_enter Tryz.func62,Tryz.ntmps62;go_wp2_with (first|(go_at_call 56;(with_reducible refine yI (HM.out _ hS) ?_);clear hS;rintro e w ⟨rfl,p1,hA1,hS⟩;have HA1:=yH hA1;clear hA1)|(refine aL ?_))
    go_ret;exact ⟨rfl,p1,q,HA1.out,hq,hS⟩
  | stop st =>
    simp only [endE] at HM;go_enter Tryz.func62,Tryz.ntmps62;go_wp2_with (first|(go_at_call 56;(with_reducible refine yI (HM.out _ hS) ?_);clear hS;rintro e w ⟨rfl,p1,hA1,hS⟩;have HA1:=yH hA1;clear hA1)|(refine aL ?_))
    refine ⟨rfl,?_⟩;exact And.intro rfl ⟨p1,q,HA1.out,hq,hS⟩
theorem mvar_any {D:Nat} {Inv:G.Mg->Prop} (x:Int) (hK:KeepsM Inv) (hD:0<=x->DoOk Inv (fun m=>m.mk_ x 1 0)) {E w:World} {I p:PH} {ms:List PH} {m m':G.Mg} {h er:Nat} (hI:Inv m) (hm:m.var_ x=some (m',h,er)) (hA:MgAt D m p) (hS:Sat E I (p::ms) w) :
  Calls Tryz.prog 18 #[vPt D,.int .i64 x] w fun e w'=>e=.returned (.tuple #[nv h,nv er])/\∃ p',MgAt D m' p'/\Sat E I (p'::ms) w':=by
 have hmf:∀ (fn:Fn) (first cap:Array Value) (w:World),(Instr.makeFunc fn first cap).run Tryz.prog w=.ok (.func fn first cap) w:=fun _ _ _ _=>rfl
 have hlv:m.s.level x<0\/0<=x:=by
  by_cases h0:0<=x
  . exact .inr h0
  . refine .inl ?_
    unfold G.St.level;rw [jAb (by omega)];omega
 unfold G.Mg.var_ at hm;have hD2:¬ (m.s.level x<0)->∀ (w:World) (X3:Nat),Sat E I (PH.one X3 (.cells #[.int .i64 x] 3)::p::ms) w->Calls Tryz.prog 53 #[vPt D,.func (.func 62) #[] #[vPt X3]] w fun e w'=>e=.returned (.tuple #[nv h,nv er])/\∃ p',MgAt D m' p'/\Sat E I (PH.one X3 (.cells #[.int .i64 x] 3)::p'::ms) w':=fun hn w X3 hS=>by
  rw [jAb hn] at hm;refine mdo_pure (bs:=[PH.one X3 (.cells #[.int .i64 x] 3)]) (fun J hJ=>var1_op hK x (PH.at_le (hJ _ (.head _)) (Qc rfl))) hK (hD (by rcases hlv with h|h;exact absurd h hn;exact h)) hI hm hA hS
 have HD:=yH hD2;have HA:=yH hA;clear hD2 hK hD hI hlv;generalize hlev:m.s.level x=lv at *
 go_enter Tryz.func18,Tryz.ntmps18;go_wp2_with (first|(refine aN 3 ?_;clear hS;intro X3 w hS))
 have HAr:=HA.out.read;obtain ⟨I1,_,lX,hS1,bX⟩:=hS.ice;obtain ⟨I2,l2,lP,hS2,bP⟩:=hS1.ice;have iX:I2.at X3 0=some (.int .i64 x):=PH.at_le l2 (PH.at_le lX (Qc rfl));obtain ⟨_,S,M,H,wv,r0,_,_,_,_,_,rS,_⟩:=HAr.le lP;have HLv:=yH (fun (w':World) (h:I2.le (Qa w'))=>slevel_any (rS.le h) x);rw [hlev] at HLv;clear lX l2 lP hS1 hS rS HAr;by_cases hneg:lv<0
 . rw [jAa hneg] at hm
   cases hm;refine Qg [[],[0],[0,1],[0,1,2],[],[0,1,2,3,4],[0,1,2,3,4,5]] E I2 _
    [fun v _=>v=vPt D,fun v _=>v=vPt D,fun v _=>v=.pointer (some ⟨D,0,none⟩),fun v _=>v=vPt S,fun v _=>v=.int .i64 x,fun v _=>v=.int .i64 lv,fun v _=>v=.bool true] []
    (fun _ _ _ ns=>ns=ms) (by kernel_rfl) (by kernel_rfl) (by decide) hS2 rfl ?last (fun _ _ _ _ _ _ h=>h) (fun _ _ _ _ _ _ h=>h) ?plain ?step ?fin
   case last=>exact bL
   case plain=>(repeat' (first|exact trivial|apply And.intro)) <;>  (refine .inr ?_;intro s vals J bs w hstop hg hJ hS hG;clear hG;refine bS ?_;intro K HK;(first|(refine bJ ?_)|(go_wp2_with (first|(go_at_call 61;with_reducible refine bC (HLv.out _ (PH.le.trans hJ hS.ile)) ?_))));exact bO)
   case step=>trivial
   case fin =>
    intro vals J9 bs w hJ hg hS hG;have hG:bs=_:=hG;subst hG;have hS:=bX _ _ (bP _ _ (hS.less hJ));clear iX r0 hJ hS2 bX bP;simp only [yB,yC,Nat.reduceAdd,Below_,Facts,zH,zI,jGb] at hg;simp only [yB,yC,Nat.reduceAdd,Qb,Qe,Qd,zA,zB,zK,jC,Act.put,zE,zF,zG,hg];refine ⟨?_⟩;clear hg;go_wp2_with fail
    go_ret2;exact ⟨rfl,p,HA.out,hS.drop⟩
 . refine Qg [[],[0],[0,1],[0,1,2],[],[0,1,2,3,4],[0,1,2,3,4,5]] E I2 _
     [fun v _=>v=vPt D,fun v _=>v=vPt D,fun v _=>v=.pointer (some ⟨D,0,none⟩),fun v _=>v=vPt S,fun v _=>v=.int .i64 x,fun v _=>v=.int .i64 lv,fun v _=>v=.bool false] []
     (fun _ _ _ ns=>ns=ms) (by kernel_rfl) (by kernel_rfl) (by decide) hS2 rfl ?last (fun _ _ _ _ _ _ h=>h) (fun _ _ _ _ _ _ h=>h) ?plain ?step ?fin
   case last=>exact bL
   case plain=>(repeat' (first|exact trivial|apply And.intro)) <;>  (refine .inr ?_;intro s vals J bs w hstop hg hJ hS hG;clear hG;refine bS ?_;intro K HK;(first|(refine bJ ?_)|(go_wp2_with (first|(go_at_call 61;with_reducible refine bC (HLv.out _ (PH.le.trans hJ hS.ile)) ?_))));exact bO)
   case step=>trivial
   case fin =>
    intro vals J9 bs w hJ hg hS hG;have hG:bs=_:=hG;subst hG;have hS:=bX _ _ (bP _ _ (hS.less hJ));have HN:=yH hneg;clear iX r0 hJ hS2 bX bP hneg hlev;simp only [yB,yC,Nat.reduceAdd,Below_,Facts,zH,zI,jGb] at hg;simp only [yB,yC,Nat.reduceAdd,Qb,Qe,Qd,zA,zB,zK,jC,Act.put,zE,zF,zG,hg];refine ⟨?_⟩;clear hg;go_wp2_with (first|(go_at_call 53;(with_reducible refine yI (HD.out HN.out _ _ hS) ?_);clear hS;rintro e w ⟨rfl,p1,hA1,hS⟩;have HA1:=yH hA1;clear hA1))
    go_ret2;exact ⟨rfl,p1,HA1.out,Sat.drop hS⟩
end
section
open Go.RowKit
end
section
open Go.RowKit
section
variable {E w:World} {I p:PH} {ms:List PH} {D:Nat} {m m':G.Mg}
theorem msame_any (f g:Int) (hM:MgR (Qa w) D m):Calls Tryz.prog 16 #[vPt D,.int .i64 f,.int .i64 g] w fun e w'=>e=.returned (.tuple #[.bool (m.same f g).1,nv (m.same f g).2])/\w=w':=by
 obtain ⟨h0,S,M,H,wv,h1,h2,h3,h4,h5,h6,h7,⟨l,clock,h8,hr⟩,h9⟩:=hM;have hS:=Sat.start w;have hq1:=hr.get f;have hq2:=hr.get g;have ho1:m.of f=(m.hs.find? fun p=>p.1 == f).map (·.2):=rfl;have ho2:m.of g=(m.hs.find? fun p=>p.1 == g).map (·.2):=rfl;rw [<- ho1] at hq1;rw [<- ho2] at hq2;have H2:=yH h8;unfold G.Mg.same;generalize m.of f=o1 at *
 generalize m.of g=o2 at *
 have Hq1:=yH hq1;have Hq2:=yH hq2;clear h1 h2 h4 h5 h6 h7 h8 h9 h0 hr hq1 hq2 ho1 ho2;cases o1 with
 | none =>
   cases o2
   all_goals
    go_enter Tryz.func16,Tryz.ntmps16;go_wp2_with (first|((with_reducible refine Kz ?_);first|(refine lk2 (x:=f) hS (.inl (PH.le.refl _)) H2.out kI Tryz.underlying107 ty_z96 rfl rfl rfl rfl Hq1.out ?_)|(refine lk2 (x:=g) hS (.inl (PH.le.refl _)) H2.out kI Tryz.underlying107 ty_z96 rfl rfl rfl rfl Hq2.out ?_);simp only [Option.map_none,Option.map_some,Option.getD_none,zJ,Option.isSome_none,Option.isSome_some];(try simp only [Act.put,zE,zF,zG]))|(refine aL ?_))
    go_ret2;exact ⟨rfl,rfl⟩
 | some a =>
   cases o2 with
   | none =>
     go_enter Tryz.func16,Tryz.ntmps16;go_wp2_with (first|((with_reducible refine Kz ?_);first|(refine lk2 (x:=f) hS (.inl (PH.le.refl _)) H2.out kI Tryz.underlying107 ty_z96 rfl rfl rfl rfl Hq1.out ?_)|(refine lk2 (x:=g) hS (.inl (PH.le.refl _)) H2.out kI Tryz.underlying107 ty_z96 rfl rfl rfl rfl Hq2.out ?_);simp only [Option.map_none,Option.getD_none,Option.isSome_none];(try simp only [Act.put,zE,zF,zG]))|(refine aG ?_)|(refine aL ?_))
     go_ret2;exact ⟨rfl,rfl⟩
   | some b =>
     simp only;have hab:(((a:Int) == (b:Int)))=(a == b):=by
      by_cases e:a=b
      . subst e;simp
      . rw [jGa.2 e];simp;omega
     generalize hz:(a == b)=z at *
     clear hz;go_enter Tryz.func16,Tryz.ntmps16;go_wp2_with (first|((with_reducible refine Kz ?_);first|(refine lk2 (x:=f) hS (.inl (PH.le.refl _)) H2.out kI Tryz.underlying107 ty_z96 rfl rfl rfl rfl Hq1.out ?_)|(refine lk2 (x:=g) hS (.inl (PH.le.refl _)) H2.out kI Tryz.underlying107 ty_z96 rfl rfl rfl rfl Hq2.out ?_);simp only [Option.map_some,zJ,Option.isSome_some];(try simp only [Act.put,zE,zF,zG]))|(refine aG ?_)|(refine aL ?_))
     go_ret2;exact ⟨rfl,rfl⟩
end
end
section
open Go.RowKit
def BoolR (I:PH) (v:Value) (l:List Bool):Prop:=(∃ A c,v=.slice A l.length c)/\(0<l.length->∃ X c,v=.slice (some ⟨X,0,none⟩) l.length c/\∀ (i:Nat) x,l[i]?=some x->I.at X i=some (.bool x))
theorem BoolR.le {I J:PH} {v:Value} {l:List Bool} (h:BoolR I v l) (hJ:I.le J):BoolR J v l:=⟨h.1,fun hl=>by
 obtain ⟨X,c,h1,h2⟩:=h.2 hl;exact ⟨X,c,h1,fun i x hx=>PH.at_le hJ (h2 i x hx)⟩⟩
end
namespace G
def iteF (φ ψ χ:Fn):Fn:=fun ρ=>if φ ρ then ψ ρ else χ ρ
abbrev Sem:=Nat->Fn->Fn->Fn->Fn
def MeOk (S:Sem) (G:Gr) (me:Memo):Prop:=∀ i e,me i=some e->val G e.a/\val G e.b/\val G e.c/\val G e.r/\den G e.r=S e.op (den G e.a) (den G e.b) (den G e.c)
theorem MeOk.none (S:Sem) (G:Gr):MeOk S G Memo.none:=fun i e h=>by cases h
theorem MeOk.gro {S:Sem} {Q:Tb->Prop} {s s':St} {me:Memo} (h:MeOk S s.nd me) (g:Gro Q s s'):MeOk S s'.nd me:=fun i e he=>by
 obtain ⟨h1,h2,h3,h4,h5⟩:=h i e he;refine ⟨g.val h1,g.val h2,g.val h3,g.val h4,?_⟩;rw [g.dens _ h1,g.dens _ h2,g.dens _ h3,g.dens _ h4,h5]
theorem MeOk.put {S:Sem} {G:Gr} {me:Memo} (h:MeOk S G me) {op a b c r:Nat} (ha:val G a) (hb:val G b) (hc:val G c) (hr:val G r) (hd:den G r=S op (den G a) (den G b) (den G c)):MeOk S G (me.put op a b c r):=fun i e he=>by
 unfold Memo.put at he;split at he
 . injection he with he;subst he;exact ⟨ha,hb,hc,hr,hd⟩
 . exact h i e he
theorem MeOk.get {S:Sem} {G:Gr} {me:Memo} (h:MeOk S G me) {op a b c r:Nat} (hg:me.get op a b c=some r):val G r/\den G r=S op (den G a) (den G b) (den G c):=by
 unfold Memo.get at hg;split at hg
 . rename_i e he
   split at hg
   . rename_i hk
     injection hg with hg;subst hg
     obtain ⟨rfl,rfl,rfl,rfl⟩:=hk;obtain ⟨_,_,_,h4,h5⟩:=h _ e he;exact ⟨h4,h5⟩
   . cases hg
 . cases hg
structure Grew (S:Sem) (B K:Nat) (m m':Mg):Prop where
 ok:StOk B m'.s
 me:MeOk S m'.s.nd m'.me
 gro:Gro (fun _=>True) m.s m'.s
 many:many m'.s.pl.slots<=many m.s.pl.slots+K
 hs:m'.hs=m.hs
 next:m'.next=m.next
 fresh:m'.fresh=m.fresh
theorem Grew.trans {S:Sem} {B K L:Nat} {m m' m'':Mg} (h:Grew S B K m m') (k:Grew S B L m' m''):Grew S B (K+L) m m'' :=
 ⟨k.ok,k.me,h.gro.trans k.gro,by have:=h.many;have:=k.many;omega,k.hs.trans h.hs,k.next.trans h.next,k.fresh.trans h.fresh⟩
theorem Grew.mono {S:Sem} {B K L:Nat} {m m':Mg} (h:Grew S B K m m') (hL:K<=L):Grew S B L m m':=⟨h.ok,h.me,h.gro,by have:=h.many;omega,h.hs,h.next,h.fresh⟩
theorem Grew.refl {S:Sem} {B:Nat} {m:Mg} (h:StOk B m.s) (hm:MeOk S m.s.nd m.me):Grew S B 0 m m:=⟨h,hm,Gro.refl _ _,jBb _,rfl,rfl,rfl⟩
def Ends {α:Type} (K:Nat) (m m':Mg) (R:Mg->α ⊕ Nat->Prop):Rs α->Prop
 | .ok a=>m'.waits=m.waits/\R m' (.inl a)
 | .stop (.event ev)=>m.waits=ev::m'.waits
 | .stop (.err e)=>m'.waits=m.waits/\((e=7/\m.s.pl.room<many m.s.pl.slots+K)\/(e≠7/\R m' (.inr e)))
def Runs {α:Type} (S:Sem) (B K:Nat) (m:Mg) (x:Step α) (R:Mg->α ⊕ Nat->Prop):Prop:=∃ m' r,x=some (m',r)/\Grew S B K m m'/\Ends K m m' R r
theorem Ends.mono {α:Type} {K L:Nat} {m m':Mg} {R R':Mg->α ⊕ Nat->Prop} {r:Rs α} (h:Ends K m m' R r) (hL:K<=L) (hR:∀ x,R m' x->R' m' x):Ends L m m' R' r:=by
 cases r with
 | ok a=>exact ⟨h.1,hR _ h.2⟩
 | stop s=>cases s with
   | event ev=>exact h
   | err e=>exact ⟨h.1,h.2.imp (fun h=>⟨h.1,by omega⟩) fun h=>⟨h.1,hR _ h.2⟩⟩
theorem Runs.mono {α:Type} {S:Sem} {B K L:Nat} {m:Mg} {x:Step α} {R R':Mg->α ⊕ Nat->Prop} (h:Runs S B K m x R) (hL:K<=L) (hR:∀ m' y,Grew S B K m m'->R m' y->R' m' y):Runs S B L m x R':=by
 obtain ⟨m',r,rfl,g,e⟩:=h;exact ⟨m',r,rfl,g.mono hL,e.mono hL fun y=>hR m' y g⟩
theorem Runs.pure {α:Type} {S:Sem} {B:Nat} {m:Mg} {a:α} {R:Mg->α ⊕ Nat->Prop} (h:StOk B m.s) (hm:MeOk S m.s.nd m.me) (hR:R m (.inl a)):Runs S B 0 m (some (m,.ok a)) R:=⟨m,_,rfl,Grew.refl h hm,rfl,hR⟩
theorem Runs.fail {α:Type} {S:Sem} {B e:Nat} {m:Mg} {R:Mg->α ⊕ Nat->Prop} (h:StOk B m.s) (hm:MeOk S m.s.nd m.me) (he:e≠7) (hR:R m (.inr e)):Runs S B 0 m (some (m,.stop (.err e)):Step α) R:=⟨m,_,rfl,Grew.refl h hm,rfl,.inr ⟨he,hR⟩⟩
theorem Runs.then {α β:Type} {S:Sem} {B K L:Nat} {m:Mg} {x:Step α} {f:Mg->α->Step β} {R:Mg->α ⊕ Nat->Prop} {R':Mg->β ⊕ Nat->Prop} (h:Runs S B K m x R)
  (he:∀ m' e,Grew S B K m m'->R m' (.inr e)->R' m' (.inr e)) (hf:∀ m' a,Grew S B K m m'->m'.waits=m.waits->R m' (.inl a)->Runs S B L m' (f m' a) R'):Runs S B (K+L) m (x.then f) R':=by
 obtain ⟨m',r,rfl,g,hr⟩:=h;cases r with
 | ok a =>
   obtain ⟨m2,r2,h2,g2,e2⟩:=hf m' a g hr.1 hr.2;refine ⟨m2,r2,h2,g.trans g2,?_⟩;have hw:=hr.1;cases r2 with
   | ok b=>exact ⟨e2.1.trans hw,e2.2⟩
   | stop s=>cases s with
     | event ev =>
       have e2:m'.waits=ev::m2.waits:=e2;exact (hw.symm.trans e2:m.waits=ev::m2.waits)
     | err e=>exact ⟨e2.1.trans hw,e2.2.imp (fun h=>⟨h.1,by have:=g.many;have:=g.gro.room;omega⟩) id⟩
 | stop s=>cases s with
   | event ev=>exact ⟨m',_,rfl,g.mono (by omega),hr⟩
   | err e=>exact ⟨m',_,rfl,g.mono (by omega),hr.1,hr.2.imp (fun h=>⟨h.1,by omega⟩) fun h=>⟨h.1,he m' e g h.2⟩⟩
def Isf (φ:Fn) (m:Mg):Nat ⊕ Nat->Prop
 | .inl r=>val m.s.nd r/\den m.s.nd r=φ
 | .inr _=>False
section
variable {B:Nat} {s:St}
theorem StOk.above (h:StOk B s) {e v:Nat} (_:val s.nd e) (hi:∀ x,x<s.vars.length->lvf s x<=lvf s v->Indep (den s.nd e) x):∀ m,s.nd (e / 2)=some m->lvf s v<lvf s m.v:=fun m hm=>by
 refine Nat.lt_of_not_le fun hle=>?_
 have h1:=hi m.v (h.vars _ _ hm) hle;refine h.can.dep hm (e % 2 == 1) ?_
 rwa [edge_split]
def lvE (s:St) (e:Nat):Nat:=match s.nd (e / 2) with|some m=>lvf s m.v|none=>s.vars.length
theorem lvE_some {e:Nat} {m:Nd} (hm:s.nd (e / 2)=some m):lvE s e=lvf s m.v:=by unfold lvE;rw [hm]
theorem lvE_none {e:Nat} (hm:s.nd (e / 2)=none):lvE s e=s.vars.length:=by unfold lvE;rw [hm]
theorem StOk.indepE (h:StOk B s) {e x:Nat} (he:val s.nd e) (hx:x<s.vars.length) (hl:lvf s x<lvE s e):Indep (den s.nd e) x:=by
 refine h.low he fun m hm=>?_
 rwa [lvE_some hm] at hl
theorem lvE_div {e f:Nat} (h:e / 2=f / 2):lvE s e=lvE s f:=by unfold lvE;rw [h]
theorem lvE_gro {Q:Tb->Prop} {s':St} (g:Gro Q s s') {e:Nat} (he:val s.nd e) (h0:s'.nd 0=none):lvE s' e=lvE s e:=by
 have hlv:lvf s'=lvf s:=by unfold lvf;rw [g.lev]
 unfold lvE;rw [hlv,g.vars];cases hm:s.nd (e / 2) with
 | some m=>rw [g.old _ _ hm]
 | none =>
   rcases he with h|h
   . rw [h,h0]
   . rw [hm] at h;cases h
theorem StOk.splitI (h:StOk B s) {f v:Nat} (hf:val s.nd f) (hvn:v<s.vars.length) (hl:lvf s v<=lvE s f) (b:Bool) :
  val s.nd (if b then (s.splitI f v).2 else (s.splitI f v).1)/\den s.nd (if b then (s.splitI f v).2 else (s.splitI f v).1)=(fun ρ=>den s.nd f (upd ρ v b))/\lvf s v<lvE s (if b then (s.splitI f v).2 else (s.splitI f v).1):=by
 cases hn:s.nd (f / 2) with
 | none =>
   have he:s.splitI f v=(f,f):=by unfold St.splitI St.at_;rw [hn];rfl
   have hv:lvf s v<lvE s f:=by rw [lvE_none hn];exact (h.pm.lv v hvn).1
   rw [he];simp only [ite_self];exact ⟨hf,funext fun ρ=>(h.indepE hf hvn hv ρ b).symm,hv⟩
 | some n =>
   rw [lvE_some hn] at hl;by_cases hv:n.v=v
   . subst hv
     have he:s.splitI f n.v=(flipIf n.lo (f % 2 == 1),flipIf n.hi (f % 2 == 1)):=by unfold St.splitI St.at_;rw [hn];simp
     rw [he];have hif:(if b then (flipIf n.lo (f % 2 == 1),flipIf n.hi (f % 2 == 1)).2 else (flipIf n.lo (f % 2 == 1),flipIf n.hi (f % 2 == 1)).1)=flipIf (if b then n.hi else n.lo) (f % 2 == 1):=by cases b <;> rfl
     rw [hif];have hk:=h.can.toAcyc.kid hn b;have hind:Indep (den s.nd (if b then n.hi else n.lo)) n.v:=by cases b;exact h.can.indl _ _ hn;exact h.can.indh _ _ hn
     refine ⟨val_flipIf.2 hk.1,funext fun ρ=>?_,?_⟩
     . rw [Ki,Xx h.can.toAcyc hn,Qr]
       congr 1
       exact (hind ρ b).symm
     . rw [lvE_div (Ka _ _)]
       cases hm:s.nd ((if b then n.hi else n.lo) / 2) with
       | none=>rw [lvE_none hm];exact (h.pm.lv _ (h.vars _ _ hn)).1
       | some k=>rw [lvE_some hm];cases b;exact h.ord.lo _ _ hn (jCa _) _ hm;exact h.ord.hi _ _ hn (jCa _) _ hm
   . have he:s.splitI f v=(f,f):=by
       unfold St.splitI St.at_;rw [hn];show (if ((n.v:Nat):Int)=(v:Int) then _ else _)=_
       rw [jAb (by omega)]
     have hlt:lvf s v<lvE s f:=by
      rw [lvE_some hn];refine Nat.lt_of_le_of_ne hl fun e=>hv ?_
      exact (h.pm.inj hvn (h.vars _ _ hn) e).symm
     rw [he];simp only [ite_self];exact ⟨hf,funext fun ρ=>(h.indepE hf hvn hlt ρ b).symm,hlt⟩
theorem StOk.topF (h:StOk B s):∀ (l:List Nat) (q:Int × Int),(q=(-1,0)\/∃ v,v<s.vars.length/\q=((v:Int),(lvf s v:Int))) ->
  (let r:=l.foldl (fun q f=>match s.at_ f with|none=>q|some (v,_,_)=>if q.1<0\/s.level v<q.2 then ((v:Int),s.level v) else q) q
   (r=(-1,0)/\q=(-1,0)/\∀ e ∈ l,s.nd (e / 2)=none)\/∃ v,v<s.vars.length/\r=((v:Int),(lvf s v:Int))/\(∀ x:Nat,q=((x:Int),(lvf s x:Int))->lvf s v<=lvf s x)/\(∀ e ∈ l,lvf s v<=lvE s e)/\((q=((v:Int),(lvf s v:Int)))\/∃ e ∈ l,∃ m,s.nd (e / 2)=some m/\m.v=v))
 | [],q,hq=>by
   rcases hq with rfl|⟨v,hv,rfl⟩
   . exact .inl ⟨rfl,rfl,by simp⟩
   . refine .inr ⟨v,hv,rfl,fun x hx=>?_,by simp,.inl rfl⟩
     have:=jQb Prod.snd hx;simp at this
     omega
 | e::l,q,hq=>by
   simp only [List.foldl_cons];cases hn:s.nd (e / 2) with
   | none =>
     have he:s.at_ e=none:=by unfold St.at_;rw [hn];rfl
     rw [he];rcases h.topF l q hq with ⟨h1,h2,h3⟩|⟨v,h1,h2,h3,h4,h5⟩
     . exact .inl ⟨h1,h2,by intro x hx;rcases jBa.1 hx with rfl|hx;exact hn;exact h3 x hx⟩
     . refine .inr ⟨v,h1,h2,h3,fun x hx=>?_,?_⟩
       . rcases jBa.1 hx with rfl|hx
         . rw [lvE_none hn];exact Nat.le_of_lt (h.pm.lv v h1).1
         . exact h4 x hx
       . rcases h5 with h5|⟨x,hx,m,hm⟩
         . exact .inl h5
         . exact .inr ⟨x,.tail _ hx,m,hm⟩
   | some n =>
     have hnv:=h.vars _ _ hn;have he:s.at_ e=some (n.v,flipIf n.lo (e % 2 == 1),flipIf n.hi (e % 2 == 1)):=by unfold St.at_;rw [hn];rfl
     have hlev:=h.pm.level_nat hnv;rw [he];simp only [hlev];by_cases hc:q.1<0\/(lvf s n.v:Int)<q.2
     . rw [jAa hc]
       rcases h.topF l _ (.inr ⟨n.v,hnv,rfl⟩) with ⟨_,h2,_⟩|⟨v,h1,h2,h3,h4,h5⟩
       . exact absurd (jQb Prod.fst h2) (by simp <;> omega)
       . have h6:=h3 n.v rfl
         refine .inr ⟨v,h1,h2,fun x hx=>?_,fun x hx=>?_,?_⟩
         . subst hx
           simp at hc
           omega
         . rcases jBa.1 hx with rfl|hx
           . rw [lvE_some hn];exact h6
           . exact h4 x hx
         . rcases h5 with h5|⟨x,hx,m,hm⟩
           . refine .inr ⟨e,.head _,n,hn,?_⟩
             have:=jQb Prod.fst h5;simp at this
             omega
           . exact .inr ⟨x,.tail _ hx,m,hm⟩
     . rw [jAb hc]
       rcases h.topF l q hq with ⟨_,h2,_⟩|⟨v,h1,h2,h3,h4,h5⟩
       . subst h2;simp at hc
       . refine .inr ⟨v,h1,h2,h3,fun x hx=>?_,?_⟩
         . rcases jBa.1 hx with rfl|hx
           . rw [lvE_some hn]
             rcases hq with rfl|⟨y,hy,rfl⟩
             . simp at hc
             . have:=h3 y rfl
               simp at hc
               omega
           . exact h4 x hx
         . rcases h5 with h5|⟨x,hx,m,hm⟩
           . exact .inl h5
           . exact .inr ⟨x,.tail _ hx,m,hm⟩
theorem StOk.topE (h:StOk B s) {l:List Nat} (hx:∃ e ∈ l,(s.nd (e / 2)).isSome=true):∃ v,v<s.vars.length/\(s.topE l).1=(v:Int)/\(∀ e ∈ l,lvf s v<=lvE s e)/\∃ e ∈ l,∃ m,s.nd (e / 2)=some m/\m.v=v:=by
 rcases h.topF l (-1,0) (.inl rfl) with ⟨_,_,h3⟩|⟨v,h1,h2,h3,h4,h5⟩
 . obtain ⟨e,he,hs⟩:=hx
   rw [h3 e he] at hs;cases hs
 . refine ⟨v,h1,jQb Prod.fst h2,h4,?_⟩
   rcases h5 with h5|h5
   . exact absurd (jQb Prod.fst h5) (by simp <;> omega)
   . exact h5
end
theorem Added.gro {B:Nat} {s s':St} {v lo hi id:Nat} (a:Added s v lo hi s' id) (hd:∀ e,val s.nd e->∀ ρ,den s'.nd e ρ=den s.nd e ρ) (_:StOk B s):Gro (fun _=>True) s s' where
 vars:=a.vars
 lev:=a.lev
 room:=a.room
 old i n hn:=by rw [a.nd,Qq _ _ (by rintro rfl;rw [a.old] at hn;cases hn)];exact hn
 dens e he:=funext (hd e he)
 new i n h1 h2:=by
  rw [a.nd] at h1;by_cases hi:i=id
  . subst hi;rw [Ql] at h1;injection h1 with h1;subst h1;exact ⟨rfl,trivial⟩
  . rw [Qq _ _ hi,h2] at h1;cases h1
theorem Mg.mk_ok {S:Sem} {B:Nat} {m:Mg} (h:StOk B m.s) (hm:MeOk S m.s.nd m.me) {v lo hi:Nat} (hv:v<m.s.vars.length) (hl:val m.s.nd lo) (hh:val m.s.nd hi)
  (il:∀ x,x<m.s.vars.length->lvf m.s x<=lvf m.s v->Indep (den m.s.nd lo) x) (ih:∀ x,x<m.s.vars.length->lvf m.s x<=lvf m.s v->Indep (den m.s.nd hi) x) :
  Runs S B 1 m (m.mk_ v lo hi) (Isf (ite3 v (den m.s.nd hi) (den m.s.nd lo))):=by
 have key:∀ c:Int,Runs S B 1 m (({ m with calls:=c }:Mg).mkS v lo hi) (Isf (ite3 v (den m.s.nd hi) (den m.s.nd lo))):=fun c=>by
  unfold Mg.mkS;rcases h.make hv hl hh (h.above hl il) (h.above hh ih) with ⟨r,h1,h2,h3⟩|⟨h1,h2,_,_⟩|⟨s',id,t,h1,h2,h3,h4,_,h5,h6,_⟩
  . refine ⟨{ m with calls:=c },.ok r,?_,⟨h,hm,Gro.refl _ _,Nat.le_succ _,rfl,rfl,rfl⟩,rfl,h2,funext h3⟩
    show (match m.s.mkE v lo hi with|none=>none|some (s,r,e)=>_)=_
    rw [h1];rfl
  . refine ⟨{ m with calls:=c },.stop (.err 7),?_,⟨h,hm,Gro.refl _ _,Nat.le_succ _,rfl,rfl,rfl⟩,rfl,.inl ⟨rfl,by omega⟩⟩
    show (match m.s.mkE v lo hi with|none=>none|some (s,r,e)=>_)=_
    rw [h1];rfl
  . have g:=h2.gro h5 h
    refine ⟨{ m with calls:=c,s:=s' },.ok (G.edge id t),?_,⟨h3,hm.gro g,g,by show _<=_;rw [h2.many];exact jBb _,rfl,rfl,rfl⟩,rfl,?_,funext h6⟩
    . show (match m.s.mkE v lo hi with|none=>none|some (s,r,e)=>_)=_
      rw [h1];rfl
    . show val s'.nd _
      rw [h2.nd];exact val_some (Ql _ _ _) _
 unfold Mg.mk_
 dsimp only
 split
 . rename_i ev l hw
   split
   . exact ⟨_,_,rfl,⟨h,hm,Gro.refl _ _,Nat.le_succ _,rfl,rfl,rfl⟩,hw⟩
   . exact key _
 . exact key _
end G
namespace G
section
variable {G:Gr}
theorem den_zero (g0:G 0=none) (ρ:Nat->Bool):den G 0 ρ=true:=Qv g0 rfl ρ
theorem den_one (g0:G 0=none) (ρ:Nat->Bool):den G 1 ρ=false:=Qv g0 rfl ρ
theorem iteF_congr {φ ψ ψ' χ χ':Fn} (ρ:Nat->Bool) (h1:φ ρ=true->ψ' ρ=ψ ρ) (h2:φ ρ=false->χ' ρ=χ ρ):iteF φ ψ χ ρ=iteF φ ψ' χ' ρ:=by
 unfold iteF;cases h:φ ρ with
 | true=>simp [h1 h]
 | false=>simp [h2 h]
theorem iteE_ok (g0:G 0=none) (f g h:Nat):match iteE f g h with
  | .inl r=>(∀ Q:Nat->Prop,Q 0->Q (f / 2)->Q (g / 2)->Q (h / 2)->Q (r / 2))/\∀ ρ,iteF (den G f) (den G g) (den G h) ρ=den G r ρ
  | .inr (a,b,c,n)=>(∀ Q:Nat->Prop,Q 0->Q (f / 2)->Q (g / 2)->Q (h / 2)->Q (a / 2)/\Q (b / 2)/\Q (c / 2))/\a / 2≠0/\∀ ρ,iteF (den G f) (den G g) (den G h) ρ=(n ^^ iteF (den G a) (den G b) (den G c) ρ):=by
 unfold iteE;have hg:∀ g' ,g'=(if g=f then 0 else if g=flip f then 1 else g)->(∀ Q:Nat->Prop,Q 0->Q (g / 2)->Q (g' / 2))/\∀ ρ,den G f ρ=true->den G g' ρ=den G g ρ:=by
  rintro _ rfl;split
  . rename_i e;subst e
    exact ⟨fun Q q _=>q,fun ρ hρ=>by rw [den_zero g0,hρ]⟩
  . split
    . rename_i e;subst e
      exact ⟨fun Q q _=>q,fun ρ hρ=>by rw [den_one g0,den_flip,hρ];rfl⟩
    . exact ⟨fun Q _ q=>q,fun ρ _=>rfl⟩
 have hh:∀ h' ,h'=(if h=f then 1 else if h=flip f then 0 else h)->(∀ Q:Nat->Prop,Q 0->Q (h / 2)->Q (h' / 2))/\∀ ρ,den G f ρ=false->den G h' ρ=den G h ρ:=by
  rintro _ rfl;split
  . rename_i e;subst e
    exact ⟨fun Q q _=>q,fun ρ hρ=>by rw [den_one g0,hρ]⟩
  . split
    . rename_i e;subst e
      exact ⟨fun Q q _=>q,fun ρ hρ=>by rw [den_zero g0,den_flip,hρ];rfl⟩
    . exact ⟨fun Q _ q=>q,fun ρ _=>rfl⟩
 simp only [];generalize hg':(if g=f then 0 else if g=flip f then 1 else g)=g';generalize hh':(if h=f then 1 else if h=flip f then 0 else h)=h';obtain ⟨qg,dg⟩:=hg g' hg'.symm;obtain ⟨qh,dh⟩:=hh h' hh'.symm;have key:∀ ρ,iteF (den G f) (den G g) (den G h) ρ=iteF (den G f) (den G g') (den G h') ρ:=fun ρ=>iteF_congr ρ (dg ρ) (dh ρ)
 by_cases c1:f=0\/g'=h'
 . rw [jAa c1]
   refine ⟨fun Q q0 _ q1 _=>qg Q q0 q1,fun ρ=>?_⟩;rw [key];rcases c1 with rfl|rfl
   . unfold iteF;rw [den_zero g0];rfl
   . unfold iteF;simp
 rw [jAb c1];by_cases c2:f=1
 . rw [jAa c2]
   refine ⟨fun Q q0 _ _ q2=>qh Q q0 q2,fun ρ=>?_⟩;subst c2;rw [key];unfold iteF;rw [den_one g0];rfl
 rw [jAb c2];by_cases c3:g'=0/\h'=1
 . rw [jAa c3]
   refine ⟨fun Q _ q _ _=>q,fun ρ=>?_⟩;rw [key,c3.1,c3.2];unfold iteF;rw [den_zero g0,den_one g0];cases den G f ρ <;> rfl
 rw [jAb c3];by_cases c4:g'=1/\h'=0
 . rw [jAa c4]
   refine ⟨fun Q _ q _ _=>by rw [flip_div];exact q,fun ρ=>?_⟩;rw [key,c4.1,c4.2,den_flip];unfold iteF;rw [den_zero g0,den_one g0];cases den G f ρ <;> rfl
 rw [jAb c4];have hf2:f / 2≠0:=by omega
 have fin:∀ a b c:Nat,a / 2=f / 2->(∀ Q:Nat->Prop,Q 0->Q (g / 2)->Q (h / 2)->Q (b / 2)/\Q (c / 2))->(∀ ρ,iteF (den G f) (den G g') (den G h') ρ=iteF (den G a) (den G b) (den G c) ρ) ->
   (∀ Q:Nat->Prop,Q 0->Q (f / 2)->Q (g / 2)->Q (h / 2)->Q (a / 2)/\Q (flipIf b (b % 2 == 1) / 2)/\Q (flipIf c (b % 2 == 1) / 2))/\a / 2≠0/\∀ ρ,iteF (den G f) (den G g) (den G h) ρ=((b % 2 == 1) ^^ iteF (den G a) (den G (flipIf b (b % 2 == 1))) (den G (flipIf c (b % 2 == 1))) ρ):=fun a b c ha hQ hρ=>by
  refine ⟨fun Q q0 q1 q2 q3=>?_,by rw [ha];exact hf2,fun ρ=>?_⟩
  . rw [Ka,Ka,ha];exact ⟨q1,hQ Q q0 q2 q3⟩
  . rw [key,hρ]
    unfold iteF;rw [Ki,Ki];cases den G a ρ <;> simp
 by_cases hf:f % 2=1
 . rw [jAa hf]
   refine fin _ _ _ (flip_div f) (fun Q q0 q2 q3=>⟨qh Q q0 q3,qg Q q0 q2⟩) fun ρ=>?_
   unfold iteF;rw [den_flip];cases den G f ρ <;> rfl
 . rw [jAb hf]
   exact fin _ _ _ rfl (fun Q q0 q2 q3=>⟨qg Q q0 q2,qh Q q0 q3⟩) fun ρ=>rfl
theorem iteN_ok (g0:G 0=none):∀ (k:Nat) (t:Bool) (f g h:Nat),(k=0->f / 2≠0)->match iteN k t f g h with
  | (u,.inl r)=>(∀ Q:Nat->Prop,Q 0->Q (f / 2)->Q (g / 2)->Q (h / 2)->Q (r / 2))/\∀ ρ,(t ^^ iteF (den G f) (den G g) (den G h) ρ)=(u ^^ den G r ρ)
  | (u,.inr (a,b,c))=>(∀ Q:Nat->Prop,Q 0->Q (f / 2)->Q (g / 2)->Q (h / 2)->Q (a / 2)/\Q (b / 2)/\Q (c / 2))/\a / 2≠0/\∀ ρ,(t ^^ iteF (den G f) (den G g) (den G h) ρ)=(u ^^ iteF (den G a) (den G b) (den G c) ρ)
 | 0,t,f,g,h,hk=>⟨fun Q _ q1 q2 q3=>⟨q1,q2,q3⟩,hk rfl,fun ρ=>rfl⟩
 | k+1,t,f,g,h,_=>by
   have h1:=iteE_ok g0 f g h;unfold iteN
   revert h1
   rcases iteE f g h with r|⟨a,b,c,n⟩
   . exact fun h1=>⟨h1.1,fun ρ=>by rw [h1.2]⟩
   . intro h1
     obtain ⟨h1,h2,h3⟩:=h1;simp only [];by_cases hc:a=f/\b=g/\c=h
     . rw [jAa hc]
       obtain ⟨rfl,rfl,rfl⟩:=hc;exact ⟨fun Q _ q1 q2 q3=>⟨q1,q2,q3⟩,h2,fun ρ=>by
        have:=h3 ρ;cases n with
        | false=>simp
        | true=>simp at this⟩
     . rw [jAb hc]
       have ih:=iteN_ok g0 k (t ^^ n) a b c (fun _=>h2)
       revert ih
       rcases iteN k (t ^^ n) a b c with ⟨u,r|⟨a',b',c'⟩⟩
       . rintro ⟨i1,i2⟩
         exact ⟨fun Q q0 q1 q2 q3=>by obtain ⟨x,y,z⟩:=h1 Q q0 q1 q2 q3;exact i1 Q q0 x y z,fun ρ=>by rw [h3,<- i2,Bool.xor_assoc]⟩
       . rintro ⟨i1,i2,i3⟩
         exact ⟨fun Q q0 q1 q2 q3=>by obtain ⟨x,y,z⟩:=h1 Q q0 q1 q2 q3;exact i1 Q q0 x y z,i2,fun ρ=>by rw [h3,<- i3,Bool.xor_assoc]⟩
end
theorem pow_half {n l L:Nat} (hl:l<n) (hL:L<=l):(2 ^ (n - (l+1)) - 1)+((2 ^ (n - (l+1)) - 1)+(1+0))<=2 ^ (n - L) - 1:=by
 have h1:0<2 ^ (n - (l+1)):=Nat.pow_pos (by decide);have h2:2 ^ (n - l)=2 * 2 ^ (n - (l+1)):=by rw [show n - l=(n - (l+1))+1 by omega,Nat.pow_succ];omega
 have h3:2 ^ (n - l)<=2 ^ (n - L):=kPb (by decide) (by omega);omega
theorem Mg.ite_ok {S:Sem} (hS1:∀ φ ψ χ,S 1 φ ψ χ=iteF φ ψ χ) {B:Nat}:∀ (k L:Nat) (m:Mg) (f g h:Nat),StOk B m.s->MeOk S m.s.nd m.me->val m.s.nd f->val m.s.nd g->val m.s.nd h ->
  L<=m.s.vars.length->L<=lvE m.s f->L<=lvE m.s g->L<=lvE m.s h->m.s.vars.length<k+L ->
  Runs S B (2 ^ (m.s.vars.length - L) - 1) m (m.ite k f g h) (Isf (iteF (den m.s.nd f) (den m.s.nd g) (den m.s.nd h)))
 | 0,L,m,f,g,h,_,_,_,_,_,hL,_,_,_,hk=>by omega
 | k+1,L,m,f,g,h,hok,hme,vf,vg,vh,hL,lf,lg,lh,hk=>by
   have g0:=hok.can.g0;have h1:=iteN_ok g0 3 false f g h (fun h=>by cases h);unfold Mg.ite
   revert h1
   rcases iteN 3 false f g h with ⟨t,r|⟨a,b,c⟩⟩
   . rintro ⟨h1,h2⟩
     refine (Runs.pure hok hme ⟨val_flipIf.2 ?_,funext fun ρ=>?_⟩).mono (jCa _) fun _ _ _ h=>h
     . exact h1 (fun i=>i=0\/(m.s.nd i).isSome=true) (.inl rfl) vf vg vh
     . have:=h2 ρ
       rw [Bool.false_xor] at this;rw [Ki,this]
   rintro ⟨h1,h2,h3⟩;have hv:=h1 (fun i=>i=0\/(m.s.nd i).isSome=true) (.inl rfl) vf vg vh;have hl:=h1 (fun i=>∀ e,e / 2=i->L<=lvE m.s e) (fun e he=>by rw [lvE_none (by rw [he];exact g0)];exact hL) (fun e he=>by rw [lvE_div he];exact lf) (fun e he=>by rw [lvE_div he];exact lg) (fun e he=>by rw [lvE_div he];exact lh);obtain ⟨va,vb,vc⟩:=hv;obtain ⟨la,lb,lc⟩:=hl;have la:=la a rfl;have lb:=lb b rfl;have lc:=lc c rfl;have va:val m.s.nd a:=va;have vb:val m.s.nd b:=vb;have vc:val m.s.nd c:=vc;simp only [];cases hget:m.me.get 1 a b c with
   | some r =>
     obtain ⟨e1,e2⟩:=hme.get hget;rw [hS1] at e2;refine (Runs.pure hok hme ⟨val_flipIf.2 e1,funext fun ρ=>?_⟩).mono (jCa _) fun _ _ _ h=>h
     have:=h3 ρ;rw [Bool.false_xor] at this;rw [Ki,e2,this]
   | none =>
     have hsa:(m.s.nd (a / 2)).isSome=true:=va.resolve_left h2;obtain ⟨v,hvn,hve,hvl,_⟩:=hok.topE (l:=[a,b,c]) ⟨a,.head _,hsa⟩;have hlL:L<=lvf m.s v:=by
      obtain ⟨v',hvn',hve',_,e,he,n',hn',hv'⟩:=hok.topE (l:=[a,b,c]) ⟨a,.head _,hsa⟩
      have:v'=v:=by rw [hve] at hve';omega
      subst this;have hlv:lvE m.s e=lvf m.s v':=by rw [lvE_some hn',hv']
      rw [<- hlv];simp only [jBa,jCb,jKb] at he;rcases he with rfl|rfl|rfl
      . exact la
      . exact lb
      . exact lc
     have hlv:=(hok.pm.lv v hvn).1;have sa:=hok.splitI va hvn (hvl a (by simp));have sb:=hok.splitI vb hvn (hvl b (by simp));have sc:=hok.splitI vc hvn (hvl c (by simp));simp only [hve];have sa0:=sa false;have sa1:=sa true
     have sb0:=sb false;have sb1:=sb true
     have sc0:=sc false;have sc1:=sc true
     simp only [jE,jS,jC] at sa0 sa1 sb0 sb1 sc0 sc1;generalize (m.s.splitI a v).1=a0 at *
     generalize (m.s.splitI a v).2=a1 at *
     generalize (m.s.splitI b v).1=b0 at *
     generalize (m.s.splitI b v).2=b1 at *
     generalize (m.s.splitI c v).1=c0 at *
     generalize (m.s.splitI c v).2=c1 at *
     have hr:=Mg.ite_ok hS1 (B:=B) k (lvf m.s v+1) m a0 b0 c0 hok hme sa0.1 sb0.1 sc0.1 hlv sa0.2.2 sb0.2.2 sc0.2.2 (by omega);refine ((hr.then (L:=(2 ^ (m.s.vars.length - (lvf m.s v+1)) - 1)+(1+0)) (R':=Isf (iteF (den m.s.nd f) (den m.s.nd g) (den m.s.nd h))) (fun m' e _ hb=>hb.elim) fun m1 lo g1 _ r1=>?_)).mono (pow_half hlv hlL) fun _ _ _ h=>h
     obtain ⟨vlo,dlo⟩:=r1;have n1:m1.s.vars.length=m.s.vars.length:=by rw [g1.gro.vars]
     have lvm:lvf m1.s=lvf m.s:=by unfold lvf;rw [g1.gro.lev]
     have g01:=g1.ok.can.g0;have hr2:=Mg.ite_ok hS1 (B:=B) k (lvf m.s v+1) m1 a1 b1 c1 g1.ok g1.me (g1.gro.val sa1.1) (g1.gro.val sb1.1) (g1.gro.val sc1.1) (by rw [n1];exact hlv)
      (by rw [lvE_gro g1.gro sa1.1 g01];exact sa1.2.2) (by rw [lvE_gro g1.gro sb1.1 g01];exact sb1.2.2) (by rw [lvE_gro g1.gro sc1.1 g01];exact sc1.2.2) (by rw [n1];omega)
     rw [n1] at hr2;refine hr2.then (L:=1+0) (fun m' e _ hb=>hb.elim) fun m2 hi g2 _ r2=>?_
     obtain ⟨vhi,dhi⟩:=r2;have n2:m2.s.vars.length=m.s.vars.length:=by rw [g2.gro.vars,n1]
     have lvm2:lvf m2.s=lvf m.s:=by unfold lvf;rw [g2.gro.lev,g1.gro.lev]
     rw [g1.gro.dens _ sa1.1,g1.gro.dens _ sb1.1,g1.gro.dens _ sc1.1] at dhi;have ind:∀ (e:Nat) x,val m.s.nd e->lvf m.s v<lvE m.s e->x<m.s.vars.length->lvf m.s x<=lvf m.s v->Indep (den m.s.nd e) x:=fun e x he hl hx hxl=>hok.indepE he hx (by omega)
     have indF:∀ {φ ψ χ:Fn} {x:Nat},Indep φ x->Indep ψ x->Indep χ x->Indep (iteF φ ψ χ) x:=fun i j l ρ b=>by unfold iteF;rw [i,j,l]
     have dlo2:den m2.s.nd lo=iteF (den m.s.nd a0) (den m.s.nd b0) (den m.s.nd c0):=by rw [g2.gro.dens _ vlo,dlo]
     have hmk:=Mg.mk_ok (S:=S) g2.ok g2.me (v:=v) (lo:=lo) (hi:=hi) (by rw [n2];exact hvn) (g2.gro.val vlo) vhi
      (fun x hx hxl=>by
        rw [n2] at hx;rw [lvm2] at hxl;rw [dlo2];exact indF (ind _ x sa0.1 sa0.2.2 hx hxl) (ind _ x sb0.1 sb0.2.2 hx hxl) (ind _ x sc0.1 sc0.2.2 hx hxl))
      (fun x hx hxl=>by
        rw [n2] at hx;rw [lvm2] at hxl;rw [dhi];exact indF (ind _ x sa1.1 sa1.2.2 hx hxl) (ind _ x sb1.1 sb1.2.2 hx hxl) (ind _ x sc1.1 sc1.2.2 hx hxl))
     refine hmk.then (L:=0) (fun m' e _ hb=>hb.elim) fun m3 r g3 _ r3=>?_
     obtain ⟨vr,dr⟩:=r3;have gg:Gro (fun _=>True) m.s m3.s:=(g1.gro.trans g2.gro).trans g3.gro;rw [dlo2,dhi,sa0.2.1,sb0.2.1,sc0.2.1,sa1.2.1,sb1.2.1,sc1.2.1] at dr;have dr':den m3.s.nd r=iteF (den m.s.nd a) (den m.s.nd b) (den m.s.nd c):=by
      rw [dr];funext ρ
      unfold ite3 iteF;cases hb:ρ v with
      | true=>simp only [jC];have:=upd_same ρ v;rw [hb] at this;rw [this]
      | false=>simp only [jE,jS];have:=upd_same ρ v;rw [hb] at this;rw [this]
     have hput:=g3.me.put (op:=1) (gg.val va) (gg.val vb) (gg.val vc) vr (by rw [hS1,gg.dens _ va,gg.dens _ vb,gg.dens _ vc,dr']);refine ⟨{ m3 with me:=m3.me.put 1 a b c r },_,rfl,⟨g3.ok,hput,Gro.refl _ _,jBb _,rfl,rfl,rfl⟩,rfl,val_flipIf.2 vr,funext fun ρ=>?_⟩
     have:=h3 ρ;rw [Bool.false_xor] at this;rw [Ki,dr',this]
end G
end Go.Proofs.YtidamcdklgfogaaGreatDoor
