import Derived.Test.YtidamcdklgfogaaGreatZab
import Derived.Test.YtidamcdklgfogaaGreatZba
set_option linter.unusedSimpArgs false
set_option linter.unusedVariables false
set_option maxRecDepth 100000
set_option maxHeartbeats 8000000
namespace Go.Proofs.YtidamcdklgfogaaGreat
section
open Go.RowKit
theorem own_set {m':PH} {e:TypeId} {A:Option Addr} {n c i:Nat} {l:List Nat} {x:Nat} (hi:i<l.length) (h:OwnP m' e 1 (.slice A n c) n (spl (l.flatMap ivC) i (Value.cells (nv x)).toList)):OwnP m' e 1 (.slice A n c) n ((l.set i x).flatMap ivC):=by
 rw [← flat_set Zn _ _ hi,Nat.mul_one]
 exact h
theorem lswap_any {E w:World} {I mV mL:PH} {ms:List PH} {L k a b:Nat} {vV vL:Value} {vs lv:List Nat} (i0:I.at L 0=some vV) (i1:I.at L 1=some vL) (hV:OwnP mV 3 1 vV vs.length (vs.flatMap ivC)) (hL:OwnP mL 3 1 vL lv.length (lv.flatMap ivC))
  (hk:k+1<vs.length) (ha:vs[k]?=some a) (hb:vs[k+1]?=some b) (hal:a<lv.length) (hbl:b<lv.length) (hn1:vs.length≤64) (hn2:lv.length≤64) (hS:Sat E I (mV::mL::ms) w) :
  Calls Tryz.prog 144 #[vPt L,nv k] w fun e w'=>e=.returned (.tuple #[])∧∃ mV' mL',OwnP mV' 3 1 vV vs.length (((vs.set k b).set (k+1) a).flatMap ivC)∧OwnP mL' 3 1 vL lv.length (((lv.set a (k+1)).set b k).flatMap ivC)∧Sat E I (mV'::mL'::ms) w':=by
 obtain ⟨V,cV,rfl,_⟩:=hV.ptr (by omega)
 obtain ⟨LL,cL,rfl,_⟩:=hL.ptr (by omega)
 generalize hk1:k+1=k1 at *
 have hkk:(k:Int)+1=(k1:Int):=by omega
 have hk0:k<vs.length:=by omega
 have cA:Cells mV V k (ivC a):=by have:=Ke Zn hV ha;rwa [Nat.mul_one] at this
 have cB:Cells mV V k1 (ivC b):=by have:=Ke Zn hV hb;rwa [Nat.mul_one] at this
 have h1:∀ m',OwnP m' 3 1 (.slice (some ⟨V,0,none⟩) vs.length cV) vs.length (spl (vs.flatMap ivC) k (Value.cells (nv b)).toList)→OwnP m' 3 1 (.slice (some ⟨V,0,none⟩) vs.length cV) vs.length ((vs.set k b).flatMap ivC):=fun m' h=>own_set hk0 h
 have h2:∀ m',OwnP m' 3 1 (.slice (some ⟨V,0,none⟩) vs.length cV) vs.length (spl ((vs.set k b).flatMap ivC) k1 (Value.cells (nv a)).toList)→OwnP m' 3 1 (.slice (some ⟨V,0,none⟩) vs.length cV) vs.length (((vs.set k b).set k1 a).flatMap ivC):=fun m' h=>own_set (by simpa using hk) h
 have h3:∀ m',OwnP m' 3 1 (.slice (some ⟨LL,0,none⟩) lv.length cL) lv.length (spl (lv.flatMap ivC) a (Value.cells (nv k1)).toList)→OwnP m' 3 1 (.slice (some ⟨LL,0,none⟩) lv.length cL) lv.length ((lv.set a k1).flatMap ivC):=fun m' h=>own_set hal h
 have h4:∀ m',OwnP m' 3 1 (.slice (some ⟨LL,0,none⟩) lv.length cL) lv.length (spl ((lv.set a k1).flatMap ivC) b (Value.cells (nv k)).toList)→OwnP m' 3 1 (.slice (some ⟨LL,0,none⟩) lv.length cL) lv.length (((lv.set a k1).set b k).flatMap ivC):=fun m' h=>own_set (by simpa using hbl) h
 have H1:=yH h1
 have H2:=yH h2
 have H3:=yH h3
 have H4:=yH h4
 have HV:=yH hV
 have HL:=yH hL
 have ki:(k:Int)<(vs.length:Int):=by omega
 have k1i:(k1:Int)<(vs.length:Int):=by omega
 have ai:(a:Int)<(lv.length:Int):=by omega
 have bi:(b:Int)<(lv.length:Int):=by omega
 obtain ⟨J,lJ,lV,hS1,bV⟩:=hS.ice
 have j0:J.at L 0=some (.slice (some ⟨V,0,none⟩) vs.length cV):=PH.at_le lJ i0
 have jA:J.at V k=some (nv a):=PH.at_le lV (cA.at 0 rfl)
 have jB:J.at V k1=some (nv b):=PH.at_le lV (cB.at 0 rfl)
 have HbV:=yH bV
 clear h1 h2 h3 h4 hV hL cA cB ha hb hS bV lV lJ
 generalize hvn:vs.length=n at *
 generalize hln:lv.length=n2 at *
 go_enter Tryz.func144,Tryz.ntmps144
 go_wp2_with fail
 refine Qx [[],[0],[0,1],[0,1,2],[],[0,1,2,3,4],[0,1,2,3,4,5],[],[7],[7,8],[7,8,9],[],[11],[7,8,9,10,11,12],[7,8,9,10,11,12,13],[0,1,2,3,4,5,6],[0,1,2,3,4,5,6,7,8,9,10,11,12,13,14,15]] E J _
  [fun v _=>v=vPt L,fun v _=>v=vPt L,fun v _=>v=vPt L,fun v _=>v=.slice (some ⟨V,0,none⟩) n cV,fun v _=>v=nv k,fun v _=>v=.pointer (some ⟨V,k,none⟩),fun v _=>v=nv a,fun v _=>v=vPt L,fun v _=>v=vPt L,fun v _=>v=vPt L,fun v _=>v=.slice (some ⟨V,0,none⟩) n cV,fun v _=>v=nv k,fun v _=>v=nv k1,fun v _=>v=.pointer (some ⟨V,k1,none⟩),fun v _=>v=nv b,fun v _=>v=nv a,fun v _=>v=nv b] []
  (fun _ _ _ ns=>ns=mL::ms) (by kernel_rfl) (by kernel_rfl) (by decide) hS1 rfl ?last (fun _ _ _ _ _ _ h=>h) (fun _ _ _ _ _ _ h=>h) ?plain ?step ?fin
 case last=>repeat (first|exact Lasting.nil|refine Lasting.cons (fun _ _ _ _ h=>h) ?_)
 case plain=>(repeat' (first|exact trivial|apply And.intro)) <;>  (refine .inr ?_;intro s vals J bs w hstop hg hJ hS hG;clear hG;simp only [zH,zI,Given,Facts] at hg;simp only [Qd,Qh,Qe,Qj,zH,zI,zA,zB,zK,if_true,Act.put,zE,zF,zG,hg];refine ⟨?_⟩;refine Qg (fun K hK=>?_);have HK:=yH hK;clear hK;rw [if_pos (by rfl)];(first|((with_reducible refine Qs ?_);first|((refine' Qq (v:=_) hS hJ ?ha rfl ?hc ?_);(case ha=>first|exact Kn|exact Qf);(case hc=>assumption)))|(go_wp2_with (fail)));refine HK.out _ _ ⟨rfl,J,PH.le.refl _,hS,?_⟩;clear HK;simp only [Facts];simp only [Qo,zH,zI,Act.put,zE,zF,zG,zD,zC,zA,zB,zJ])
 case step=>trivial
 case fin =>
  intro vals J9 bs w hJ hg hS hG
  have hG:bs=_:=hG
  subst hG
  have hS:=HbV.out _ _ (hS.less hJ)
  clear j0 jA jB HbV hJ hS1
  simp only [yB,yC,Nat.reduceAdd,Below_,Facts,zH,zI,true_and] at hg;simp only [yB,yC,Nat.reduceAdd,Qd,Qh,Qe,zA,zB,zK,if_true,Act.put,zE,zF,zG,hg];refine ⟨?_⟩
  clear hg
  go_wp2_with fail
  refine Qx [[],[0],[0,1],[0,1,2],[],[],[5],[5,6],[5,6,7],[],[9],[],[],[0,1,2,3,4,5,6,7,8,11],[0,1,2,3,4,5,6,7,8,11,13],[0,1,2,3,4,5,6,7,8,9,10,11,12,13,14],[0,1,2,3,4,5,6,7,8,9,10,11,12,13,14,15]] E I _
   [fun v _=>v=vPt L,fun v _=>v=vPt L,fun v _=>v=vPt L,fun v _=>v=.slice (some ⟨V,0,none⟩) n cV,fun v _=>v=nv k,fun v _=>v=vPt L,fun v _=>v=vPt L,fun v _=>v=vPt L,fun v _=>v=.slice (some ⟨V,0,none⟩) n cV,fun v _=>v=nv k,fun v _=>v=nv k1,fun v _=>v=nv b,fun v _=>v=nv a,fun v _=>v=.pointer (some ⟨V,k,none⟩),fun _ _=>True,fun v _=>v=.pointer (some ⟨V,k1,none⟩),fun _ _=>True] [14,16]
   (set2G _ 0 0 (fun m'=>OwnP m' 3 1 (.slice (some ⟨V,0,none⟩) n cV) n ((vs.set k b).flatMap ivC)) (fun m'=>OwnP m' 3 1 (.slice (some ⟨V,0,none⟩) n cV) n (((vs.set k b).set k1 a).flatMap ivC))) (by kernel_rfl) (by kernel_rfl) (by decide) hS rfl ?last (fun _ _ _ _ _ _ h=>h) (fun _ _ _ _ _ _ h=>h) ?plain ?step ?fin
  case last=>repeat (first|exact Lasting.nil|refine Lasting.cons (fun _ _ _ _ h=>h) ?_)
  case plain=>(repeat' (first|exact trivial|apply And.intro)) <;> first|exact .inl rfl|(refine .inr ?_;intro s vals J bs w hstop hg hJ hS hG;clear hG;simp only [zH,zI,Given,Facts] at hg;simp only [Qd,Qh,Qe,Qj,zH,zI,zA,zB,zK,if_true,Act.put,zE,zF,zG,hg];refine ⟨?_⟩;refine Qg (fun K hK=>?_);have HK:=yH hK;clear hK;rw [if_pos (by rfl)];(first|((with_reducible refine Qs ?_);first|((refine' Qq (v:=_) hS hJ ?ha rfl ?hc ?_);(case ha =>  exact Kn );(case hc=>assumption)))|(go_wp2_with (fail)));refine HK.out _ _ ⟨rfl,J,PH.le.refl _,hS,?_⟩;clear HK;simp only [Facts];simp only [Qo,zH,zI,Act.put,zE,zF,zG,zD,zC,zA,zB,zJ])
  case step =>
   refine ⟨⟨trivial,?_⟩,?_⟩
   · intro vals J bs w hg hJ hS hG
     have hG:bs=_:=hG
     subst hG
     simp only [zH,zI,Given,Facts] at hg;simp only [Qd,Qh,Qe,Qj,zH,zI,zA,zB,zK,if_true,Act.put,zE,zF,zG,hg];refine ⟨?_⟩;refine Qg (fun K hK=>?_);have HK:=yH hK;clear hK;rw [if_pos (by rfl)]
     refine Xr (i:=k) hS 0 rfl rfl rfl rfl HV.out (Nat.mul_one k).symm hk0 Kk rfl (iv_one b) fun m' w hO' hS=>?_
     exact HK.out _ _ ⟨rfl,J,_,PH.le.refl _,hS,trivial,m',H1.out _ hO',rfl⟩
   · intro vals J bs w hg hJ hS hG
     refine Veil.out ?_
     obtain ⟨mm,hmm,hG⟩:=hG
     subst hG
     refine ⟨?_⟩
     simp only [zH,zI,Given,Facts] at hg;simp only [Qd,Qh,Qe,Qj,zH,zI,zA,zB,zK,if_true,Act.put,zE,zF,zG,hg];refine ⟨?_⟩;refine Qg (fun K hK=>?_);have HK:=yH hK;clear hK;rw [if_pos (by rfl)]
     refine Xr (i:=k1) hS 0 rfl rfl rfl rfl hmm (Nat.mul_one k1).symm hk Kk rfl (iv_one a) fun m' w hO' hS=>?_
     exact HK.out _ _ ⟨rfl,J,_,PH.le.refl _,hS,trivial,mm,m',hmm,H2.out _ hO',rfl⟩
  case fin =>
   intro vals J9 bs w hJ hg hS hG
   obtain ⟨_,mV',_,hV',hns⟩:=hG
   subst hns
   have hS:=hS.less hJ
   simp only [zG] at hS
   have HV':=yH hV'
   clear hV' hJ
   simp only [yB,yC,Nat.reduceAdd,Below_,Facts,zH,zI,true_and,and_true] at hg;simp only [yB,yC,Nat.reduceAdd,Qd,Qh,Qe,zA,zB,zK,if_true,Act.put,zE,zF,zG,hg];refine ⟨?_⟩
   clear hg
   go_wp2_with fail
   refine Qx [[],[0],[0,1],[0,1,2],[],[],[5],[5,6],[5,6,7],[],[],[10],[],[0,1,2,3,4,5,6,7,8,10,11],[0,1,2,3,4,5,6,7,8,10,11,13],[0,1,2,3,4,5,6,7,8,9,10,11,12,13,14],[0,1,2,3,4,5,6,7,8,9,10,11,12,13,14,15]] E I _
    [fun v _=>v=vPt L,fun v _=>v=vPt L,fun v _=>v=.pointer (some ⟨L,1,none⟩),fun v _=>v=.slice (some ⟨LL,0,none⟩) n2 cL,fun v _=>v=nv a,fun v _=>v=vPt L,fun v _=>v=vPt L,fun v _=>v=.pointer (some ⟨L,1,none⟩),fun v _=>v=.slice (some ⟨LL,0,none⟩) n2 cL,fun v _=>v=nv b,fun v _=>v=nv k,fun v _=>v=nv k1,fun v _=>v=nv k,fun v _=>v=.pointer (some ⟨LL,a,none⟩),fun _ _=>True,fun v _=>v=.pointer (some ⟨LL,b,none⟩),fun _ _=>True] [14,16]
    (set2G _ 1 1 (fun m'=>OwnP m' 3 1 (.slice (some ⟨LL,0,none⟩) n2 cL) n2 ((lv.set a k1).flatMap ivC)) (fun m'=>OwnP m' 3 1 (.slice (some ⟨LL,0,none⟩) n2 cL) n2 (((lv.set a k1).set b k).flatMap ivC))) (by kernel_rfl) (by kernel_rfl) (by decide) hS rfl ?last (fun _ _ _ _ _ _ h=>h) (fun _ _ _ _ _ _ h=>h) ?plain ?step ?fin
   case last=>repeat (first|exact Lasting.nil|refine Lasting.cons (fun _ _ _ _ h=>h) ?_)
   case plain=>(repeat' (first|exact trivial|apply And.intro)) <;> first|exact .inl rfl|(refine .inr ?_;intro s vals J bs w hstop hg hJ hS hG;clear hG;simp only [zH,zI,Given,Facts] at hg;simp only [Qd,Qh,Qe,Qj,zH,zI,zA,zB,zK,if_true,Act.put,zE,zF,zG,hg];refine ⟨?_⟩;refine Qg (fun K hK=>?_);have HK:=yH hK;clear hK;rw [if_pos (by rfl)];(first|((with_reducible refine Qs ?_);first|((refine' Qq (v:=_) hS hJ ?ha rfl ?hc ?_);(case ha =>  exact Kn );(case hc=>assumption)))|(go_wp2_with (fail)));refine HK.out _ _ ⟨rfl,J,PH.le.refl _,hS,?_⟩;clear HK;simp only [Facts];simp only [Qo,zH,zI,Act.put,zE,zF,zG,zD,zC,zA,zB,zJ])
   case step =>
    refine ⟨⟨trivial,?_⟩,?_⟩
    · intro vals J bs w hg hJ hS hG
      have hG:bs=_:=hG
      subst hG
      simp only [zH,zI,Given,Facts] at hg;simp only [Qd,Qh,Qe,Qj,zH,zI,zA,zB,zK,if_true,Act.put,zE,zF,zG,hg];refine ⟨?_⟩;refine Qg (fun K hK=>?_);have HK:=yH hK;clear hK;rw [if_pos (by rfl)]
      refine Xr (i:=a) hS 1 rfl rfl rfl rfl HL.out (Nat.mul_one a).symm hal Kk rfl (iv_one k1) fun m' w hO' hS=>?_
      exact HK.out _ _ ⟨rfl,J,_,PH.le.refl _,hS,trivial,m',H3.out _ hO',rfl⟩
    · intro vals J bs w hg hJ hS hG
      refine Veil.out ?_
      obtain ⟨mm,hmm,hG⟩:=hG
      subst hG
      refine ⟨?_⟩
      simp only [zH,zI,Given,Facts] at hg;simp only [Qd,Qh,Qe,Qj,zH,zI,zA,zB,zK,if_true,Act.put,zE,zF,zG,hg];refine ⟨?_⟩;refine Qg (fun K hK=>?_);have HK:=yH hK;clear hK;rw [if_pos (by rfl)]
      refine Xr (i:=b) hS 1 rfl rfl rfl rfl hmm (Nat.mul_one b).symm hbl Kk rfl (iv_one k) fun m' w hO' hS=>?_
      exact HK.out _ _ ⟨rfl,J,_,PH.le.refl _,hS,trivial,mm,m',hmm,H4.out _ hO',rfl⟩
   case fin =>
    intro vals J9 bs w hJ hg hS hG
    obtain ⟨_,mL',_,hL',hns⟩:=hG
    subst hns
    have hS:=hS.less hJ
    simp only [zG,zF] at hS
    have HL':=yH hL'
    clear hL' hJ
    simp only [yB,yC,Nat.reduceAdd,Below_,Facts,zH,zI,true_and,and_true] at hg;simp only [yB,yC,Nat.reduceAdd,Qd,Qh,Qe,zA,zB,zK,if_true,Act.put,zE,zF,zG,hg];refine ⟨?_⟩
    clear hg
    go_wp2_with fail
    go_end0
    exact ⟨rfl,mV',mL',HV'.out,HL'.out,hS⟩
end
namespace G
theorem PlOk.take_keep {p p':Pl} {n:Nd} {id:Nat} (h:PlOk p) (ht:p.take n=some (some (p',id))):PlOk p'∧∀ i m,p.nd i=some m→p'.nd i=some m:=by
 by_cases hm:many p.slots<p.room
 · obtain ⟨p1,id1,h1,h2,_,h4,h5,h6,_⟩:=(h.take n).1 hm
   rw [h1] at ht
   injection ht with ht;injection ht with ht;injection ht with e1 e2
   subst e1 e2
   refine ⟨h2,fun i m hi=>?_⟩
   rw [h6,Kc _ _ (fun e=>by rw [e,h5] at hi;cases hi)]
   exact hi
 · rw [(h.take n).2 hm] at ht
   injection ht with ht;cases ht
theorem PlOk.put_keep {p:Pl} (h:PlOk p) (id:Nat) (n:Nd):PlOk (p.put id n)∧∀ i,(p.nd i).isSome=true→((p.put id n).nd i).isSome=true:=by
 cases hn:p.nd id with
 | some m =>
   obtain ⟨h1,h2,_⟩:=h.put (m:=n) hn
   refine ⟨h1,fun i hi=>?_⟩
   rw [h2]
   unfold Zy
   split
   · rfl
   · exact hi
 | none =>
   have:p.put id n=p:=by unfold Pl.put;rw [hn];rfl
   rw [this]
   exact ⟨h,fun _ h=>h⟩
theorem St.more_only:∀ (k:Nat) (s s':St) (f:Nat),St.more k s f=some s'→s'.pl=s.pl∧s'.tabs=s.tabs∧s'.vars=s.vars∧s'.lev=s.lev
 | 0,s,s',f,h=>by unfold St.more at h;cases h
 | k+1,s,s',f,h=>by
   unfold St.more at h
   split at h
   · cases h;exact ⟨rfl,rfl,rfl,rfl⟩
   · split at h
     · cases h
     · split at h
       · split at h
         · split at h
           · split at h
             · cases h
             · split at h
               · cases h
               · rename_i s1 h1
                 have a:=St.more_only k _ _ _ h1
                 have b:=St.more_only k _ _ _ h
                 exact ⟨b.1.trans a.1,b.2.1.trans a.2.1,b.2.2.1.trans a.2.2.1,b.2.2.2.trans a.2.2.2⟩
           · cases h
         · cases h;exact ⟨rfl,rfl,rfl,rfl⟩
       · cases h
theorem St.less_only:∀ (k:Nat) (s s':St) (f:Nat),St.less k s f=some s'→s'.pl=s.pl∧s'.tabs=s.tabs∧s'.vars=s.vars∧s'.lev=s.lev
 | 0,s,s',f,h=>by unfold St.less at h;cases h
 | k+1,s,s',f,h=>by
   unfold St.less at h
   split at h
   · cases h;exact ⟨rfl,rfl,rfl,rfl⟩
   · split at h
     · cases h
     · split at h
       · cases h
       · split at h
         · split at h
           · split at h
             · cases h
             · split at h
               · cases h
               · rename_i s1 h1
                 have a:=St.less_only k _ _ _ h1
                 have b:=St.less_only k _ _ _ h
                 exact ⟨b.1.trans a.1,b.2.1.trans a.2.1,b.2.2.1.trans a.2.2.1,b.2.2.2.trans a.2.2.2⟩
           · cases h
         · cases h;exact ⟨rfl,rfl,rfl,rfl⟩
theorem mem_putT {t:List Ent} {lo hi id:Nat} {e:Ent} (h:e ∈ putT t lo hi id):e ∈ t∨e.id=id:=by
 unfold putT at h
 split at h
 · exact .inl h
 · rcases List.mem_append.1 h with h|h
   · exact .inl h
   · rw [List.mem_singleton] at h;exact .inr (by rw [h])
theorem tab_set (s:St) {v x:Nat} {t:List Ent}:({ s with tabs:=s.tabs.set v t }.tab x=s.tab x)∨({ s with tabs:=s.tabs.set v t }.tab x=t∧x=v):=by
 unfold St.tab
 by_cases hx:x=v
 · subst hx
   by_cases hl:x<s.tabs.length
   · refine .inr ⟨?_,rfl⟩
     rw [yD]
     show ((s.tabs.set x t)[x]?).getD []=t
     rw [List.getElem?_set_self hl];rfl
   · refine .inl ?_
     show (s.tabs.set x t).getD x []=_
     rw [List.set_eq_of_length_le (by omega)]
 · refine .inl ?_
   rw [yD,yD]
   show ((s.tabs.set v t)[x]?).getD []=_
   rw [List.getElem?_set_ne (fun e=>hx e.symm)]
end G
section
open Go.RowKit
structure Sane (s:G.St):Prop where
 pl:G.PlOk s.pl
 tab:TabLt s
theorem TabLt.set {s:G.St} (h:TabLt s) {v:Nat} {t:List G.Ent} (ht:∀ e ∈ t,e.id<4194304):TabLt { s with tabs:=s.tabs.set v t }:=fun x e he=>by
 rcases G.tab_set s (v:=v) (x:=x) (t:=t) with h1|⟨h1,_⟩
 · rw [h1] at he;exact h x e he
 · rw [h1] at he;exact ht e he
theorem Sane.add {s s':G.St} {v lo hi id:Nat} (h:Sane s) (ha:s.add v lo hi=some (some (s',id))):Sane s'∧(∀ i m,s.nd i=some m→s'.nd i=some m)∧s'.tabs.length=s.tabs.length∧id<4194304:=by
 have hid:=add_lt ha
 unfold G.St.add at ha
 split at ha
 · cases ha
 · cases ha
 · rename_i p id' ht
   split at ha
   · injection ha with ha;injection ha with ha;injection ha with e1 e2
     subst e1 e2
     obtain ⟨h1,h2⟩:=h.pl.take_keep ht
     refine ⟨⟨h1,?_⟩,h2,by simp,hid⟩
     exact TabLt.set (s:={ s with pl:=p,cnt:=_,dead:=_ }) h.tab fun e he=>by
      rcases G.mem_putT he with he|he
      · exact h.tab v e he
      · rw [he];exact hid
   · cases ha
theorem edge_lt {id:Nat} (h:id<4194304) (t:Bool):G.edge id t<4611686018427387904:=by
 unfold G.edge
 exact Kw (by omega) _
theorem Sane.below {s s':G.St} {x a b r:Nat} (h:Sane s) (hm:s.below x a b=some (s',r)) (ha:a<4611686018427387904):Sane s'∧(∀ i m,s.nd i=some m→s'.nd i=some m)∧s'.tabs.length=s.tabs.length∧r<4611686018427387904:=by
 unfold G.St.below at hm
 split at hm
 · cases hm;exact ⟨h,fun _ _ h=>h,rfl,ha⟩
 · simp only [] at hm
   split at hm
   · rename_i id hf
     cases hm
     obtain ⟨e,he,hi⟩:=find_mem hf
     exact ⟨h,fun _ _ h=>h,rfl,edge_lt (by rw [← hi];exact h.tab _ e he) _⟩
   · split at hm
     · rename_i s1 id had
       cases hm
       obtain ⟨h1,h2,h3,h4⟩:=h.add had
       exact ⟨h1,h2,h3,edge_lt h4 _⟩
     · cases hm
theorem Sane.of {s s':G.St} (h:Sane s) (hp:s'.pl=s.pl) (ht:s'.tabs=s.tabs):Sane s':=⟨by rw [hp];exact h.pl,fun v e he=>h.tab v e (by unfold G.St.tab at he ⊢;rwa [ht] at he)⟩
theorem mem_cutT {t:List G.Ent} {lo hi:Nat} {e:G.Ent} (h:e ∈ G.cutT t lo hi):e ∈ t:=by unfold G.cutT at h;exact (List.mem_filter.1 h).1
theorem Sane.away:∀ {l:List (Nat × G.Nd)} {s s':G.St},Sane s→s.away l=some s'→Sane s'∧s'.vars=s.vars∧s'.lev=s.lev∧s'.tabs.length=s.tabs.length
 | [],s,s',h,ha=>by cases ha;exact ⟨h,rfl,rfl,rfl⟩
 | (id,n)::l,s,s',h,ha=>by
   unfold G.St.away at ha
   split at ha
   · obtain ⟨h1,h2,h3,h4⟩:=Sane.away (s:={ s with tabs:=s.tabs.set n.v (G.cutT (s.tab n.v) n.lo n.hi),pl:=s.pl.give id }) ⟨h.pl.give_any id,TabLt.set (s:={ s with pl:=_ }) h.tab fun e he=>h.tab n.v e (mem_cutT he)⟩ ha
     exact ⟨h1,h2,h3,by rw [h4];simp⟩
   · cases ha
theorem Sane.collect {s s':G.St} {c:Nat} (h:Sane s) (hc:s.collect=some (s',c)):Sane s'∧s'.vars=s.vars∧s'.lev=s.lev∧s'.tabs.length=s.tabs.length:=by
 unfold G.St.collect at hc
 split at hc
 · cases hc;exact ⟨h,rfl,rfl,rfl⟩
 · split at hc
   · cases hc
   · simp only [Option.map_eq_some_iff] at hc
     obtain ⟨s1,h1,h2⟩:=hc
     cases h2
     obtain ⟨a,b,c,d⟩:=h.away h1
     exact ⟨a.of rfl rfl,b,c,d⟩
theorem split_lt {s:G.St} (hp:PlFit s.pl) {f v:Nat} (hf:f<4611686018427387904):(s.split f v).1<4611686018427387904∧(s.split f v).2<4611686018427387904:=by
 rw [G.split_eq]
 cases hn:s.nd (f / 2) with
 | none=>exact ⟨hf,hf⟩
 | some n =>
   simp only []
   have hnf:=hp.nd _ n (G.Pl.nd_some.1 hn).2
   split
   · exact ⟨Kw hnf.2.1 _,Kw hnf.2.2.1 _⟩
   · exact ⟨hf,hf⟩
theorem turn_facts {s:G.St} (hp:PlFit s.pl) {x y:Nat} {T:List G.Td} (hT:s.turn x y=some T):T.length≤(s.tab x).length∧∀ t ∈ T,s.nd t.id=some t.n∧t.ll<4611686018427387904∧t.lh<4611686018427387904∧t.hl<4611686018427387904∧t.hh<4611686018427387904:=by
 obtain ⟨h1,_⟩:=G.St.turnOf_eq hT
 refine ⟨?_,fun t ht=>?_⟩
 · rw [h1]
   refine Nat.le_trans (List.length_filterMap_le _ _) ?_
   rw [(G.perm_isort _).length_eq,List.length_map]
   exact Nat.le_refl _
 · rw [h1] at ht
   obtain ⟨id,_,hid⟩:=List.mem_filterMap.1 ht
   unfold G.St.tdOf at hid
   cases hn:s.nd id with
   | none=>rw [hn] at hid;cases hid
   | some n =>
     rw [hn] at hid
     simp only [] at hid
     split at hid
     · injection hid with hid
       subst hid
       have hnf:=hp.nd _ n (G.Pl.nd_some.1 hn).2
       exact ⟨hn,(split_lt hp hnf.2.1).1,(split_lt hp hnf.2.1).2,(split_lt hp hnf.2.2.1).1,(split_lt hp hnf.2.2.1).2⟩
     · cases hid
theorem StAt.openLev {E w:World} {I m:PH} {ms:List PH} {S:Nat} {s:G.St} (hA:StAt S s m) (hS:Sat E I (m::ms) w) :
  ∃ (J:PH) (L:Nat) (vV vL:Value) (mV mL:PH) (ns:List PH),I.le J∧J.at S 0=some (vPt L)∧J.at L 0=some vV∧J.at L 1=some vL∧OwnP mV 3 1 vV s.vars.length (s.vars.flatMap ivC)∧OwnP mL 3 1 vL s.lev.length (s.lev.flatMap ivC)∧Sat E J (mV::mL::ns) w ∧
    ∀ mV' mL' vs lv w',OwnP mV' 3 1 vV s.vars.length (vs.flatMap ivC)→OwnP mL' 3 1 vL s.lev.length (lv.flatMap ivC)→vs.length=s.vars.length→lv.length=s.lev.length→(∀ c ∈ vs,c≤1048576)→(∀ c ∈ lv,c≤1048576)→Sat E J (mV'::mL'::ns) w'→∃ m',StAt S { s with vars:=vs,lev:=lv } m'∧Sat E I (m'::ms) w':=by
 obtain ⟨h0,L,P,vV,vL,vT,vC,gs,mV,mL,mP,mT,mC,tms,hbd,hV,hL,hP,hT,hC,hgs,htm,htab⟩:=hA
 have hS:=Sat.unpack hbd hS
 simp only [List.cons_append] at hS
 obtain ⟨J1,l1,lS,hS1,bS⟩:=hS.ice
 obtain ⟨J2,l2,lL,hS2,bL⟩:=hS1.ice
 refine ⟨J2,L,vV,vL,mV,mL,_,l1.trans l2,PH.at_le l2 (PH.at_le lS (Qk rfl)),PH.at_le lL (Qk rfl),PH.at_le lL (Qk rfl),hV,hL,hS2,fun mV' mL' vs lv w' hv' hl' e1 e2 b1 b2 hS'=>?_⟩
 have h3:=bS _ _ (bL _ _ hS')
 exact StAt.close (s:={ s with vars:=vs,lev:=lv }) ⟨by rw [e1];exact h0.vars,by rw [e2];exact h0.lev,h0.tabs,h0.cnt,h0.cntb,h0.dead,b2,b1⟩ (by show OwnP _ _ _ _ vs.length _;rw [e1];exact hv') (by show OwnP _ _ _ _ lv.length _;rw [e2];exact hl') hP hT hC hgs htm htab h3
end
end Go.Proofs.YtidamcdklgfogaaGreat
