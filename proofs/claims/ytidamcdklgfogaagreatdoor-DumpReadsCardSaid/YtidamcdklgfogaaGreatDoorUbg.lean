import Derived.Test.YtidamcdklgfogaaGreatDoorUbf
set_option linter.unusedVariables false
set_option linter.unusedSimpArgs false
set_option maxRecDepth 100000
set_option maxHeartbeats 8000000
namespace Go.Proofs.YtidamcdklgfogaaGreatDoor
section
open Go.RowKit
section
variable {E w:World} {I:PH} {ms:List PH}
theorem split10 (s:ByteArray) (hI:MaxIn I) (hs:s.size<=70000) (hS:Sat E I ms w) :
 Calls Tryz.prog 21 #[.string s,.string ⟨#[10]⟩] w fun e w'=>∃ (A:Option Addr) (n k:Nat) (J:PH) (ps:List ByteArray),e=.returned (.slice A n k)/\ps.length=n/\n<=k/\I.le J/\WdRo J (.slice A n k) ps/\ps.map lst=Qw 10 (lst s)/\Sat E J ms w':=splitF s 10 hI hs hS
theorem split32 (s:ByteArray) (hI:MaxIn I) (hs:s.size<=70000) (hS:Sat E I ms w) :
 Calls Tryz.prog 21 #[.string s,.string ⟨#[32]⟩] w fun e w'=>∃ (A:Option Addr) (n k:Nat) (J:PH) (ps:List ByteArray),e=.returned (.slice A n k)/\ps.length=n/\n<=k/\I.le J/\WdRo J (.slice A n k) ps/\ps.map lst=Qw 32 (lst s)/\Sat E J ms w':=splitF s 32 hI hs hS
end
theorem WdRo.get {J:PH} {A:Option Addr} {n k:Nat} {ps:List ByteArray} (h:WdRo J (.slice A n k) ps) {i:Nat} {x:ByteArray} (hx:ps[i]?=some x):∃ X off,A=some ⟨X,off,none⟩/\J.at X (off+i)=some (.string x):=by
 obtain ⟨A',c,e,_,h2⟩:=h;injection e with e1 e2 e3
 subst e1;obtain ⟨X,off,hA,h3⟩:=h2 (by have:=(yE.1 hx).1;omega);exact ⟨X,off,hA,h3 i x hx⟩
theorem WdRo.tail {J:PH} {X off n k:Nat} {ps:List ByteArray} (h:WdRo J (.slice (some ⟨X,off,none⟩) n k) ps) (hn:ps.length=n):WdRo J (.slice (some ⟨X,off+1,none⟩) (n - 1) (k - 1)) ps.tail:=by
 obtain ⟨A',c,e,hc,h2⟩:=h;injection e with e1 e2 e3
 subst e1 e3;refine ⟨_,_,by rw [kB,hn],by rw [kB];omega,fun h0=>⟨X,off+1,rfl,fun i x hx=>?_⟩⟩;obtain ⟨X',off',hA,h3⟩:=h2 (by rw [kB] at h0;omega);injection hA with hA
 injection hA with a1 a2 a3
 subst a1 a2;rw [show off+1+i=off+(i+1) by omega];exact h3 (i+1) x (by rw [<- hx,List.getElem?_tail])
theorem none_wd {J:PH} {A:Option Addr} {ps:List ByteArray} (h:ps.length=0):WdRo J (.slice A 0 0) ps:=⟨A,0,by rw [h],by omega,fun h0=>absurd h0 (by omega)⟩
theorem lst_roots (s:ByteArray):(s.toList == [114,111,111,116,115])=decide (lst s=Xu):=by
 rw [Zk,kNb,jVa,decide_eq_true_iff];constructor
 . intro h;rw [h];rfl
 . intro h
   have h2:s.toList.map UInt8.toNat=([114,111,111,116,115]:List UInt8).map UInt8.toNat:=h;exact (List.map_inj_right (fun a b e=>UInt8.toNat_inj.1 e)).1 h2
theorem dread_any {E w:World} {I:PH} {ms:List PH} (s:ByteArray) (hI:MaxIn I) (hs:s.size<=70000) (hS:Sat E I ms w) :
  Calls Tryz.prog 6 #[.string s] w fun e w'=>ReadF (if 65536<s.size then none else Kr 8193 (Qw 10 (lst s)) []) (if 65536<s.size then 4 else 3) E I ms e w':=by
 by_cases hbig:65536<s.size
 . rw [jAa hbig,jAa hbig]
   have d0:(65536:Int)<(s.size:Int):=by omega
   go_enter Tryz.func6,Tryz.ntmps6;go_wp2_with fail
   go_ret3;exact Kj rfl rfl (PH.le.refl _) hS
 . rw [jAb hbig,jAb hbig]
   have d0:¬ (65536:Int)<(s.size:Int):=by omega
   generalize hR:Kr 8193 (Qw 10 (lst s)) []=R0;have HR:=yH hR;clear hR;go_enter Tryz.func6,Tryz.ntmps6
   go_upto_region 4 with (go_at_call 21;(with_reducible refine yI (split10 s hI hs hS) ?_);clear hS;rintro e w ⟨A1,n1,k1,J1,ps,rfl,q1,q2,q3,q4,q5,hS⟩)
   obtain ⟨z1,z2⟩:=Xn q5;by_cases hn:n1<2
   . have d1:(n1:Int) - 2<0:=by omega
     go_wp2_with fail
     go_ret3;refine Kj ?_ rfl q3 hS;rw [<- HR.out,<- q5]
     match ps,q1 with
     | [],_=>rfl
     | [_],_=>rfl
     | _::_::_,q1=>simp at q1;omega
   . obtain ⟨m,hm⟩:∃ m,n1=m+2:=⟨n1 - 2,by omega⟩
     obtain ⟨x,hx⟩:∃ x,ps[m+1]?=some x:=⟨_,yA (by omega)⟩;obtain ⟨X1,o1,rfl,hx2⟩:=q4.get hx;have d1:¬ (m:Int)<0:=by omega
     have d2:(n1:Int) - 2=(m:Int):=by omega
     have d3:(m:Int)+1<(n1:Int):=by omega
     have z3:x.size<=70000:=by have:=z2 x (jDb hx);omega
     have z4:(m:Int)<=(k1:Int):=by omega
     have z5:(m:Int)<(n1:Int):=by omega
     have z6:m<=70000:=by omega
     have HM:=yH hm;have HX:=yH hx;have HX2:=yH hx2;have Q1:=yH q1;have Q3:=yH q3;have Q4:=yH q4;have Q5:=yH q5;have Z2:=yH z2;clear hm hx q1 q2 q3 q4 q5 z1 z2 hn hbig;have hxe:x.toList.isEmpty=(lst x).isEmpty:=by rw [Zk];cases x.toList <;> rfl
     cases hbx:x.toList.isEmpty with
     | false =>
       rw [hbx] at hxe;have hbn:(!x.toList.isEmpty)=true:=by rw [hbx];rfl
       have Hxe:=yH hxe;clear hbx hxe;go_wp2_with ((with_reducible refine Kh ?_);first|((with_reducible refine Zd ?_);  ((with_reducible refine Qs ?hw ?_);case hw=>(simp only [Region.wanted,yielded,zC,zA,zB,zK,jPa];done)) )|((with_reducible refine Qp ?_);( ((refine' ldI1 (v:=_) hS rfl rfl ?ha rfl ?hb ?_);(case ha =>  exact Zr );(case hb=>assumption)));(try simp only [Act.put,zE,zF,zG])))
       go_ret3;refine Kj ?_ rfl Q3.out hS;rw [<- HR.out,<- Q5.out];refine readO_last _ _ _ fun h=>?_
       have hx:=HX.out;have hm:=HM.out;have q1:=Q1.out;rw [List.getLast?_map,List.getLast?_eq_getElem?,show ps.length - 1=m+1 by omega,hx] at h;simp only [Option.map_some,jEb] at h;have hxe:=Hxe.out;rw [h] at hxe;cases hxe
     | true =>
       rw [hbx] at hxe;have hbn:(!x.toList.isEmpty)=false:=by rw [hbx];rfl
       have hx0:lst x=[]:=by cases hl:lst x with|nil=>rfl|cons a b=>rw [hl] at hxe;cases hxe
       have Hx0:=yH hx0;clear hbx hxe hx0;go_wp2_with ((with_reducible refine Kh ?_);first|((with_reducible refine Zd ?_);  ((with_reducible refine Qs ?hw ?_);case hw=>(simp only [Region.wanted,yielded,zC,zA,zB,zK,jPa];done)) )|((with_reducible refine Qp ?_);( ((refine' ldI1 (v:=_) hS rfl rfl ?ha rfl ?hb ?_);(case ha =>  exact Zr );(case hb=>assumption)));(try simp only [Act.put,zE,zF,zG])))
       have HS0:=yH hS.empty;have HR0:=yH (show R0=Kr 8193 ((ps.map lst).drop 0) [] from by rw [<- HR.out,Q5.out];rfl);clear hS;go_loopw [7,37] (fun v7 v37 wr=>∃ (i:Nat) (rows:List G.Rw3) (mm J:PH),i<=m/\v37=.int .i64 (i:Int)/\rows.length=i/\(∀ r ∈ rows,RowFit r)/\OwnP mm 63 3 v7 i (rows.flatMap rowC)/\J1.le J/\R0=Kr 8193 ((ps.map lst).drop i) rows/\Sat E J (mm::ms) wr) (fun _ v37 _=>(m - intOf v37).toNat)
       case atStart=>exact ⟨0,[],_,J1,jCa _,rfl,rfl,(fun r h=>by cases h),OwnP.nil _ _,PH.le.refl _,HR0.out,HS0.out⟩
       case round =>
        clear HS0 HR0;obtain ⟨i,rows,mm,J,hi,rfl,hrl,hfit,hO,hJ,hrun,hS⟩:=hrel;obtain ⟨A3,c3,rfl,_⟩:=hO.shape;have HJ:=yH hJ;have HRl:=yH hrl;have HFit:=yH hfit;have HO:=yH hO;have hIJ:=hI.le (PH.le.trans Q3.out hJ);have hm:=HM.out;have q1:=Q1.out;by_cases hlt:i<m
        . obtain ⟨y,hy⟩:∃ y,ps[i]?=some y:=⟨_,yA (by omega)⟩
          obtain ⟨X2,o2,e2,hy2⟩:=Q4.out.get hy;cases e2;have iy:=PH.at_le hJ hy2;have hyz:y.size<=70000:=by have:=Z2.out y (jDb hy);omega
          have Hst:=yH (hrun.trans (readO_step 8193 (L:=ps.map lst) (i:=i) (a:=lst y) (by rw [jNb,hy];rfl) (by rw [jHb];omega) rows));have HSp:=yH (fun (w':World) (h:Sat E J (mm::ms) w')=>split32 y hIJ hyz h);have HNm:=yH (fun (w':World) (K:PH) (A:Option Addr) (n k:Nat) (qs:List ByteArray) (h4:WdRo K (.slice A n k) qs) (h5:qs.map lst=Qw 32 (lst y)) (h:Sat E K (mm::ms) w')=>dnumF h4 (fun p hp=>by have:=(Xn h5).2 p hp;omega) (by have:=(Xn h5).1;omega) h);have i0:(0:Int)<=(i:Int):=by omega
          have i1:(i:Int)<(m:Int):=by omega
          have i2:(i:Int)<(n1:Int):=by omega
          have i3:i<=70000:=by omega
          clear hJ hrl hfit hO hIJ hm q1 hy hy2 hyz hrun;rcases hnum:Qy 8193 (Qw 32 (lst y)) with _|l
          . have HNx:=yH (fun (w':World) (K:PH) (A:Option Addr) (n k:Nat) (qs:List ByteArray) (h4:WdRo K (.slice A n k) qs) (h5:qs.map lst=Qw 32 (lst y)) (h:Sat E K (mm::ms) w')=>(HNm.out w' K A n k qs h4 h5 h).mono fun e w2 hh=>FrzR.bad hh (by rw [h5];exact hnum))
            have Hr:=yH (show R0=none from by rw [Hst.out,rowO_none hnum];rfl);clear HNm Hst hnum;go_wp2_with (first|(go_at_call 21;(with_reducible refine yI (HSp.out _ hS) ?_);clear hS;rintro e w ⟨A4,n4,k4,J4,qs,rfl,r1,r2,r3,r4,r5,hS⟩;have HW:=yH (And.intro r3 (And.intro r4 r5));clear r1 r2 r3 r4 r5)|(go_at_call 22;(with_reducible refine yI (HNx.out _ _ _ _ _ _ HW.out.2.1 HW.out.2.2 hS) ?_);clear hS;rintro e w ⟨A6,n6,k6,J6,rfl,l6,hS⟩;have HL6:=yH l6;clear l6)|((with_reducible refine Kh ?_);  ((with_reducible refine Qp ?_);( ((refine' ldI1 (v:=_) hS rfl rfl ?ha rfl ?hb ?_);(case ha =>  exact Zr );(case hb=>assumption)));(try simp only [Act.put,zE,zF,zG]))))
            go_ret3;exact Kj Hr.out rfl (PH.le.trans Q3.out (PH.le.trans HJ.out (PH.le.trans HW.out.1 HL6.out))) hS.drop
          . by_cases hl:l.length=3
            . obtain ⟨a,b,c,rfl⟩:=three_of hl
              have HNx:=yH (fun (w':World) (K:PH) (A:Option Addr) (n k:Nat) (qs:List ByteArray) (h4:WdRo K (.slice A n k) qs) (h5:qs.map lst=Qw 32 (lst y)) (h:Sat E K (mm::ms) w')=>(HNm.out w' K A n k qs h4 h5 h).mono fun e w2 hh=>FrzR.three hh (by rw [h5];exact hnum));have hab:=numsO_fit hnum;have Hfit2:=yH (show ∀ r ∈ rows ++ [⟨a,b,c⟩],RowFit r from fun r hr=>by
               rcases jIa.1 hr with hr|hr
               . exact HFit.out r hr
               . rw [jMa] at hr
                 subst hr
                 have:=hab a (by simp)
                 have:=hab b (by simp)
                 have:=hab c (by simp);exact ⟨⟨by simp only;omega,by simp only;omega⟩,⟨by simp only;omega,by simp only;omega⟩,by simp only;omega,by simp only;omega⟩)
              have Hr:=yH (show R0=Kr 8193 ((ps.map lst).drop (i+1)) (rows ++ [⟨a,b,c⟩]) from by rw [Hst.out,rowO_three hnum];rfl);clear HNm Hst hnum hab hl HFit
              go_upto_region 14 with (first|(go_at_call 21;(with_reducible refine yI (HSp.out _ hS) ?_);clear hS;rintro e w ⟨A4,n4,k4,J4,qs,rfl,r1,r2,r3,r4,r5,hS⟩;have HW:=yH (And.intro r3 (And.intro r4 r5));clear r1 r2 r3 r4 r5)|(go_at_call 22;(with_reducible refine yI (HNx.out _ _ _ _ _ _ HW.out.2.1 HW.out.2.2 hS) ?_);clear hS;rintro e w ⟨X6,k6,J6,rfl,l6,g0,g1,g2,hS⟩;have HL6:=yH l6;clear l6)|((with_reducible refine Kh ?_);first|((with_reducible refine Zd ?_);  ((with_reducible refine Qs ?hw ?_);case hw=>(simp only [Region.wanted,yielded,zC,zA,zB,zK,jPa];done)) )|((with_reducible refine Qp ?_);( ((refine' ldI1 (v:=_) hS rfl rfl ?ha rfl ?hb ?_);(case ha =>  exact Zr );(case hb=>assumption)));(try simp only [Act.put,zE,zF,zG]))))
              refine Qg [[],[],[1],[1,2],[],[4],[4,5],[],[7],[7,8],[1,2,3,4,5,6,7,8,9],[1,2,3,4,5,6,7,8,9,10],[0,1,2,3,4,5,6,7,8,9,10,11],[0,1,2,3,4,5,6,7,8,9,10,11,12]] E J6 _
               [fun v _=>v=.slice A3 i c3,fun v _=>v=.slice (some ⟨X6,0,none⟩) 3 k6,fun v _=>v=.pointer (some ⟨X6,0,none⟩),fun v _=>v=.int .i64 a,fun v _=>v=.slice (some ⟨X6,0,none⟩) 3 k6,fun v _=>v=.pointer (some ⟨X6,1,none⟩),fun v _=>v=.int .i64 b,fun v _=>v=.slice (some ⟨X6,0,none⟩) 3 k6,fun v _=>v=.pointer (some ⟨X6,2,none⟩),fun v _=>v=.int .i64 c,fun v _=>v=.agg #[.int .i64 a,.int .i64 b,.int .i64 c],fun v J=>∃ Z,v=.slice (some ⟨Z,0,none⟩) 1 1/\Cells J Z 0 [.int .i64 a,.int .i64 b,.int .i64 c],fun _ _=>True,fun _ _=>True] [12,13]
               (rowS 63 3 [12,13] (i+1) ((rows ++ [(⟨a,b,c⟩:G.Rw3)]).flatMap rowC) _) (by kernel_rfl) (by kernel_rfl) (by decide) hS rfl ?last rowS.gst rowS.gle ?plain ?step ?fin
              case last =>
               repeat (first|exact Lasting.nil|refine Lasting.cons (fun _ _ _ _ h=>h) ?_|refine Lasting.cons (fun v I9 J9 h9 h=>by obtain ⟨Z,e,hz⟩:=h;exact ⟨Z,e,hz.le h9⟩) ?_)
              case plain =>
               repeat' (first|exact trivial|apply And.intro)
               all_goals first|exact .inl rfl|skip
               all_goals
                refine .inr ?_;intro s vals J9 bs w hstop hg hJ9 hS hG;clear hG;simp only [zH,zI,Given,Facts] at hg;simp only [Qb,Qe,Qd,Qf,zH,zI,zA,zB,zK,jC,Act.put,zE,zF,zG,hg];refine ⟨?_⟩;refine Qz (fun K hK=>?_);have HK:=yH hK;clear hK;rw [jAa (by rfl)]
                first
                 | ((with_reducible refine atBslB ?_);(refine' wp_bslF hS ?hr ?_);(case hr=>(intro w0;go_simp;try rfl));clear hS;intro Z J2 w hJ2 hX2 hS;(try simp only [Act.put]);refine HK.out _ _ ⟨rfl,J2,hJ2,hS,?_⟩;clear HK;simp only [Facts];simp only [Qh,zH,zI,zE,zF,zG,zD,zC,zA,zB,zJ];exact ⟨Z,rfl,cells_of hX2⟩)
                 | ((first
                     | ((with_reducible refine Yg ?_);((refine' wp_ldi1 (v:=_) hS hJ9 ?ha rfl ?hc ?_);(case ha=>exact Kl);(case hc=>assumption)))
                     | (go_wp2_with fail))
                    refine HK.out _ _ ⟨rfl,J9,PH.le.refl _,hS,?_⟩;clear HK;simp only [Facts];simp only [Qh,zH,zI,Act.put,zE,zF,zG,zD,zC,zA,zB,zJ])
              case step =>
               refine ⟨⟨trivial,?_⟩,?_⟩
               . intro vals J9 bs w hg hJ9 hS hG
                 have hG:bs=_:=hG;subst hG;simp only [zH,zI,Given,Facts,jMb] at hg;obtain ⟨e0,_,_,_,_,_,_,_,_,_,_,Z,e11,h11⟩:=hg;have hg:=And.intro e0 e11;simp only [Qb,Qe,Qd,Qf,zH,zI,zA,zB,zK,jC,Act.put,zE,zF,zG,hg];refine ⟨?_⟩;refine Qz (fun K hK=>?_);have HK:=yH hK;clear hK;rw [jAa (by rfl)];refine wp_apS hS 0 rfl (p:=J9) (.inl (PH.le.refl _)) rfl Tryz.underlying23 row3_info rfl (by decide) rfl HO.out rfl (news:=[.int .i64 a,.int .i64 b,.int .i64 c]) rfl (fun _=>?_) (fun u hu=>by simp only [jBa,jCb,jKb] at hu;rcases hu with rfl|rfl|rfl <;> rfl) (by unfold maxLen;omega) (by omega) fun v' m' w2 hO2 hS2=>?_
                 . exact ⟨Z,0,rfl,h11⟩
                 . refine HK.out _ _ ⟨rfl,J9,_,PH.le.refl _,hS2,trivial,by decide,m',?_,rfl⟩
                   simp only [Qh,zI,Act.put,zE,zF,zG,zD,zC,zA,zB,zJ];rw [Qr,jLb];exact hO2
               . intro vals J9 bs w hg hJ9 hS hG
                 obtain ⟨_,m',hO2,rfl⟩:=hG;simp only [zI] at hO2;simp only [zH,zI,Given,Facts] at hg;simp only [Qb,Qe,Qd,Qf,zH,zI,zA,zB,zK,jC,Act.put,zE,zF,zG,hg];refine ⟨?_⟩;refine Qz (fun K hK=>?_);have HK:=yH hK;clear hK;rw [jAa (by rfl)]
                 refine wp_as ?_;refine HK.out _ _ ⟨rfl,J9,_,PH.le.refl _,hS,trivial,by decide,m',?_,rfl⟩;simp only [Qh,zH,zI,Act.put,zE,zF,zG,zD,zC,zA,zB,zJ];rw [Qr];exact hO2
              case fin =>
               intro vals J9 bs w hJ9 hg hS hG;obtain ⟨_,m',hO2,rfl⟩:=hG;simp only [zG] at hS;simp only [zH,zI] at hO2;have HO2:=yH hO2;have HJ9:=yH hJ9;clear hO2 hJ9;simp only [yB,yC,Nat.reduceAdd,Below_,Facts,zH,zI,jGb,jMb] at hg;obtain ⟨⟨⟨⟨⟨⟨⟨⟨⟨⟨⟨e0,e1⟩,e2⟩,e3⟩,e4⟩,e5⟩,e6⟩,e7⟩,e8⟩,e9⟩,e10⟩,Z,e11,h11⟩:=hg;have hg:=And.intro e0 (And.intro e1 (And.intro e2 (And.intro e3 (And.intro e4 (And.intro e5 (And.intro e6 (And.intro e7 (And.intro e8 (And.intro e9 (And.intro e10 e11))))))))));simp only [yB,yC,Nat.reduceAdd,Qb,Qe,Qd,zA,zB,zK,jC,Act.put,zE,zF,zG,hg];refine ⟨?_⟩;clear hg e0 e1 e2 e3 e4 e5 e6 e7 e8 e9 e10 e11 h11;go_wp2_with fail
               exact ⟨⟨i+1,rows ++ [⟨a,b,c⟩],m',J9,by omega,by go_num,by rw [yG,HRl.out];rfl,Hfit2.out,HO2.out,PH.le.trans HJ.out (PH.le.trans HW.out.1 (PH.le.trans HL6.out HJ9.out)),Hr.out,hS⟩,by simp [intOf];omega⟩
            . have HNx:=yH (fun (w':World) (K:PH) (A:Option Addr) (n k:Nat) (qs:List ByteArray) (h4:WdRo K (.slice A n k) qs) (h5:qs.map lst=Qw 32 (lst y)) (h:Sat E K (mm::ms) w')=>(HNm.out w' K A n k qs h4 h5 h).mono fun e w2 hh=>FrzR.few hh (by rw [h5];exact hnum) hl)
              have Hr:=yH (show R0=none from by rw [Hst.out,rowO_few hnum hl];rfl);clear HNm Hst hnum hl;go_wp2_with (first|(go_at_call 21;(with_reducible refine yI (HSp.out _ hS) ?_);clear hS;rintro e w ⟨A4,n4,k4,J4,qs,rfl,r1,r2,r3,r4,r5,hS⟩;have HW:=yH (And.intro r3 (And.intro r4 r5));clear r1 r2 r3 r4 r5)|(go_at_call 22;(with_reducible refine yI (HNx.out _ _ _ _ _ _ HW.out.2.1 HW.out.2.2 hS) ?_);clear hS;rintro e w ⟨A6,n6,k6,J6,rfl,d6,l6,hS⟩;have HL6:=yH l6;clear l6)|((with_reducible refine Kh ?_);first|((with_reducible refine Zd ?_);  ((with_reducible refine Qs ?hw ?_);case hw=>(simp only [Region.wanted,yielded,zC,zA,zB,zK,jPa];done)) )|((with_reducible refine Qp ?_);( ((refine' ldI1 (v:=_) hS rfl rfl ?ha rfl ?hb ?_);(case ha =>  exact Zr );(case hb=>assumption)));(try simp only [Act.put,zE,zF,zG]))))
              go_ret3;exact Kj Hr.out rfl (PH.le.trans Q3.out (PH.le.trans HJ.out (PH.le.trans HW.out.1 HL6.out))) hS.drop
        . obtain rfl:i=m:=by omega
          obtain ⟨z,hz⟩:∃ z,ps[i]?=some z:=⟨_,yA (by omega)⟩;obtain ⟨X2,o2,e2,hz2⟩:=Q4.out.get hz;cases e2;have iz:=PH.at_le hJ hz2;have hzz:z.size<=70000:=by have:=Z2.out z (jDb hz);omega
          have Hst:=yH (show R0=if (Qw 32 (lst z)).head?=some Xu then (Qy 8193 (Qw 32 (lst z)).tail).bind fun rs=>if G.rightB rows rs=true then some (rows,rs) else none else none from by
           rw [hrun,<- readO_end];congr 1
           have h1:=yE.1 (show (ps.map lst)[i]?=some (lst z) by rw [jNb,hz];rfl);have h2:=yE.1 (show (ps.map lst)[i+1]?=some [] by rw [jNb,HX.out,Option.map_some,Hx0.out]);rw [jHa h1.1,h1.2,jHa h2.1,h2.2,kLb (by rw [jHb];omega)])
          have HSp:=yH (fun (w':World) (h:Sat E J (mm::ms) w')=>split32 z hIJ hzz h);have i0:(0:Int)<=(i:Int):=by omega
          have i1:¬ (i:Int)<(i:Int):=by omega
          have i2:(i:Int)<(n1:Int):=by omega
          have i3:i<=70000:=by omega
          clear hJ hrl hfit hO hIJ hm q1 hz hz2 hrun
          go_upto_region 17 with (first|(go_at_call 21;(with_reducible refine yI (HSp.out _ hS) ?_);clear hS;rintro e w ⟨A4,n4,k4,J4,qs,rfl,r1,r2,r3,r4,r5,hS⟩)|((with_reducible refine Kh ?_);  ((with_reducible refine Qp ?_);( ((refine' ldI1 (v:=_) hS rfl rfl ?ha rfl ?hb ?_);(case ha =>  exact Zr );(case hb=>assumption)));(try simp only [Act.put,zE,zF,zG]))))
          have hpos:0<qs.length:=by have:=splC_pos 32 (lst z);rw [<- r5,jHb] at this;exact this
          obtain ⟨h0,hh0⟩:∃ h0,qs[0]?=some h0:=⟨_,yA hpos⟩;obtain ⟨X4,o4,rfl,ih0⟩:=r4.get hh0;rw [Nat.add_zero] at ih0;have t1:(1:Int)<=(n4:Int):=by omega
          have t2:(0:Int)<(n4:Int):=by omega
          have t3:(n4:Int)<=(k4:Int):=by omega
          have hlt4:qs.length<=70001:=by have:=(Xn r5).1;omega
          have HNm:=yH (fun (w':World) (K:PH) (A:Option Addr) (n k:Nat) (h4:WdRo K (.slice A n k) qs.tail) (h:Sat E K (mm::ms) w')=>dnumF h4 (fun p hp=>by have:=(Xn r5).2 p (List.mem_of_mem_tail hp);omega) (by rw [kB];omega) h);have Hnt:=yH (show qs.tail.map lst=(Qw 32 (lst z)).tail from by rw [List.map_tail,r5]);have Hhd:=yH (show (Qw 32 (lst z)).head?=some (lst h0) from by rw [<- r5,List.head?_map,List.head?_eq_getElem?,hh0];rfl);have hkc:(k4=1/\n4=1/\WdRo J4 (.slice (some ⟨X4,o4,none⟩) 0 0) qs.tail)\/(¬ k4=1/\WdRo J4 (.slice (some ⟨X4,o4+1,none⟩) (n4 - 1) (k4 - 1)) qs.tail):=by
           by_cases hk:k4=1
           . refine .inl ⟨hk,by omega,none_wd ?_⟩
             rw [kB];omega
           . exact .inr ⟨hk,r4.tail r1⟩
          have R3:=yH r3;have HO3:=yH (show OwnP mm 63 3 (.slice A3 i c3) rows.length (rows.flatMap rowC) from by rw [HRl.out];exact HO.out);have HRw:=yH (show rows.length<=70000 from by rw [HRl.out];exact i3);have Hq4:=yH hlt4;clear r1 r2 r3 r4 r5 hh0 hpos hlt4 HO HRl hzz;rcases hnum:Qy 8193 (Qw 32 (lst z)).tail with _|rs
          . have HNx:=yH (fun (w':World) (K:PH) (A:Option Addr) (n k:Nat) (h4:WdRo K (.slice A n k) qs.tail) (h:Sat E K (mm::ms) w')=>(HNm.out w' K A n k h4 h).mono fun e w2 hh=>FrzR.bad hh (by rw [Hnt.out];exact hnum))
            have Hr:=yH (show R0=none from by rw [Hst.out,hnum];split <;> rfl);clear HNm Hst hnum;rcases hkc with ⟨rfl,rfl,hT⟩|⟨hk,hT⟩
            all_goals
             have HT:=yH hT;clear hT;go_wp2_with ( (go_at_call 22;(with_reducible refine yI (HNx.out _ _ _ _ _ HT.out hS) ?_);clear hS;rintro e w ⟨A6,n6,k6,J6,rfl,l6,hS⟩;have HL6:=yH l6;clear l6) )
             go_ret3;exact Kj Hr.out rfl (PH.le.trans Q3.out (PH.le.trans HJ.out (PH.le.trans R3.out HL6.out))) hS.drop
          . have HNx:=yH (fun (w':World) (K:PH) (A:Option Addr) (n k:Nat) (h4:WdRo K (.slice A n k) qs.tail) (h:Sat E K (mm::ms) w')=>(HNm.out w' K A n k h4 h).mono fun e w2 hh=>FrzR.all hh (by rw [Hnt.out];exact hnum))
            have hrf:=numsO_fit hnum;have hrl:rs.length<=70001:=by rw [numsO_len hnum,<- Hnt.out,jHb,kB];have:=Hq4.out;omega
            have HRt:=yH (fun (w':World) (K:PH) (v:Value) (hv:IntRo K v rs) (h:Sat E K (mm::ms) w')=>dright_any (W:=w') ((OwnP.row3 HO3.out).o.le (h.mle (k:=0) rfl)) (hv.le h.ile) (by have:=HRw.out;omega) (by omega) HFit.out (fun e he=>by have:=hrf e he;omega));by_cases hh:lst h0=Xu
            . have heq:(h0.toList == [114,111,111,116,115])=true:=by rw [lst_roots,hh];decide
              have Hr:=yH (show R0=if G.rightB rows rs=true then some (rows,rs) else none from by rw [Hst.out,hnum,jAa (by rw [Hhd.out,hh])];rfl);clear HNm Hst hnum hh hrf hrl;generalize hrb:G.rightB rows rs=rb at *
              clear hrb;cases rb with
              | false =>
                rcases hkc with ⟨rfl,rfl,hT⟩|⟨hk,hT⟩
                all_goals
                 have HT:=yH hT;clear hT;go_wp2_with (first|(go_at_call 22;(with_reducible refine yI (HNx.out _ _ _ _ _ HT.out hS) ?_);clear hS;rintro e w ⟨A6,n6,k6,J6,rfl,l6,v6,hS⟩;have HL6:=yH l6;have HV6:=yH v6;have ih0:=PH.at_le l6 ih0;clear l6 v6)|(go_at_call 23;(with_reducible refine yI (HRt.out _ _ _ HV6.out hS) ?_);rintro e w ⟨rfl,hb⟩;replace hS:=hS.below_ hb;clear hb)|((with_reducible refine Kh ?_);first|((with_reducible refine Zd ?_);  ((with_reducible refine Qs ?hw ?_);case hw=>(simp only [Region.wanted,yielded,zC,zA,zB,zK,jPa];done)) )|((with_reducible refine Qp ?_);( ((refine' ldI1 (v:=_) hS rfl rfl ?ha rfl ?hb ?_);(case ha =>  exact Zr );(case hb=>assumption)));(try simp only [Act.put,zE,zF,zG]))))
                 go_ret3;exact Kj (by rw [Hr.out];rfl) rfl (PH.le.trans Q3.out (PH.le.trans HJ.out (PH.le.trans R3.out HL6.out))) hS.drop
              | true =>
                rcases hkc with ⟨rfl,rfl,hT⟩|⟨hk,hT⟩
                all_goals
                 have HT:=yH hT;clear hT;go_wp2_with (first|(go_at_call 22;(with_reducible refine yI (HNx.out _ _ _ _ _ HT.out hS) ?_);clear hS;rintro e w ⟨A6,n6,k6,J6,rfl,l6,v6,hS⟩;have HL6:=yH l6;have HV6:=yH v6;have ih0:=PH.at_le l6 ih0;clear l6 v6)|(go_at_call 23;(with_reducible refine yI (HRt.out _ _ _ HV6.out hS) ?_);rintro e w ⟨rfl,hb⟩;replace hS:=hS.below_ hb;clear hb)|((with_reducible refine Kh ?_);first|((with_reducible refine Zd ?_);  ((with_reducible refine Qs ?hw ?_);case hw=>(simp only [Region.wanted,yielded,zC,zA,zB,zK,jPa];done)) )|((with_reducible refine Qp ?_);( ((refine' ldI1 (v:=_) hS rfl rfl ?ha rfl ?hb ?_);(case ha =>  exact Zr );(case hb=>assumption)));(try simp only [Act.put,zE,zF,zG]))))
                 go_ret3;rw [show R0=some (rows,rs) from Hr.out];obtain ⟨J7,l7,m7,hS7,_⟩:=hS.ice;exact ⟨_,_,J7,rfl,PH.le.trans Q3.out (PH.le.trans HJ.out (PH.le.trans R3.out (PH.le.trans HL6.out l7))),(OwnP.row3 HO3.out).le m7,HV6.out.le l7,hS7⟩
            . have heq:(h0.toList == [114,111,111,116,115])=false:=by rw [lst_roots];simpa using hh
              have Hr:=yH (show R0=none from by rw [Hst.out,jAb (by rw [Hhd.out];simpa using hh)]);clear HNm Hst hnum hh hrf hrl HRt;rcases hkc with ⟨rfl,rfl,hT⟩|⟨hk,hT⟩
              all_goals
               have HT:=yH hT;clear hT;go_wp2_with (first|(go_at_call 22;(with_reducible refine yI (HNx.out _ _ _ _ _ HT.out hS) ?_);clear hS;rintro e w ⟨A6,n6,k6,J6,rfl,l6,v6,hS⟩;have HL6:=yH l6;have HV6:=yH v6;have ih0:=PH.at_le l6 ih0;clear l6 v6)|((with_reducible refine Kh ?_);first|((with_reducible refine Zd ?_);  ((with_reducible refine Qs ?hw ?_);case hw=>(simp only [Region.wanted,yielded,zC,zA,zB,zK,jPa];done)) )|((with_reducible refine Qp ?_);( ((refine' ldI1 (v:=_) hS rfl rfl ?ha rfl ?hb ?_);(case ha =>  exact Zr );(case hb=>assumption)));(try simp only [Act.put,zE,zF,zG]))))
               go_ret3;exact Kj Hr.out rfl (PH.le.trans Q3.out (PH.le.trans HJ.out (PH.le.trans R3.out HL6.out))) hS.drop
end
section
open Go.RowKit
theorem splC_nil (c:Nat) {t l2:List Nat} {rest:List (List Nat)} (h:Qw c t=l2::rest):(rest=[]/\l2=[])↔t=[]:=by
 by_cases hc:c ∈ t
 . obtain ⟨a,b,rfl,ha⟩:=first_cut c t hc
   rw [splC_hit c b a ha,kHb] at h
   have:=splC_pos c b;rw [h.2] at this;exact ⟨fun h2=>by rw [h2.1] at this;exact absurd this (by decide),fun h2=>absurd h2 (by simp)⟩
 . rw [splC_miss c t hc,kHb] at h
   rw [h.1,<- h.2];simp
theorem readO_cut (hi:Int) (y t:List Nat) (rows:List G.Rw3):Kr hi (y::Qw 10 t) rows=if (Qw 32 y).head?=some Xu then (if t=[] then (Qy hi (Qw 32 y).tail).bind fun rs=>if G.rightB rows rs=true then some (rows,rs) else none else none) else (rowO hi y).bind fun r=>Kr hi (Qw 10 t) (rows ++ [r]):=by
 cases hs:Qw 10 t with
 | nil=>have:=splC_pos 10 t;rw [hs] at this;exact absurd this (by decide)
 | cons l2 rest =>
   rw [Kr];simp only [splC_nil 10 hs]
theorem rread_any {E w:World} {I:PH} {ms:List PH} (s:ByteArray) (hs:s.size<=70000) (hS:Sat E I ms w) :
  Calls Tryz.prog 7 #[.string s] w fun e w'=>ReadF (if 65536<s.size then none else Kr 1099511627776 (Qw 10 (lst s)) []) (if 65536<s.size then 4 else 3) E I ms e w':=by
 by_cases hbig:65536<s.size
 . rw [jAa hbig,jAa hbig]
   have d0:(65536:Int)<(s.size:Int):=by omega
   go_enter Tryz.func7,Tryz.ntmps7;go_wp2_with fail
   go_ret3;exact Kj rfl rfl (PH.le.refl _) hS
 . rw [jAb hbig,jAb hbig]
   have d0:¬ (65536:Int)<(s.size:Int):=by omega
   generalize hR:Kr 1099511627776 (Qw 10 (lst s)) []=R0;have HR:=yH hR;clear hR hbig;go_enter Tryz.func7,Tryz.ntmps7;go_wp2_with (first|((with_reducible refine Kh ?_);  ((with_reducible refine isBuildSlice ?_);(refine' bsl hS ?hr ?_);(case hr=>(intro w0;go_simp;rfl));clear hS;intro XS w hS;(try simp only [Act.put,zE,zF,zG]))))
   have HS0:=yH hS;have HO0:=yH (OwnP.lit XS 63 3 0 #[] (jCa _) rfl);have HLs:=yH (Qi s);clear hS;go_loopw [5,6,7] (fun v5 v6 v7 wr=>∃ (f i N:Nat) (rows:List G.Rw3) (mm J:PH),f<=i/\i<=s.size/\v6=.int .i64 (f:Int)/\v7=.int .i64 (i:Int)/\rows.length=N/\N<=i/\(∀ r ∈ rows,RowFit r)/\OwnP mm 63 3 v5 N (rows.flatMap rowC)/\I.le J/\R0=Kr 1099511627776 (Qw 10 ((lst s).drop f)) rows/\(∀ t x,f<=t->t<i->(lst s)[t]?=some x->x≠10)/\Sat E J (mm::ms) wr) (fun _ _ v7 _=>(s.size - intOf v7).toNat)
   case atStart=>exact ⟨0,0,0,[],_,I,by omega,by omega,rfl,rfl,rfl,by omega,(fun r h=>by cases h),HO0.out,PH.le.refl _,HR.out.symm,fun t x h1 h2=>by omega,HS0.out⟩
   case round =>
    clear HS0 HO0;obtain ⟨f,i,N,rows,mm,J,hfi,his,rfl,rfl,hrl,hNi,hfit,hO,hJ,hrun,hno,hS⟩:=hrel;obtain ⟨A3,c3,rfl,_⟩:=hO.shape;have HJ:=yH hJ;have HRl:=yH hrl;have HFit:=yH hfit;have HO:=yH hO;clear hJ hrl hfit hO;by_cases hlt:i<s.size
    . have g2:(i:Int)<(s.size:Int):=by omega
      have g3:(0:Int)<=(i:Int):=by omega
      obtain ⟨b,hb,hb2,hbl⟩:=byteI s i hlt;have g4:(f:Int)<=(i:Int):=by omega
      have g5:min i s.size=i:=by omega
      by_cases h10:b=10
      . subst h10
        have d1:(((s[i].toNat:Nat):Int) != 10)=false:=by rw [hb];rfl
        obtain ⟨h1,h2⟩:=seg_cut hfi hbl hno;rw [h1,splC_hit 10 _ _ h2,<- lstExt,readO_cut] at hrun;have hyz:(s.extract f i).size<=70000:=by rw [kLa];omega
        have htl:((lst s).drop (i+1)=[])↔i+1=s.size:=by rw [List.drop_eq_nil_iff,HLs.out];omega
        have HRW:=yH (fun (w':World) (h:Sat E J (mm::ms) w')=>rwordsF (s.extract f i) hyz h);have Hst:=yH hrun;have Htl:=yH htl;have N7:N<=70000:=by omega
        have HNi:=yH hNi;have g6:(i:Int)<=70000:=by omega
        clear h1 h2 hrun hno hbl htl hNi
        go_upto_region 11 with ( (go_at_call 24;(with_reducible refine yI (HRW.out _ hS) ?_);clear hS;rintro e w ⟨A4,n4,k4,J4,qs,rfl,r1,r2,r3,r4,r5,hS⟩) )
        have hpos:0<qs.length:=by have:=splC_pos 32 (lst (s.extract f i));rw [<- r5,jHb] at this;exact this
        obtain ⟨h0,hh0⟩:∃ h0,qs[0]?=some h0:=⟨_,yA hpos⟩;obtain ⟨X4,o4,rfl,ih0⟩:=r4.get hh0;rw [Nat.add_zero] at ih0;have t1:(1:Int)<=(n4:Int):=by omega
        have t2:(0:Int)<(n4:Int):=by omega
        have t3:(n4:Int)<=(k4:Int):=by omega
        have hlt4:qs.length<=70001:=by have:=(Xn r5).1;omega
        have Hhd:=yH (show (Qw 32 (lst (s.extract f i))).head?=some (lst h0) from by rw [<- r5,List.head?_map,List.head?_eq_getElem?,hh0];rfl);have R3:=yH r3;by_cases hh:lst h0=Xu
        . have heq:(h0.toList == [114,111,111,116,115])=true:=by rw [lst_roots,hh];decide
          have hst:=Hst.out;rw [jAa (by rw [Hhd.out,hh])] at hst;have HNm:=yH (fun (w':World) (K:PH) (A:Option Addr) (n k:Nat) (h4:WdRo K (.slice A n k) qs.tail) (h:Sat E K (mm::ms) w')=>rnumF h4 (fun p hp=>by have:=(Xn r5).2 p (List.mem_of_mem_tail hp);omega) (by rw [kB];omega) h);have Hnt:=yH (show qs.tail.map lst=(Qw 32 (lst (s.extract f i))).tail from by rw [List.map_tail,r5]);have hkc:(k4=1/\n4=1/\WdRo J4 (.slice (some ⟨X4,o4,none⟩) 0 0) qs.tail)\/(¬ k4=1/\WdRo J4 (.slice (some ⟨X4,o4+1,none⟩) (n4 - 1) (k4 - 1)) qs.tail):=by
           by_cases hk:k4=1
           . refine .inl ⟨hk,by omega,none_wd ?_⟩
             rw [kB];omega
           . exact .inr ⟨hk,r4.tail r1⟩
          have HO3:=yH (show OwnP mm 63 3 (.slice A3 N c3) rows.length (rows.flatMap rowC) from by rw [HRl.out];exact HO.out);have HRw:=yH (show rows.length<=70000 from by rw [HRl.out];exact N7);have Hq4:=yH hlt4;have hst2:=yH hst;clear r1 r2 r3 r4 r5 hh0 hpos hlt4 HO HRl hyz hh hst Hst;rcases hnum:Qy 1099511627776 (Qw 32 (lst (s.extract f i))).tail with _|rs
          . have HNx:=yH (fun (w':World) (K:PH) (A:Option Addr) (n k:Nat) (h4:WdRo K (.slice A n k) qs.tail) (h:Sat E K (mm::ms) w')=>(HNm.out w' K A n k h4 h).mono fun e w2 hh=>FrzR.bad hh (by rw [Hnt.out];exact hnum))
            have Hr:=yH (show R0=none from by rw [hst2.out,hnum];split <;> rfl);clear HNm hst2 hnum;rcases hkc with ⟨rfl,rfl,hT⟩|⟨hk,hT⟩
            all_goals
             have HT:=yH hT;clear hT;go_wp2_with (first|(go_at_call 25;(with_reducible refine yI (HNx.out _ _ _ _ _ HT.out hS) ?_);clear hS;rintro e w ⟨A6,n6,k6,J6,rfl,l6,hS⟩;have HL6:=yH l6;clear l6)|((with_reducible refine Kh ?_);  ((with_reducible refine Qp ?_);( ((refine' ldI1 (v:=_) hS rfl rfl ?ha rfl ?hb ?_);(case ha =>  exact Zr );(case hb=>assumption)));(try simp only [Act.put,zE,zF,zG]))))
             go_ret3;exact Kj Hr.out rfl (PH.le.trans HJ.out (PH.le.trans R3.out HL6.out)) hS.drop
          . have HNx:=yH (fun (w':World) (K:PH) (A:Option Addr) (n k:Nat) (h4:WdRo K (.slice A n k) qs.tail) (h:Sat E K (mm::ms) w')=>(HNm.out w' K A n k h4 h).mono fun e w2 hh=>FrzR.all hh (by rw [Hnt.out];exact hnum))
            have hrf:=numsO_fit hnum;have hrl:rs.length<=70001:=by rw [numsO_len hnum,<- Hnt.out,jHb,kB];have:=Hq4.out;omega
            have HRt:=yH (fun (w':World) (K:PH) (v:Value) (hv:IntRo K v rs) (h:Sat E K (mm::ms) w')=>rmay_any (W:=w') ((OwnP.row3 HO3.out).o.le (h.mle (k:=0) rfl)) (hv.le h.ile) (by have:=HRw.out;omega) (by omega) HFit.out (fun e he=>by have:=hrf e he;omega));rw [hnum] at hst2;by_cases hend:i+1=s.size
            . have d7:(((i:Int)+1) != (s.size:Int))=false:=by rw [bne_eq_false_iff_eq];omega
              have Hr:=yH (show R0=if G.rightB rows rs=true then some (rows,rs) else none from by rw [hst2.out,jAa (Htl.out.2 hend)];rfl);clear HNm hst2 hnum hrf hrl hend;generalize hrb:G.rightB rows rs=rb at *
              clear hrb;cases rb with
              | false =>
                rcases hkc with ⟨rfl,rfl,hT⟩|⟨hk,hT⟩
                all_goals
                 have HT:=yH hT;clear hT;go_wp2_with (first|(go_at_call 25;(with_reducible refine yI (HNx.out _ _ _ _ _ HT.out hS) ?_);clear hS;rintro e w ⟨A6,n6,k6,J6,rfl,l6,v6,hS⟩;have HL6:=yH l6;have HV6:=yH v6;clear l6 v6)|(go_at_call 26;(with_reducible refine yI (HRt.out _ _ _ HV6.out hS) ?_);rintro e w ⟨rfl,hb⟩;replace hS:=hS.below_ hb;clear hb)|((with_reducible refine Kh ?_);first|((with_reducible refine Zd ?_);  ((with_reducible refine Qs ?hw ?_);case hw=>(simp only [Region.wanted,yielded,zC,zA,zB,zK,jPa];done)) )|((with_reducible refine Qp ?_);( ((refine' ldI1 (v:=_) hS rfl rfl ?ha rfl ?hb ?_);(case ha =>  exact Zr );(case hb=>assumption)));(try simp only [Act.put,zE,zF,zG]))))
                 go_ret3;exact Kj (by rw [Hr.out];rfl) rfl (PH.le.trans HJ.out (PH.le.trans R3.out HL6.out)) hS.drop
              | true =>
                rcases hkc with ⟨rfl,rfl,hT⟩|⟨hk,hT⟩
                all_goals
                 have HT:=yH hT;clear hT;go_wp2_with (first|(go_at_call 25;(with_reducible refine yI (HNx.out _ _ _ _ _ HT.out hS) ?_);clear hS;rintro e w ⟨A6,n6,k6,J6,rfl,l6,v6,hS⟩;have HL6:=yH l6;have HV6:=yH v6;clear l6 v6)|(go_at_call 26;(with_reducible refine yI (HRt.out _ _ _ HV6.out hS) ?_);rintro e w ⟨rfl,hb⟩;replace hS:=hS.below_ hb;clear hb)|((with_reducible refine Kh ?_);first|((with_reducible refine Zd ?_);  ((with_reducible refine Qs ?hw ?_);case hw=>(simp only [Region.wanted,yielded,zC,zA,zB,zK,jPa];done)) )|((with_reducible refine Qp ?_);( ((refine' ldI1 (v:=_) hS rfl rfl ?ha rfl ?hb ?_);(case ha =>  exact Zr );(case hb=>assumption)));(try simp only [Act.put,zE,zF,zG]))))
                 go_ret3;rw [show R0=some (rows,rs) from Hr.out];obtain ⟨J7,l7,m7,hS7,_⟩:=hS.ice;exact ⟨_,_,J7,rfl,PH.le.trans HJ.out (PH.le.trans R3.out (PH.le.trans HL6.out l7)),(OwnP.row3 HO3.out).le m7,HV6.out.le l7,hS7⟩
            . have d7:(((i:Int)+1) != (s.size:Int))=true:=by rw [kWa];omega
              have Hr:=yH (show R0=none from by rw [hst2.out,jAb fun h=>hend (Htl.out.1 h)]);clear HNm hst2 hnum hrf hrl hend HRt;rcases hkc with ⟨rfl,rfl,hT⟩|⟨hk,hT⟩
              all_goals
               have HT:=yH hT;clear hT;go_wp2_with (first|(go_at_call 25;(with_reducible refine yI (HNx.out _ _ _ _ _ HT.out hS) ?_);clear hS;rintro e w ⟨A6,n6,k6,J6,rfl,l6,v6,hS⟩;have HL6:=yH l6;have HV6:=yH v6;clear l6 v6)|((with_reducible refine Kh ?_);first|((with_reducible refine Zd ?_);  ((with_reducible refine Qs ?hw ?_);case hw=>(simp only [Region.wanted,yielded,zC,zA,zB,zK,jPa];done)) )|((with_reducible refine Qp ?_);( ((refine' ldI1 (v:=_) hS rfl rfl ?ha rfl ?hb ?_);(case ha =>  exact Zr );(case hb=>assumption)));(try simp only [Act.put,zE,zF,zG]))))
               go_ret3;exact Kj Hr.out rfl (PH.le.trans HJ.out (PH.le.trans R3.out HL6.out)) hS.drop
        . have heq:(h0.toList == [114,111,111,116,115])=false:=by rw [lst_roots];simpa using hh
          have hst:=Hst.out;rw [jAb (by rw [Hhd.out];simpa using hh)] at hst;have HNm:=yH (fun (w':World) (h:Sat E J4 (mm::ms) w')=>rnumF r4 (fun p hp=>by have:=(Xn r5).2 p hp;omega) (by omega) h);have Hq:=yH r5;have hst2:=yH hst;clear r1 r2 r3 r4 r5 hh0 hpos hlt4 hyz hh hst Hst Htl;rcases hnum:Qy 1099511627776 (Qw 32 (lst (s.extract f i))) with _|l
          . have HNx:=yH (fun (w':World) (h:Sat E J4 (mm::ms) w')=>(HNm.out w' h).mono fun e w2 hh=>FrzR.bad hh (by rw [Hq.out];exact hnum))
            have Hr:=yH (show R0=none from by rw [hst2.out,rowO_none hnum];rfl);clear HNm hst2 hnum;go_wp2_with (first|(go_at_call 25;(with_reducible refine yI (HNx.out _ hS) ?_);clear hS;rintro e w ⟨A6,n6,k6,J6,rfl,l6,hS⟩;have HL6:=yH l6;clear l6)|((with_reducible refine Kh ?_);  ((with_reducible refine Qp ?_);( ((refine' ldI1 (v:=_) hS rfl rfl ?ha rfl ?hb ?_);(case ha =>  exact Zr );(case hb=>assumption)));(try simp only [Act.put,zE,zF,zG]))))
            go_ret3;exact Kj Hr.out rfl (PH.le.trans HJ.out (PH.le.trans R3.out HL6.out)) hS.drop
          . by_cases hl:l.length=3
            . obtain ⟨a,b,c,rfl⟩:=three_of hl
              have HNx:=yH (fun (w':World) (h:Sat E J4 (mm::ms) w')=>(HNm.out w' h).mono fun e w2 hh=>FrzR.three hh (by rw [Hq.out];exact hnum));have hab:=numsO_fit hnum;have Hfit2:=yH (show ∀ r ∈ rows ++ [⟨a,b,c⟩],RowFit r from fun r hr=>by
               rcases jIa.1 hr with hr|hr
               . exact HFit.out r hr
               . rw [jMa] at hr
                 subst hr
                 have:=hab a (by simp)
                 have:=hab b (by simp)
                 have:=hab c (by simp);exact ⟨⟨by simp only;omega,by simp only;omega⟩,⟨by simp only;omega,by simp only;omega⟩,by simp only;omega,by simp only;omega⟩)
              have Hr:=yH (show R0=Kr 1099511627776 (Qw 10 ((lst s).drop (i+1))) (rows ++ [⟨a,b,c⟩]) from by rw [hst2.out,rowO_three hnum];rfl);clear HNm hst2 hnum hab hl HFit
              go_upto_region 19 with (first|(go_at_call 25;(with_reducible refine yI (HNx.out _ hS) ?_);clear hS;rintro e w ⟨X6,k6,J6,rfl,l6,g0,g1,g2,hS⟩;have HL6:=yH l6;clear l6)|((with_reducible refine Kh ?_);first|((with_reducible refine Zd ?_);  ((with_reducible refine Qs ?hw ?_);case hw=>(simp only [Region.wanted,yielded,zC,zA,zB,zK,jPa];done)) )|((with_reducible refine Qp ?_);( ((refine' ldI1 (v:=_) hS rfl rfl ?ha rfl ?hb ?_);(case ha =>  exact Zr );(case hb=>assumption)));(try simp only [Act.put,zE,zF,zG]))))
              refine Qg [[],[],[1],[1,2],[],[4],[4,5],[],[7],[7,8],[1,2,3,4,5,6,7,8,9],[1,2,3,4,5,6,7,8,9,10],[0,1,2,3,4,5,6,7,8,9,10,11],[0,1,2,3,4,5,6,7,8,9,10,11,12]] E J6 _
               [fun v _=>v=.slice A3 N c3,fun v _=>v=.slice (some ⟨X6,0,none⟩) 3 k6,fun v _=>v=.pointer (some ⟨X6,0,none⟩),fun v _=>v=.int .i64 a,fun v _=>v=.slice (some ⟨X6,0,none⟩) 3 k6,fun v _=>v=.pointer (some ⟨X6,1,none⟩),fun v _=>v=.int .i64 b,fun v _=>v=.slice (some ⟨X6,0,none⟩) 3 k6,fun v _=>v=.pointer (some ⟨X6,2,none⟩),fun v _=>v=.int .i64 c,fun v _=>v=.agg #[.int .i64 a,.int .i64 b,.int .i64 c],fun v J=>∃ Z,v=.slice (some ⟨Z,0,none⟩) 1 1/\Cells J Z 0 [.int .i64 a,.int .i64 b,.int .i64 c],fun _ _=>True,fun _ _=>True] [12,13]
               (rowS 63 3 [12,13] (N+1) ((rows ++ [(⟨a,b,c⟩:G.Rw3)]).flatMap rowC) _) (by kernel_rfl) (by kernel_rfl) (by decide) hS rfl ?last rowS.gst rowS.gle ?plain ?step ?fin
              case last =>
               repeat (first|exact Lasting.nil|refine Lasting.cons (fun _ _ _ _ h=>h) ?_|refine Lasting.cons (fun v I9 J9 h9 h=>by obtain ⟨Z,e,hz⟩:=h;exact ⟨Z,e,hz.le h9⟩) ?_)
              case plain =>
               repeat' (first|exact trivial|apply And.intro)
               all_goals first|exact .inl rfl|skip
               all_goals
                refine .inr ?_;intro s vals J9 bs w hstop hg hJ9 hS hG;clear hG;simp only [zH,zI,Given,Facts] at hg;simp only [Qb,Qe,Qd,Qf,zH,zI,zA,zB,zK,jC,Act.put,zE,zF,zG,hg];refine ⟨?_⟩;refine Qz (fun K hK=>?_);have HK:=yH hK;clear hK;rw [jAa (by rfl)]
                first
                 | ((with_reducible refine atBslB ?_);(refine' wp_bslF hS ?hr ?_);(case hr=>(intro w0;go_simp;try rfl));clear hS;intro Z J2 w hJ2 hX2 hS;(try simp only [Act.put]);refine HK.out _ _ ⟨rfl,J2,hJ2,hS,?_⟩;clear HK;simp only [Facts];simp only [Qh,zH,zI,zE,zF,zG,zD,zC,zA,zB,zJ];exact ⟨Z,rfl,cells_of hX2⟩)
                 | ((first
                     | ((with_reducible refine Yg ?_);((refine' wp_ldi1 (v:=_) hS hJ9 ?ha rfl ?hc ?_);(case ha=>exact Kl);(case hc=>assumption)))
                     | (go_wp2_with fail))
                    refine HK.out _ _ ⟨rfl,J9,PH.le.refl _,hS,?_⟩;clear HK;simp only [Facts];simp only [Qh,zH,zI,Act.put,zE,zF,zG,zD,zC,zA,zB,zJ])
              case step =>
               refine ⟨⟨trivial,?_⟩,?_⟩
               . intro vals J9 bs w hg hJ9 hS hG
                 have hG:bs=_:=hG;subst hG;simp only [zH,zI,Given,Facts,jMb] at hg;obtain ⟨e0,_,_,_,_,_,_,_,_,_,_,Z,e11,h11⟩:=hg;have hg:=And.intro e0 e11;simp only [Qb,Qe,Qd,Qf,zH,zI,zA,zB,zK,jC,Act.put,zE,zF,zG,hg];refine ⟨?_⟩;refine Qz (fun K hK=>?_);have HK:=yH hK;clear hK;rw [jAa (by rfl)];refine wp_apS hS 0 rfl (p:=J9) (.inl (PH.le.refl _)) rfl Tryz.underlying23 row3_info rfl (by decide) rfl HO.out rfl (news:=[.int .i64 a,.int .i64 b,.int .i64 c]) rfl (fun _=>?_) (fun u hu=>by simp only [jBa,jCb,jKb] at hu;rcases hu with rfl|rfl|rfl <;> rfl) (by unfold maxLen;omega) (by omega) fun v' m' w2 hO2 hS2=>?_
                 . exact ⟨Z,0,rfl,h11⟩
                 . refine HK.out _ _ ⟨rfl,J9,_,PH.le.refl _,hS2,trivial,by decide,m',?_,rfl⟩
                   simp only [Qh,zI,Act.put,zE,zF,zG,zD,zC,zA,zB,zJ];rw [Qr,jLb];exact hO2
               . intro vals J9 bs w hg hJ9 hS hG
                 obtain ⟨_,m',hO2,rfl⟩:=hG;simp only [zI] at hO2;simp only [zH,zI,Given,Facts] at hg;simp only [Qb,Qe,Qd,Qf,zH,zI,zA,zB,zK,jC,Act.put,zE,zF,zG,hg];refine ⟨?_⟩;refine Qz (fun K hK=>?_);have HK:=yH hK;clear hK;rw [jAa (by rfl)]
                 refine wp_as ?_;refine HK.out _ _ ⟨rfl,J9,_,PH.le.refl _,hS,trivial,by decide,m',?_,rfl⟩;simp only [Qh,zH,zI,Act.put,zE,zF,zG,zD,zC,zA,zB,zJ];rw [Qr];exact hO2
              case fin =>
               intro vals J9 bs w hJ9 hg hS hG;obtain ⟨_,m',hO2,rfl⟩:=hG;simp only [zG] at hS;simp only [zH,zI] at hO2;have HO2:=yH hO2;have HJ9:=yH hJ9;clear hO2 hJ9;simp only [yB,yC,Nat.reduceAdd,Below_,Facts,zH,zI,jGb,jMb] at hg;obtain ⟨⟨⟨⟨⟨⟨⟨⟨⟨⟨⟨e0,e1⟩,e2⟩,e3⟩,e4⟩,e5⟩,e6⟩,e7⟩,e8⟩,e9⟩,e10⟩,Z,e11,h11⟩:=hg;have hg:=And.intro e0 (And.intro e1 (And.intro e2 (And.intro e3 (And.intro e4 (And.intro e5 (And.intro e6 (And.intro e7 (And.intro e8 (And.intro e9 (And.intro e10 e11))))))))));simp only [yB,yC,Nat.reduceAdd,Qb,Qe,Qd,zA,zB,zK,jC,Act.put,zE,zF,zG,hg];refine ⟨?_⟩;clear hg e0 e1 e2 e3 e4 e5 e6 e7 e8 e9 e10 e11 h11;go_wp2_with fail
               exact ⟨⟨i+1,i+1,N+1,rows ++ [⟨a,b,c⟩],m',J9,jBb _,by omega,by go_num,by go_num,by rw [yG,HRl.out];rfl,by have:=HNi.out;omega,Hfit2.out,HO2.out,PH.le.trans HJ.out (PH.le.trans R3.out (PH.le.trans HL6.out HJ9.out)),Hr.out,fun t x h1 h2=>by omega,hS⟩,by simp [intOf];omega⟩
            . have HNx:=yH (fun (w':World) (h:Sat E J4 (mm::ms) w')=>(HNm.out w' h).mono fun e w2 hh=>FrzR.few hh (by rw [Hq.out];exact hnum) hl)
              have Hr:=yH (show R0=none from by rw [hst2.out,rowO_few hnum hl];rfl);clear HNm hst2 hnum hl;go_wp2_with (first|(go_at_call 25;(with_reducible refine yI (HNx.out _ hS) ?_);clear hS;rintro e w ⟨A6,n6,k6,J6,rfl,d6,l6,hS⟩;have HL6:=yH l6;clear l6)|((with_reducible refine Kh ?_);first|((with_reducible refine Zd ?_);  ((with_reducible refine Qs ?hw ?_);case hw=>(simp only [Region.wanted,yielded,zC,zA,zB,zK,jPa];done)) )|((with_reducible refine Qp ?_);( ((refine' ldI1 (v:=_) hS rfl rfl ?ha rfl ?hb ?_);(case ha =>  exact Zr );(case hb=>assumption)));(try simp only [Act.put,zE,zF,zG]))))
              go_ret3;exact Kj Hr.out rfl (PH.le.trans HJ.out (PH.le.trans R3.out HL6.out)) hS.drop
      . have d1:(((s[i].toNat:Nat):Int) != 10)=true:=by rw [hb,kWa];omega
        have Hru:=yH hrun;have HNo:=yH hno;have HBl:=yH hbl;clear hrun hno hbl;go_wp2_with fail
        go_round
        case rel=>exact ⟨f,i+1,N,rows,mm,J,by omega,by omega,rfl,by go_num,HRl.out,by omega,HFit.out,HO.out,HJ.out,Hru.out,fun t x h1 h2 h3=>by
         by_cases e:t=i
         . subst e;rw [HBl.out] at h3;injection h3 with h3;omega
         . exact HNo.out t x h1 (by omega) h3,hS⟩
        case measure=>simp [intOf];omega
    . obtain rfl:i=s.size:=by omega
      have g1:¬ (s.size:Int)<(s.size:Int):=by omega
      have Hr:=yH (show R0=none from by rw [hrun,seg_last (fun t x h1 h2=>hno t x h1 (by have:=(yE.1 h2).1;rw [HLs.out] at this;exact this) h2)];rfl);clear hrun hno;go_wp2_with fail
      go_ret3;exact Kj Hr.out rfl HJ.out hS.drop
end
end Go.Proofs.YtidamcdklgfogaaGreatDoor
