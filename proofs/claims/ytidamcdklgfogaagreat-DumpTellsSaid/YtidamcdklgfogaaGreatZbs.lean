import Derived.Test.YtidamcdklgfogaaGreatZab
import Derived.Test.YtidamcdklgfogaaGreatZbr
set_option linter.unusedSimpArgs false
set_option linter.unusedVariables false
set_option maxRecDepth 100000
set_option maxHeartbeats 4000000
namespace Go.Proofs.YtidamcdklgfogaaGreat
section
open Go.RowKit
def IntRo (I:PH) (v:Value) (l:List Int):Prop:=∃ A c,v=.slice A l.length c∧(0<l.length→∃ X off,A=some ⟨X,off,none⟩∧∀ (i:Nat) x,l[i]?=some x→I.at X (off+i)=some (.int .i64 x))
theorem IntRo.le {I J:PH} {v:Value} {l:List Int} (h:IntRo I v l) (hJ:I.le J):IntRo J v l:=by
 obtain ⟨A,c,rfl,h2⟩:=h
 refine ⟨A,c,rfl,fun hn=>?_⟩
 obtain ⟨X,o,e,h3⟩:=h2 hn
 exact ⟨X,o,e,fun i x hx=>PH.at_le hJ (h3 i x hx)⟩
end
namespace G
def leadsB (e:Int) (n:Nat):Bool:=decide (0≤e) && decide (e / 2≤(n:Int))
def rowB (r:Rw3) (i:Nat):Bool:=!(decide (r.v<0)) && !(decide (r.v≥64)) && leadsB r.lo i && leadsB r.hi i
def rightB (rows:List Rw3) (roots:List Int):Bool:=(rows.zipIdx.all fun q=>rowB q.1 q.2) && (roots.all fun e=>leadsB e rows.length) && decide (rows.length≤4096)
theorem rightB_row {rows:List Rw3} {roots:List Int} {i:Nat} {r:Rw3} (h:rows[i]?=some r) (hb:rowB r i=false):rightB rows roots=false:=by
 have:(rows.zipIdx.all fun q=>rowB q.1 q.2)=false:=by
  rw [List.all_eq_false]
  exact ⟨(r,i),List.mem_zipIdx_iff_getElem?.2 h,by simp [hb]⟩
 unfold rightB
 rw [this];rfl
theorem rightB_root {rows:List Rw3} {roots:List Int} {i:Nat} {e:Int} (h:roots[i]?=some e) (hb:leadsB e rows.length=false):rightB rows roots=false:=by
 have:(roots.all fun e=>leadsB e rows.length)=false:=by
  rw [List.all_eq_false]
  exact ⟨e,List.mem_of_getElem? h,by simp [hb]⟩
 unfold rightB
 rw [this];simp
theorem rightB_end {rows:List Rw3} {roots:List Int} (h1:∀ i r,rows[i]?=some r→rowB r i=true) (h2:∀ (i:Nat) e,roots[i]?=some e→leadsB e rows.length=true):rightB rows roots=decide (rows.length≤4096):=by
 have a1:(rows.zipIdx.all fun q=>rowB q.1 q.2)=true:=by
  rw [List.all_eq_true]
  rintro ⟨r,i⟩ hm
  exact h1 i r (List.mem_zipIdx_iff_getElem?.1 hm)
 have a2:(roots.all fun e=>leadsB e rows.length)=true:=by
  rw [List.all_eq_true]
  intro e hm
  obtain ⟨i,hi⟩:=List.getElem?_of_mem hm
  exact h2 i e hi
 unfold rightB
 rw [a1,a2];rfl
end G
section
open Go.RowKit
theorem dleads_any {w:World} (e:Int) (n:Nat) (h1 : -9223372036854775808≤e) (h2:e<9223372036854775808) :
  Calls Tryz.prog 75 #[.int .i64 e,.int .i64 (n:Int)] w fun e' w'=>e'=.returned (.bool (G.leadsB e n))∧w=w':=by
 unfold G.leadsB
 by_cases h0:0≤e
 · have e1:decide (0≤e)=true:=decide_eq_true h0
   have e2:e.tdiv 2=e / 2:=Int.tdiv_eq_ediv_of_nonneg h0
   have e3:wrap64 (e.tdiv 2)=e / 2:=by rw [e2];exact IntWalk.wrap64_in _ (by omega)
   rw [e1]
   go_enter Tryz.func75,Tryz.ntmps75
   go_wp2_with fail
   go_ret
   exact ⟨rfl,rfl⟩
 · have e1:decide (0≤e)=false:=decide_eq_false h0
   rw [e1]
   go_enter Tryz.func75,Tryz.ntmps75
   go_wp2_with fail
   go_ret
   exact ⟨rfl,rfl⟩
def RowFit (r:G.Rw3):Prop:=(-9223372036854775808≤r.v∧r.v<9223372036854775808)∧(-9223372036854775808≤r.lo∧r.lo<9223372036854775808)∧(-9223372036854775808≤r.hi∧r.hi<9223372036854775808)
theorem Row3R.shape2 {J:PH} {v:Value} {l:List G.Rw3} (h:Row3R J v l):∃ A c,v=.slice A l.length c∧(0<l.length→∃ X o,A=some ⟨X,o,none⟩∧∀ (i:Nat) x,l[i]?=some x→Cells J X (o+i * 3) (rowC x)):=by
 obtain ⟨A,c,h1,_,h3⟩:=h.shape
 exact ⟨A,c,h1,h3⟩
theorem IntR.shape2 {J:PH} {v:Value} {l:List Int} (h:IntR J v l):∃ A c,v=.slice A l.length c∧(0<l.length→∃ X,A=some ⟨X,0,none⟩∧∀ (i:Nat) x,l[i]?=some x→J.at X i=some (.int .i64 x)):=by
 obtain ⟨⟨A,c,rfl⟩,h2⟩:=h
 refine ⟨A,c,rfl,fun hn=>?_⟩
 obtain ⟨X,c',e,h3⟩:=h2 hn
 injection e with e1 e2 e3
 exact ⟨X,e1,h3⟩
def Row3o (J:PH) (v:Value) (l:List G.Rw3):Prop:=∃ A c,v=.slice A l.length c∧(0<l.length→∃ X o,A=some ⟨X,o,none⟩∧∀ (i:Nat) x,l[i]?=some x→Cells J X (o+i * 3) (rowC x))
theorem Row3R.o {J:PH} {v:Value} {l:List G.Rw3} (h:Row3R J v l):Row3o J v l:=h.shape2
theorem Row3o.le {I J:PH} {v:Value} {l:List G.Rw3} (h:Row3o I v l) (hJ:I.le J):Row3o J v l:=by
 obtain ⟨A,c,rfl,h2⟩:=h
 refine ⟨A,c,rfl,fun hn=>?_⟩
 obtain ⟨X,o,e,h3⟩:=h2 hn
 exact ⟨X,o,e,fun i x hx=>(h3 i x hx).le hJ⟩
theorem IntR.ro {I:PH} {v:Value} {l:List Int} (h:IntR I v l):IntRo I v l:=by
 obtain ⟨A,c,rfl,h2⟩:=h.shape2
 refine ⟨A,c,rfl,fun hn=>?_⟩
 obtain ⟨X,e,h3⟩:=h2 hn
 exact ⟨X,0,e,fun i x hx=>by rw [Nat.zero_add];exact h3 i x hx⟩
theorem dright_any {W:World} {vl vr:Value} {rows:List G.Rw3} {roots:List Int} (hl:Row3o (Qa W) vl rows) (hr:IntRo (Qa W) vr roots) (hn:rows.length<1152921504606846976) (hm:roots.length<1152921504606846976) (hf:∀ r ∈ rows,RowFit r) (hg:∀ e ∈ roots,-9223372036854775808≤e∧e<9223372036854775808) :
  Calls Tryz.prog 30 #[vl,vr] W fun e w'=>e=.returned (.bool (G.rightB rows roots))∧Below W.heap.size W w':=by
 obtain ⟨A,c,rfl,hcl⟩:=hl
 obtain ⟨B,d,rfl,hcr⟩:=hr
 have HCl:=yH hcl
 have HCr:=yH hcr
 have HF:=yH hf
 have HG:=yH hg
 have hS:=Sat.start W
 clear hcl hcr hf hg
 generalize hN:rows.length=N at *
 generalize hM:roots.length=M at *
 have HNn:=yH hN
 have HMm:=yH hM
 clear hN hM
 go_enter Tryz.func30,Tryz.ntmps30
 go_wp2_with fail
 go_loopw [11] (fun v11 wr=>∃ i:Nat,i≤N∧v11=.int .i64 (i:Int)∧(∀ j r,j<i→rows[j]?=some r→G.rowB r j=true)∧Sat W (Qa W) [] wr) (fun v11 _=>(N - intOf v11).toNat)
 case atStart=>exact ⟨0,Nat.zero_le _,rfl,fun j r h=>by omega,hS⟩
 case round =>
  clear hS
  obtain ⟨i,hi,rfl,hok,hS⟩:=hrel
  by_cases hlt:i<N
  · obtain ⟨r,hr⟩:∃ r,rows[i]?=some r:=⟨_,yA (by rw [HNn.out];exact hlt)⟩
    obtain ⟨Y,oY,hA,hcell⟩:=HCl.out (by omega)
    subst hA
    have hcell:=hcell i r hr
    have iN:(i:Int)<(N:Int):=by omega
    obtain ⟨⟨v1,v2⟩,⟨l1,l2⟩,h1,h2⟩:=HF.out r (List.mem_of_getElem? hr)
    have HLa:=yH (fun w:World=>dleads_any (w:=w) r.lo i l1 l2)
    have HLb:=yH (fun w:World=>dleads_any (w:=w) r.hi i h1 h2)
    have hrow:G.rowB r i=(!(decide (r.v<0)) && !(decide (r.v≥64)) && G.leadsB r.lo i && G.leadsB r.hi i):=rfl
    have HOk:=yH (fun (hb:G.rowB r i=true) (j:Nat) (x:G.Rw3) (hj:j<i+1) (hx:rows[j]?=some x)=>show G.rowB x j=true by
     by_cases e:j=i
     · subst e;rw [hr] at hx;cases hx;exact hb
     · exact hok j x (by omega) hx)
    have HNo:=yH (fun (hb:G.rowB r i=false)=>G.rightB_row (roots:=roots) hr hb)
    clear hok hr h1 h2 l1 l2 HCl HF
    generalize G.rowB r i=rb at *
    generalize G.leadsB r.lo i=la at *
    generalize G.leadsB r.hi i=lb at *
    obtain ⟨v,lo,hi'⟩:=r
    simp only at *
    by_cases c1:v<0
    · have HNo2:=yH (HNo.out (by rw [hrow,decide_eq_true c1];rfl))
      clear HNo HOk hrow
      go_wp2_with (first|((with_reducible refine Qb ?_);(refine ldPN hS.ile rfl rfl Kt rfl hcell Qw ?_);(try simp only [Act.put,zE,zF,zG]))|((with_reducible refine Qc ?_);first|((with_reducible refine Ql 6 ?_);(refine' al (z:=_) hS rfl rfl ?ha ?_);(case ha=>exact Zz);clear hS;intro X6 w hS;(try simp only [Value.cells] at hS);(try simp only [Act.put,zE,zF,zG]))|((with_reducible refine Qp ?_);  ((with_reducible refine guarded_no ?hw ?_);(case hw=>(simp only [Region.wanted,yielded,zC,zA,zB,zK];  exact (rfl:(some true == some false)=false) ));(try simp only [Act.put,zE,zF,zG])) )|((with_reducible refine Qb ?_);( (refine ld1 0 hS rfl rfl ?ha rfl rfl rfl ?_;(case ha=>exact Qf)) );(try simp only [Act.put,zE,zF,zG]))|((with_reducible refine Qn ?_);(first|(refine stN 0 hS rfl rfl rfl rfl rfl ?ha rfl rfl ?_;(case ha=>exact Qw)));clear hS;intro w hS;(try simp only [zG,Act.eval,zD,zC,zA,zB,zJ,Value.cells] at hS);(try simp only [Act.put])) ))
      go_ret
      exact ⟨by rw [HNo2.out];rfl,hS.end_ (PH.le.refl _)⟩
    · by_cases c2:v≥64
      · have HNo2:=yH (HNo.out (by rw [hrow,decide_eq_true c2];simp))
        clear HNo HOk hrow
        go_wp2_with (first|((with_reducible refine Qb ?_);(refine ldPN hS.ile rfl rfl Kt rfl hcell Qw ?_);(try simp only [Act.put,zE,zF,zG]))|((with_reducible refine Qc ?_);first|((with_reducible refine Ql 6 ?_);(refine' al (z:=_) hS rfl rfl ?ha ?_);(case ha=>exact Zz);clear hS;intro X6 w hS;(try simp only [Value.cells] at hS);(try simp only [Act.put,zE,zF,zG]))|((with_reducible refine Qp ?_);first|((with_reducible refine guarded_no ?hw ?_);(case hw=>(simp only [Region.wanted,yielded,zC,zA,zB,zK];  exact (rfl:(some true == some false)=false) ));(try simp only [Act.put,zE,zF,zG]))|((with_reducible refine Qi ?hw ?_);case hw=>(simp only [Region.wanted,yielded,zC,zA,zB,zK,beq_self_eq_true];done)) )|((with_reducible refine Qb ?_);( (refine ld1 0 hS rfl rfl ?ha rfl rfl rfl ?_;(case ha=>exact Qf)) );(try simp only [Act.put,zE,zF,zG]))|((with_reducible refine Qn ?_);(first|(refine stN 0 hS rfl rfl rfl rfl rfl ?ha rfl rfl ?_;(case ha=>exact Qw)));clear hS;intro w hS;(try simp only [zG,Act.eval,zD,zC,zA,zB,zJ,Value.cells] at hS);(try simp only [Act.put])) ))
        go_ret
        exact ⟨by rw [HNo2.out];rfl,hS.end_ (PH.le.refl _)⟩
      · rw [decide_eq_false c1,decide_eq_false c2] at hrow
        cases la with
        | false =>
          have HNo2:=yH (HNo.out (by rw [hrow];rfl))
          clear HNo HOk hrow
          go_wp2_with (first|(go_at_call 75;  ((with_reducible refine yI (HLa.out _) ?_);rintro e w2 ⟨rfl,rfl⟩) )|((with_reducible refine Qb ?_);(refine ldPN hS.ile rfl rfl Kt rfl hcell Qw ?_);(try simp only [Act.put,zE,zF,zG]))|((with_reducible refine Qc ?_);first|((with_reducible refine Ql 6 ?_);(refine' al (z:=_) hS rfl rfl ?ha ?_);(case ha=>exact Zz);clear hS;intro X6 w hS;(try simp only [Value.cells] at hS);(try simp only [Act.put,zE,zF,zG]))|((with_reducible refine Qp ?_);first|((with_reducible refine guarded_no ?hw ?_);(case hw=>(simp only [Region.wanted,yielded,zC,zA,zB,zK];  exact (rfl:(some true == some false)=false) ));(try simp only [Act.put,zE,zF,zG]))|((with_reducible refine Qi ?hw ?_);case hw=>(simp only [Region.wanted,yielded,zC,zA,zB,zK,beq_self_eq_true];done)) )|((with_reducible refine Qb ?_);( (refine ld1 0 hS rfl rfl ?ha rfl rfl rfl ?_;(case ha=>exact Qf)) );(try simp only [Act.put,zE,zF,zG]))|((with_reducible refine Qn ?_);(first|(refine stN 0 hS rfl rfl rfl rfl rfl ?ha rfl rfl ?_;(case ha=>exact Qw)));clear hS;intro w hS;(try simp only [zG,Act.eval,zD,zC,zA,zB,zJ,Value.cells] at hS);(try simp only [Act.put])) ))
          go_ret
          exact ⟨by rw [HNo2.out];rfl,hS.end_ (PH.le.refl _)⟩
        | true =>
          cases lb with
          | false =>
            have HNo2:=yH (HNo.out (by rw [hrow];rfl))
            clear HNo HOk hrow
            go_wp2_with (first|(go_at_call 75;first|((with_reducible refine yI (HLa.out _) ?_);rintro e w2 ⟨rfl,rfl⟩)|((with_reducible refine yI (HLb.out _) ?_);rintro e w2 ⟨rfl,rfl⟩))|((with_reducible refine Qb ?_);(refine ldPN hS.ile rfl rfl Kt rfl hcell Qw ?_);(try simp only [Act.put,zE,zF,zG]))|((with_reducible refine Qc ?_);first|((with_reducible refine Ql 6 ?_);(refine' al (z:=_) hS rfl rfl ?ha ?_);(case ha=>exact Zz);clear hS;intro X6 w hS;(try simp only [Value.cells] at hS);(try simp only [Act.put,zE,zF,zG]))|((with_reducible refine Qp ?_);  ((with_reducible refine Qi ?hw ?_);case hw=>(simp only [Region.wanted,yielded,zC,zA,zB,zK,beq_self_eq_true];done)) )|((with_reducible refine Qb ?_);( (refine ld1 0 hS rfl rfl ?ha rfl rfl rfl ?_;(case ha=>exact Qf)) );(try simp only [Act.put,zE,zF,zG]))|((with_reducible refine Qn ?_);(first|(refine stN 0 hS rfl rfl rfl rfl rfl ?ha rfl rfl ?_;(case ha=>exact Qw)));clear hS;intro w hS;(try simp only [zG,Act.eval,zD,zC,zA,zB,zJ,Value.cells] at hS);(try simp only [Act.put])) ))
            go_ret
            exact ⟨by rw [HNo2.out];rfl,hS.end_ (PH.le.refl _)⟩
          | true =>
            have HOk2:=yH (HOk.out (by rw [hrow];rfl))
            clear HNo HOk hrow
            go_wp2_with (first|(go_at_call 75;first|((with_reducible refine yI (HLa.out _) ?_);rintro e w2 ⟨rfl,rfl⟩)|((with_reducible refine yI (HLb.out _) ?_);rintro e w2 ⟨rfl,rfl⟩))|((with_reducible refine Qb ?_);(refine ldPN hS.ile rfl rfl Kt rfl hcell Qw ?_);(try simp only [Act.put,zE,zF,zG]))|((with_reducible refine Qc ?_);first|((with_reducible refine Ql 6 ?_);(refine' al (z:=_) hS rfl rfl ?ha ?_);(case ha=>exact Zz);clear hS;intro X6 w hS;(try simp only [Value.cells] at hS);(try simp only [Act.put,zE,zF,zG]))|((with_reducible refine Qp ?_);  ((with_reducible refine Qi ?hw ?_);case hw=>(simp only [Region.wanted,yielded,zC,zA,zB,zK,beq_self_eq_true];done)) )|((with_reducible refine Qb ?_);( (refine ld1 0 hS rfl rfl ?ha rfl rfl rfl ?_;(case ha=>exact Qf)) );(try simp only [Act.put,zE,zF,zG]))|((with_reducible refine Qn ?_);(first|(refine stN 0 hS rfl rfl rfl rfl rfl ?ha rfl rfl ?_;(case ha=>exact Qw)));clear hS;intro w hS;(try simp only [zG,Act.eval,zD,zC,zA,zB,zJ,Value.cells] at hS);(try simp only [Act.put])) ))
            exact ⟨⟨i+1,by omega,by go_num,HOk2.out,hS.drop⟩,by simp [intOf];omega⟩
  · obtain rfl:i=N:=by omega
    have HRows:=yH (fun j r (h:rows[j]?=some r)=>hok j r (by have:=(yE.1 h).1;rw [HNn.out] at this;exact this) h)
    clear hok HCl HF
    go_wp2_with fail
    go_loopw [41] (fun v41 wr=>∃ j:Nat,j≤M∧v41=.int .i64 (j:Int)∧(∀ k e,k<j→roots[k]?=some e→G.leadsB e i=true)∧Sat W (Qa W) [] wr) (fun v41 _=>(M - intOf v41).toNat)
    case atStart=>exact ⟨0,Nat.zero_le _,rfl,fun j r h=>by omega,hS⟩
    case round =>
     clear hS
     obtain ⟨j,hj,rfl,hok,hS⟩:=hrel
     by_cases hlt2:j<M
     · obtain ⟨e,he⟩:∃ e,roots[j]?=some e:=⟨_,yA (by rw [HMm.out];exact hlt2)⟩
       obtain ⟨Z,oZ,hB,hcell⟩:=HCr.out (by omega)
       subst hB
       have hcell:=hcell j e he
       have jM:(j:Int)<(M:Int):=by omega
       obtain ⟨e1,e2⟩:=HG.out e (List.mem_of_getElem? he)
       have HLa:=yH (fun w:World=>dleads_any (w:=w) e i e1 e2)
       have HOk:=yH (fun (hb:G.leadsB e i=true) (k:Nat) (x:Int) (hk:k<j+1) (hx:roots[k]?=some x)=>show G.leadsB x i=true by
        by_cases h:k=j
        · subst h;rw [he] at hx;cases hx;exact hb
        · exact hok k x (by omega) hx)
       have HNo:=yH (fun (hb:G.leadsB e i=false)=>G.rightB_root (rows:=rows) he (by rw [HNn.out];exact hb))
       clear hok he HCr HG e1 e2
       generalize G.leadsB e i=la at *
       cases la with
       | false =>
         have HNo2:=yH (HNo.out rfl)
         clear HNo HOk
         go_wp2_with (first|(go_at_call 75;(with_reducible refine yI (HLa.out _) ?_);rintro e w2 ⟨rfl,rfl⟩)|((with_reducible refine Qc ?_);  ((with_reducible refine Qb ?_);( ((refine' Ka (v:=_) hS rfl rfl ?ha rfl ?hb ?_);(case ha=>exact Qf);(case hb=>assumption)));(try simp only [Act.put,zE,zF,zG]))))
         go_ret
         exact ⟨by rw [HNo2.out];rfl,hS.end_ (PH.le.refl _)⟩
       | true =>
         have HOk2:=yH (HOk.out rfl)
         clear HNo HOk
         go_wp2_with (first|(go_at_call 75;(with_reducible refine yI (HLa.out _) ?_);rintro e w2 ⟨rfl,rfl⟩)|((with_reducible refine Qc ?_);  ((with_reducible refine Qb ?_);( ((refine' Ka (v:=_) hS rfl rfl ?ha rfl ?hb ?_);(case ha=>exact Qf);(case hb=>assumption)));(try simp only [Act.put,zE,zF,zG]))))
         exact ⟨⟨j+1,by omega,by go_num,HOk2.out,hS⟩,by simp [intOf];omega⟩
     · obtain rfl:j=M:=by omega
       have HE:=yH (G.rightB_end HRows.out (fun k e h=>by rw [HNn.out];exact hok k e (by have:=(yE.1 h).1;rw [HMm.out] at this;exact this) h))
       rw [HNn.out] at HE
       clear hok HRows HCr HG
       go_wp2_with fail
       go_ret
       have hd:decide ((i:Int)≤4096)=decide (i≤4096):=decide_eq_decide.2 (by omega)
       exact ⟨by rw [HE.out,← hd];rfl,hS.end_ (PH.le.refl _)⟩
end
end Go.Proofs.YtidamcdklgfogaaGreat
