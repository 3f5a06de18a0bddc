import Derived.Test.YtidamcdklgfogaaGreatZab
import Derived.Test.YtidamcdklgfogaaGreatZbu
import Derived.Test.YtidamcdklgfogaaGreatZbk
set_option linter.unusedSimpArgs false
set_option linter.unusedVariables false
set_option maxRecDepth 100000
set_option maxHeartbeats 4000000
namespace Go.Proofs.YtidamcdklgfogaaGreat
namespace G
theorem rightB_rows {rows:List Rw3} {roots:List Int} (h:rightB rows roots=true):∀ (i:Nat) r,rows[i]?=some r→∃ v lo hi:Nat,r=⟨v,lo,hi⟩∧v<64∧lo / 2≤i∧hi / 2≤i:=fun i r hr=>by
 have hb:rowB r i=true:=by
  cases hb:rowB r i with
  | true=>rfl
  | false=>rw [rightB_row hr hb] at h;cases h
 unfold rowB leadsB at hb
 simp only [Bool.and_eq_true,Bool.not_eq_true',decide_eq_true_eq,decide_eq_false_iff_not] at hb
 obtain ⟨v,lo,hi⟩:=r
 simp only at hb
 obtain ⟨⟨⟨h1,h2⟩,h3,h4⟩,h5,h6⟩:=hb
 obtain ⟨v,rfl⟩:=Int.eq_ofNat_of_zero_le (by omega:0≤v)
 obtain ⟨lo,rfl⟩:=Int.eq_ofNat_of_zero_le h3
 obtain ⟨hi,rfl⟩:=Int.eq_ofNat_of_zero_le h5
 exact ⟨v,lo,hi,rfl,by omega,by omega,by omega⟩
def evalR (rows:List Rw3) (env:List Bool):Nat→Nat→Bool→Bool
 | 0,_,b=>b
 | k+1,e,b=>if e / 2=0 then b else match rows[e / 2 - 1]? with
   | none=>b
   | some r=>evalR rows env k (if env.getD r.v.toNat false then r.hi.toNat else r.lo.toNat) (b != ((if env.getD r.v.toNat false then r.hi.toNat else r.lo.toNat) % 2 == 1))
def evalB (rows:List Rw3) (env:List Bool) (e:Nat):Bool:=!(evalR rows env (e / 2+1) e (e % 2 == 1))
end G
section
open Go.RowKit
def BoolRo (J:PH) (v:Value) (l:List Bool):Prop:=∃ A c,v=.slice A l.length c∧(0<l.length→∃ X o,A=some ⟨X,o,none⟩∧∀ (i:Nat) x,l[i]?=some x→J.at X (o+i)=some (.bool x))
theorem BoolRo.le {I J:PH} {v:Value} {l:List Bool} (h:BoolRo I v l) (hJ:I.le J):BoolRo J v l:=by
 obtain ⟨A,c,rfl,h2⟩:=h
 refine ⟨A,c,rfl,fun hn=>?_⟩
 obtain ⟨X,o,e,h3⟩:=h2 hn
 exact ⟨X,o,e,fun i x hx=>PH.at_le hJ (h3 i x hx)⟩
theorem deval_any {W:World} {vl ve:Value} {rows:List G.Rw3} {env:List Bool} {e:Int} (hl:Row3o (Qa W) vl rows) (he:BoolRo (Qa W) ve env) (hn:rows.length<1152921504606846976) (hm:env.length<1152921504606846976) (hf:∀ r ∈ rows,RowFit r) (h1 : -9223372036854775808≤e) (h2:e<9223372036854775808) :
  Calls Tryz.prog 11 #[vl,.int .i64 e,ve] W fun e' w'=>e'=.returned (if G.rightB rows [e] then .tuple #[.bool (G.evalB rows env e.toNat),.int .i64 0] else .tuple #[.bool false,.int .i64 3])∧Below W.heap.size W w':=by
 have HRt:=yH (fun (w:World) (X:Nat) (h:(Qa W).le (Qa w)) (hx:(Qa w).at X 0=some (.int .i64 e))=>dright_any (W:=w) (vl:=vl) (vr:=.slice (some ⟨X,0,none⟩) 1 1) (rows:=rows) (roots:=[e]) (hl.le h) (IntR.ro (l:=[e]) ⟨⟨_,_,rfl⟩,fun _=>⟨X,1,rfl,fun i x hi=>by
  cases i with
  | zero=>simp only [zB,Option.some.injEq] at hi;subst hi;exact hx
  | succ i=>simp at hi⟩⟩) hn (by simp) hf (fun x hx=>by simp only [List.mem_cons,List.not_mem_nil,or_false] at hx;subst hx;exact ⟨h1,h2⟩))
 obtain ⟨A,c,rfl,hcl⟩:=hl
 obtain ⟨B,d,rfl,hce⟩:=he
 have HCl:=yH hcl
 have HCe:=yH hce
 have hS:=Sat.start W
 clear hcl hce hf
 cases hr:G.rightB rows [e] with
 | false =>
   rw [hr] at HRt
   rw [if_neg (by simp)]
   go_enter Tryz.func11,Tryz.ntmps11
   go_wp2_with (first|(go_at_call 30;(with_reducible refine yI (HRt.out _ _ hS.ile (PH.at_le (hS.mle (k:=0) rfl) (Qk rfl))) ?_);rintro e w2 ⟨rfl,hb⟩;replace hS:=hS.below_ hb;clear hb)|((with_reducible refine Qc ?_);  ((with_reducible refine Xa 12 ?_);(refine' bsl hS ?hr ?_);(case hr=>(intro w0;go_simp;try rfl));clear hS;intro X12 w hS;(try simp only [Act.eval,zD,zC,zA,zB,zJ,Value.cells] at hS);(try simp only [Act.put,zE,zF,zG])) ))
   go_ret2
   exact ⟨rfl,hS.end_ (PH.le.refl _)⟩
 | true =>
   rw [hr] at HRt
   rw [if_pos rfl]
   have hrows:=G.rightB_rows hr
   obtain ⟨hroots,h40⟩:=G.rightB_roots hr
   obtain ⟨e0,e1⟩:=hroots e (.head _)
   obtain ⟨e,rfl⟩:=Int.eq_ofNat_of_zero_le e0
   rw [Int.toNat_natCast]
   unfold G.evalB
   have HRw:=yH hrows
   obtain ⟨R,hR⟩:∃ R,G.evalR rows env (e / 2+1) e (e % 2 == 1)=R:=⟨_,rfl⟩
   rw [hR]
   have HR:=yH hR
   have p1:(((e:Int) % 2) == 1)=(e % 2 == 1):=by rw [Bool.eq_iff_iff];simp only [beq_iff_eq];omega
   have P1:=yH p1
   clear hrows hroots hr e0 hR p1
   generalize hN:rows.length=N at *
   generalize hM:env.length=M at *
   have HNn:=yH hN
   have HMm:=yH hM
   clear hN hM
   go_enter Tryz.func11,Tryz.ntmps11
   go_wp2_with (first|(go_at_call 30;(with_reducible refine yI (HRt.out _ _ hS.ile (PH.at_le (hS.mle (k:=0) rfl) (Qk rfl))) ?_);rintro e w2 ⟨rfl,hb⟩;replace hS:=hS.below_ hb;clear hb)|((with_reducible refine Qc ?_);  ((with_reducible refine Xa 12 ?_);(refine' bsl hS ?hr ?_);(case hr=>(intro w0;go_simp;try rfl));clear hS;intro X12 w hS;(try simp only [Act.eval,zD,zC,zA,zB,zJ,Value.cells] at hS);(try simp only [Act.put,zE,zF,zG])) ))
   go_loopw [1,8] (fun v1 v8 wr=>∃ (k e:Nat) (b:Bool),v1=nv e∧v8=.bool b∧e / 2≤N∧e / 2<k∧G.evalR rows env k e b=R∧Sat W (Qa W) [] wr) (fun v1 _ _=>(intOf v1).toNat / 2)
   case atStart=>exact ⟨e / 2+1,e,e % 2 == 1,rfl,by rw [← P1.out],by omega,by omega,HR.out,hS.drop⟩
   case round =>
    clear hS HR P1 HRt
    obtain ⟨k,e,b,rfl,rfl,he,hk,hev,hS⟩:=hrel
    cases k with
    | zero=>omega
    | succ k =>
      unfold G.evalR at hev
      by_cases h0:e / 2=0
      · rw [if_pos h0] at hev
        have d1:decide ((e:Int) > 1)=false:=decide_eq_false (by omega)
        have d2:¬ (e:Int) > 1:=by omega
        clear h0
        go_wp2_with fail
        go_ret2
        exact ⟨rfl,hS.end_ (PH.le.refl _)⟩
      · rw [if_neg h0] at hev
        obtain ⟨q,hq⟩:∃ q,e / 2=q+1:=⟨e / 2 - 1,by omega⟩
        rw [hq,Nat.add_sub_cancel] at hev
        obtain ⟨r,hr⟩:∃ r,rows[q]?=some r:=⟨_,yA (by rw [HNn.out];omega)⟩
        obtain ⟨Y,oY,hA,hcell⟩:=HCl.out (by omega)
        subst hA
        have hcell:=hcell q r hr
        obtain ⟨v,lo,hi,rfl,hv,hlo,hhi⟩:=HRw.out q r hr
        rw [hr] at hev
        simp only [Int.toNat_natCast] at hev
        have qN:(q:Int)<(N:Int):=by omega
        have c1:(e:Int) > 1:=by omega
        have c2:(e:Int) / 2 - 1=(q:Int):=by omega
        have c4:e / 2 - 1=q:=by omega
        have pl:(((lo:Int) % 2) == 1)=(lo % 2 == 1):=by rw [Bool.eq_iff_iff];simp only [beq_iff_eq];omega
        have ph:(((hi:Int) % 2) == 1)=(hi % 2 == 1):=by rw [Bool.eq_iff_iff];simp only [beq_iff_eq];omega
        have Pl:=yH pl
        have Ph:=yH ph
        clear pl ph h0 hr HCl HRw
        by_cases hve:v<M
        · obtain ⟨bb,hbb⟩:∃ bb,env[v]?=some bb:=⟨_,yA (by rw [HMm.out];exact hve)⟩
          have hgd:env.getD v false=bb:=by rw [yD,hbb];rfl
          rw [hgd] at hev
          obtain ⟨Z,oZ,hB,hcb⟩:=HCe.out (by omega)
          subst hB
          have hcb:=hcb v bb hbb
          have d1:(v:Int)<(M:Int):=by omega
          clear hgd hbb HCe
          cases bb with
          | true =>
            simp only [if_true] at hev
            go_wp2_with (first|((with_reducible refine Qb ?_);(refine ldPN hS.ile rfl rfl Kt rfl hcell Qw ?_);(try simp only [Act.put,zE,zF,zG]))|((with_reducible refine Qc ?_);first|((with_reducible refine Ql 9 ?_);(refine' al (z:=_) hS rfl rfl ?ha ?_);(case ha=>exact Zz);clear hS;intro X9 w hS;(try simp only [Value.cells] at hS);(try simp only [Act.put,zE,zF,zG]))|((with_reducible refine Qp ?_);  ((with_reducible refine Qi ?hw ?_);case hw=>(simp only [Region.wanted,yielded,zC,zA,zB,zK,beq_self_eq_true];done)) )|((with_reducible refine Qb ?_);(first|(refine ld1 0 hS rfl rfl ?ha rfl rfl rfl ?_;(case ha =>  exact Qf ))|((refine' Ka (v:=_) hS rfl rfl ?ha rfl ?hb ?_);(case ha =>  exact Yb);(case hb=>assumption)) );(try simp only [Act.put,zE,zF,zG]))|((with_reducible refine Qn ?_);(first|(refine stN 0 hS rfl rfl rfl rfl rfl ?ha rfl rfl ?_;(case ha=>exact Qw)));clear hS;intro w hS;(try simp only [zG,Act.eval,zD,zC,zA,zB,zJ,Value.cells] at hS);(try simp only [Act.put])) ))
            exact ⟨⟨k,hi,(b != (hi % 2 == 1)),rfl,by rw [← Ph.out];rfl,by omega,by omega,hev,hS.drop⟩,by simp [intOf];omega⟩
          | false =>
            simp only [Bool.false_eq_true,if_false] at hev
            go_wp2_with (first|((with_reducible refine Qb ?_);(refine ldPN hS.ile rfl rfl Kt rfl hcell Qw ?_);(try simp only [Act.put,zE,zF,zG]))|((with_reducible refine Qc ?_);first|((with_reducible refine Ql 9 ?_);(refine' al (z:=_) hS rfl rfl ?ha ?_);(case ha=>exact Zz);clear hS;intro X9 w hS;(try simp only [Value.cells] at hS);(try simp only [Act.put,zE,zF,zG]))|((with_reducible refine Qp ?_);  ((with_reducible refine Qi ?hw ?_);case hw=>(simp only [Region.wanted,yielded,zC,zA,zB,zK,beq_self_eq_true];done)) )|((with_reducible refine Qb ?_);(first|(refine ld1 0 hS rfl rfl ?ha rfl rfl rfl ?_;(case ha =>  exact Qf ))|((refine' Ka (v:=_) hS rfl rfl ?ha rfl ?hb ?_);(case ha =>  exact Yb);(case hb=>assumption)) );(try simp only [Act.put,zE,zF,zG]))|((with_reducible refine Qn ?_);(first|(refine stN 0 hS rfl rfl rfl rfl rfl ?ha rfl rfl ?_;(case ha=>exact Qw)));clear hS;intro w hS;(try simp only [zG,Act.eval,zD,zC,zA,zB,zJ,Value.cells] at hS);(try simp only [Act.put])) ))
            exact ⟨⟨k,lo,(b != (lo % 2 == 1)),rfl,by rw [← Pl.out];rfl,by omega,by omega,hev,hS.drop⟩,by simp [intOf];omega⟩
        · have hgd:env.getD v false=false:=by rw [yD,List.getElem?_eq_none (by rw [HMm.out];omega)];rfl
          rw [hgd] at hev
          simp only [Bool.false_eq_true,if_false] at hev
          have d1:¬ (v:Int)<(M:Int):=by omega
          clear hgd HCe
          go_wp2_with (first|((with_reducible refine Qb ?_);(refine ldPN hS.ile rfl rfl Kt rfl hcell Qw ?_);(try simp only [Act.put,zE,zF,zG]))|((with_reducible refine Qc ?_);first|((with_reducible refine Ql 9 ?_);(refine' al (z:=_) hS rfl rfl ?ha ?_);(case ha=>exact Zz);clear hS;intro X9 w hS;(try simp only [Value.cells] at hS);(try simp only [Act.put,zE,zF,zG]))|((with_reducible refine Qb ?_);( (refine ld1 0 hS rfl rfl ?ha rfl rfl rfl ?_;(case ha =>  exact Qf )) );(try simp only [Act.put,zE,zF,zG]))|((with_reducible refine Qn ?_);(first|(refine stN 0 hS rfl rfl rfl rfl rfl ?ha rfl rfl ?_;(case ha=>exact Qw)));clear hS;intro w hS;(try simp only [zG,Act.eval,zD,zC,zA,zB,zJ,Value.cells] at hS);(try simp only [Act.put])) ))
          exact ⟨⟨k,lo,(b != (lo % 2 == 1)),rfl,by rw [← Pl.out];rfl,by omega,by omega,hev,hS.drop⟩,by simp [intOf];omega⟩
end
section
open Go.RowKit
theorem reval_any {W:World} {vl ve:Value} {rows:List G.Rw3} {env:List Bool} {e:Int} (hl:Row3o (Qa W) vl rows) (he:BoolRo (Qa W) ve env) (hn:rows.length<1152921504606846976) (hm:env.length<1152921504606846976) (hr:G.rightB rows [e]=true) (h2:e<9223372036854775808) :
  Calls Tryz.prog 12 #[vl,.int .i64 e,ve] W fun e' w'=>e'=.returned (.bool (G.evalB rows env e.toNat))∧Below W.heap.size W w':=by
 obtain ⟨A,c,rfl,hcl⟩:=hl
 obtain ⟨B,d,rfl,hce⟩:=he
 have HCl:=yH hcl
 have HCe:=yH hce
 have hS:=Sat.start W
 clear hcl hce
 have hrows:=G.rightB_rows hr
 obtain ⟨hroots,h40⟩:=G.rightB_roots hr
 obtain ⟨e0,e1⟩:=hroots e (.head _)
 obtain ⟨e,rfl⟩:=Int.eq_ofNat_of_zero_le e0
 rw [Int.toNat_natCast]
 unfold G.evalB
 have HRw:=yH hrows
 obtain ⟨R,hR⟩:∃ R,G.evalR rows env (e / 2+1) e (e % 2 == 1)=R:=⟨_,rfl⟩
 rw [hR]
 have HR:=yH hR
 have p1:(((e:Int) % 2) == 0)=!(e % 2 == 1):=by rw [Bool.eq_iff_iff];simp only [beq_iff_eq,Bool.not_eq_true',beq_eq_false_iff_ne,ne_eq];omega
 have P1:=yH p1
 clear hrows hroots hr e0 hR p1
 generalize hN:rows.length=N at *
 generalize hM:env.length=M at *
 have HNn:=yH hN
 have HMm:=yH hM
 clear hN hM
 go_enter Tryz.func12,Tryz.ntmps12
 go_wp2_with fail
 go_loopw [1,7] (fun v1 v7 wr=>∃ (k e:Nat) (b:Bool),v1=nv e∧v7=.bool (!b)∧e / 2≤N∧e / 2<k∧G.evalR rows env k e b=R∧Sat W (Qa W) [] wr) (fun v1 _ _=>(intOf v1).toNat / 2)
 case atStart=>exact ⟨e / 2+1,e,e % 2 == 1,rfl,by rw [← P1.out],by omega,by omega,HR.out,hS⟩
 case round =>
  clear hS HR P1
  obtain ⟨k,e,b,rfl,rfl,he,hk,hev,hS⟩:=hrel
  cases k with
  | zero=>omega
  | succ k =>
    unfold G.evalR at hev
    by_cases h0:e / 2=0
    · rw [if_pos h0] at hev
      subst hev
      have d2:¬ (e:Int) / 2 > 0:=by omega
      clear h0
      go_wp2_with fail
      go_ret
      exact ⟨rfl,hS.end_ (PH.le.refl _)⟩
    · rw [if_neg h0] at hev
      obtain ⟨q,hq⟩:∃ q,e / 2=q+1:=⟨e / 2 - 1,by omega⟩
      rw [hq,Nat.add_sub_cancel] at hev
      obtain ⟨r,hr⟩:∃ r,rows[q]?=some r:=⟨_,yA (by rw [HNn.out];omega)⟩
      obtain ⟨Y,oY,hA,hcell⟩:=HCl.out (by omega)
      subst hA
      have hcell:=hcell q r hr
      obtain ⟨v,lo,hi,rfl,hv,hlo,hhi⟩:=HRw.out q r hr
      rw [hr] at hev
      simp only [Int.toNat_natCast] at hev
      have qN:(q:Int)<(N:Int):=by omega
      have c1:(e:Int) / 2 > 0:=by omega
      have c2:(e:Int) / 2 - 1=(q:Int):=by omega
      have c4:e / 2 - 1=q:=by omega
      clear h0 hr HCl HRw
      by_cases hve:v<M
      · obtain ⟨bb,hbb⟩:∃ bb,env[v]?=some bb:=⟨_,yA (by rw [HMm.out];exact hve)⟩
        have hgd:env.getD v false=bb:=by rw [yD,hbb];rfl
        rw [hgd] at hev
        obtain ⟨Z,oZ,hB,hcb⟩:=HCe.out (by omega)
        subst hB
        have hcb:=hcb v bb hbb
        have d1:(v:Int)<(M:Int):=by omega
        clear hgd hbb HCe
        cases bb with
        | true =>
          simp only [if_true] at hev
          rcases Nat.mod_two_eq_zero_or_one hi with hp|hp
          · have p1:(((hi:Int) % 2) == 1)=false:=by rw [beq_eq_false_iff_ne];omega
            rw [hp] at hev
            go_wp2_with (first|((with_reducible refine Qb ?_);(refine ldPN hS.ile rfl rfl Kt rfl hcell Qw ?_);(try simp only [Act.put,zE,zF,zG]))|((with_reducible refine Qc ?_);first|((with_reducible refine Ql 8 ?_);(refine' al (z:=_) hS rfl rfl ?ha ?_);(case ha=>exact Zz);clear hS;intro X8 w hS;(try simp only [Value.cells] at hS);(try simp only [Act.put,zE,zF,zG]))|((with_reducible refine Qp ?_);  ((with_reducible refine Qi ?hw ?_);case hw=>(simp only [Region.wanted,yielded,zC,zA,zB,zK,beq_self_eq_true];done)) )|((with_reducible refine Qb ?_);(first|(refine ld1 0 hS rfl rfl ?ha rfl rfl rfl ?_;(case ha =>  exact Qf ))|((refine' Ka (v:=_) hS rfl rfl ?ha rfl ?hb ?_);(case ha =>  exact Yb);(case hb=>assumption)) );(try simp only [Act.put,zE,zF,zG]))|((with_reducible refine Qn ?_);(first|(refine stN 0 hS rfl rfl rfl rfl rfl ?ha rfl rfl ?_;(case ha=>exact Qw)));clear hS;intro w hS;(try simp only [zG,Act.eval,zD,zC,zA,zB,zJ,Value.cells] at hS);(try simp only [Act.put])) ))
            exact ⟨⟨k,hi,(b != (0 == 1)),rfl,by cases b <;> rfl,by omega,by omega,hev,hS.drop⟩,by simp [intOf];omega⟩
          · have p1:(((hi:Int) % 2) == 1)=true:=by rw [beq_iff_eq];omega
            rw [hp] at hev
            go_wp2_with (first|((with_reducible refine Qb ?_);(refine ldPN hS.ile rfl rfl Kt rfl hcell Qw ?_);(try simp only [Act.put,zE,zF,zG]))|((with_reducible refine Qc ?_);first|((with_reducible refine Ql 8 ?_);(refine' al (z:=_) hS rfl rfl ?ha ?_);(case ha=>exact Zz);clear hS;intro X8 w hS;(try simp only [Value.cells] at hS);(try simp only [Act.put,zE,zF,zG]))|((with_reducible refine Qp ?_);  ((with_reducible refine Qi ?hw ?_);case hw=>(simp only [Region.wanted,yielded,zC,zA,zB,zK,beq_self_eq_true];done)) )|((with_reducible refine Qb ?_);(first|(refine ld1 0 hS rfl rfl ?ha rfl rfl rfl ?_;(case ha =>  exact Qf ))|((refine' Ka (v:=_) hS rfl rfl ?ha rfl ?hb ?_);(case ha =>  exact Yb);(case hb=>assumption)) );(try simp only [Act.put,zE,zF,zG]))|((with_reducible refine Qn ?_);(first|(refine stN 0 hS rfl rfl rfl rfl rfl ?ha rfl rfl ?_;(case ha=>exact Qw)));clear hS;intro w hS;(try simp only [zG,Act.eval,zD,zC,zA,zB,zJ,Value.cells] at hS);(try simp only [Act.put])) ))
            exact ⟨⟨k,hi,(b != (1 == 1)),rfl,by cases b <;> rfl,by omega,by omega,hev,hS.drop⟩,by simp [intOf];omega⟩
        | false =>
          simp only [Bool.false_eq_true,if_false] at hev
          rcases Nat.mod_two_eq_zero_or_one lo with hp|hp
          · have p1:(((lo:Int) % 2) == 1)=false:=by rw [beq_eq_false_iff_ne];omega
            rw [hp] at hev
            go_wp2_with (first|((with_reducible refine Qb ?_);(refine ldPN hS.ile rfl rfl Kt rfl hcell Qw ?_);(try simp only [Act.put,zE,zF,zG]))|((with_reducible refine Qc ?_);first|((with_reducible refine Ql 8 ?_);(refine' al (z:=_) hS rfl rfl ?ha ?_);(case ha=>exact Zz);clear hS;intro X8 w hS;(try simp only [Value.cells] at hS);(try simp only [Act.put,zE,zF,zG]))|((with_reducible refine Qp ?_);  ((with_reducible refine Qi ?hw ?_);case hw=>(simp only [Region.wanted,yielded,zC,zA,zB,zK,beq_self_eq_true];done)) )|((with_reducible refine Qb ?_);(first|(refine ld1 0 hS rfl rfl ?ha rfl rfl rfl ?_;(case ha =>  exact Qf ))|((refine' Ka (v:=_) hS rfl rfl ?ha rfl ?hb ?_);(case ha =>  exact Yb);(case hb=>assumption)) );(try simp only [Act.put,zE,zF,zG]))|((with_reducible refine Qn ?_);(first|(refine stN 0 hS rfl rfl rfl rfl rfl ?ha rfl rfl ?_;(case ha=>exact Qw)));clear hS;intro w hS;(try simp only [zG,Act.eval,zD,zC,zA,zB,zJ,Value.cells] at hS);(try simp only [Act.put])) ))
            exact ⟨⟨k,lo,(b != (0 == 1)),rfl,by cases b <;> rfl,by omega,by omega,hev,hS.drop⟩,by simp [intOf];omega⟩
          · have p1:(((lo:Int) % 2) == 1)=true:=by rw [beq_iff_eq];omega
            rw [hp] at hev
            go_wp2_with (first|((with_reducible refine Qb ?_);(refine ldPN hS.ile rfl rfl Kt rfl hcell Qw ?_);(try simp only [Act.put,zE,zF,zG]))|((with_reducible refine Qc ?_);first|((with_reducible refine Ql 8 ?_);(refine' al (z:=_) hS rfl rfl ?ha ?_);(case ha=>exact Zz);clear hS;intro X8 w hS;(try simp only [Value.cells] at hS);(try simp only [Act.put,zE,zF,zG]))|((with_reducible refine Qp ?_);  ((with_reducible refine Qi ?hw ?_);case hw=>(simp only [Region.wanted,yielded,zC,zA,zB,zK,beq_self_eq_true];done)) )|((with_reducible refine Qb ?_);(first|(refine ld1 0 hS rfl rfl ?ha rfl rfl rfl ?_;(case ha =>  exact Qf ))|((refine' Ka (v:=_) hS rfl rfl ?ha rfl ?hb ?_);(case ha =>  exact Yb);(case hb=>assumption)) );(try simp only [Act.put,zE,zF,zG]))|((with_reducible refine Qn ?_);(first|(refine stN 0 hS rfl rfl rfl rfl rfl ?ha rfl rfl ?_;(case ha=>exact Qw)));clear hS;intro w hS;(try simp only [zG,Act.eval,zD,zC,zA,zB,zJ,Value.cells] at hS);(try simp only [Act.put])) ))
            exact ⟨⟨k,lo,(b != (1 == 1)),rfl,by cases b <;> rfl,by omega,by omega,hev,hS.drop⟩,by simp [intOf];omega⟩
      · have hgd:env.getD v false=false:=by rw [yD,List.getElem?_eq_none (by rw [HMm.out];omega)];rfl
        rw [hgd] at hev
        simp only [Bool.false_eq_true,if_false] at hev
        have d1:¬ (v:Int)<(M:Int):=by omega
        clear hgd HCe
        rcases Nat.mod_two_eq_zero_or_one lo with hp|hp
        · have p1:(((lo:Int) % 2) == 1)=false:=by rw [beq_eq_false_iff_ne];omega
          rw [hp] at hev
          go_wp2_with (first|((with_reducible refine Qb ?_);(refine ldPN hS.ile rfl rfl Kt rfl hcell Qw ?_);(try simp only [Act.put,zE,zF,zG]))|((with_reducible refine Qc ?_);first|((with_reducible refine Ql 8 ?_);(refine' al (z:=_) hS rfl rfl ?ha ?_);(case ha=>exact Zz);clear hS;intro X8 w hS;(try simp only [Value.cells] at hS);(try simp only [Act.put,zE,zF,zG]))|((with_reducible refine Qb ?_);( (refine ld1 0 hS rfl rfl ?ha rfl rfl rfl ?_;(case ha =>  exact Qf )) );(try simp only [Act.put,zE,zF,zG]))|((with_reducible refine Qn ?_);(first|(refine stN 0 hS rfl rfl rfl rfl rfl ?ha rfl rfl ?_;(case ha=>exact Qw)));clear hS;intro w hS;(try simp only [zG,Act.eval,zD,zC,zA,zB,zJ,Value.cells] at hS);(try simp only [Act.put])) ))
          exact ⟨⟨k,lo,(b != (0 == 1)),rfl,by cases b <;> rfl,by omega,by omega,hev,hS.drop⟩,by simp [intOf];omega⟩
        · have p1:(((lo:Int) % 2) == 1)=true:=by rw [beq_iff_eq];omega
          rw [hp] at hev
          go_wp2_with (first|((with_reducible refine Qb ?_);(refine ldPN hS.ile rfl rfl Kt rfl hcell Qw ?_);(try simp only [Act.put,zE,zF,zG]))|((with_reducible refine Qc ?_);first|((with_reducible refine Ql 8 ?_);(refine' al (z:=_) hS rfl rfl ?ha ?_);(case ha=>exact Zz);clear hS;intro X8 w hS;(try simp only [Value.cells] at hS);(try simp only [Act.put,zE,zF,zG]))|((with_reducible refine Qb ?_);( (refine ld1 0 hS rfl rfl ?ha rfl rfl rfl ?_;(case ha =>  exact Qf )) );(try simp only [Act.put,zE,zF,zG]))|((with_reducible refine Qn ?_);(first|(refine stN 0 hS rfl rfl rfl rfl rfl ?ha rfl rfl ?_;(case ha=>exact Qw)));clear hS;intro w hS;(try simp only [zG,Act.eval,zD,zC,zA,zB,zJ,Value.cells] at hS);(try simp only [Act.put])) ))
          exact ⟨⟨k,lo,(b != (1 == 1)),rfl,by cases b <;> rfl,by omega,by omega,hev,hS.drop⟩,by simp [intOf];omega⟩
theorem rmay_any {W:World} {vl vr:Value} {rows:List G.Rw3} {roots:List Int} (hl:Row3o (Qa W) vl rows) (hr:IntRo (Qa W) vr roots) (hn:rows.length<1152921504606846976) (hm:roots.length<1152921504606846976) (hf:∀ r ∈ rows,RowFit r) (hg:∀ e ∈ roots,-9223372036854775808≤e∧e<9223372036854775808) :
  Calls Tryz.prog 9 #[vl,vr] W fun e w'=>e=.returned (.bool (G.rightB rows roots))∧Below W.heap.size W w':=by
 obtain ⟨A,c,rfl,hcl⟩:=hl
 obtain ⟨B,d,rfl,hcr⟩:=hr
 have HCl:=yH hcl
 have HCr:=yH hcr
 have HF:=yH hf
 have HG:=yH hg
 have hS:=Sat.start W
 clear hcl hcr hf hg
 have h40:rows.length > 4096→G.rightB rows roots=false:=fun h=>by unfold G.rightB;rw [decide_eq_false (by omega)];simp
 have H40:=yH h40
 clear h40
 generalize hN:rows.length=N at *
 generalize hM:roots.length=M at *
 have HNn:=yH hN
 have HMm:=yH hM
 clear hN hM
 by_cases hbig:N > 4096
 · have HNo:=yH (H40.out hbig)
   have d1:(N:Int) > 4096:=by omega
   go_enter Tryz.func9,Tryz.ntmps9
   go_wp2_with fail
   go_ret
   exact ⟨by rw [HNo.out];rfl,hS.end_ (PH.le.refl _)⟩
 have d1:¬ (N:Int) > 4096:=by omega
 clear H40
 go_enter Tryz.func9,Tryz.ntmps9
 go_wp2_with fail
 go_loopw [5] (fun v5 wr=>∃ i:Nat,i≤N∧v5=.int .i64 (i:Int)∧(∀ j r,j<i→rows[j]?=some r→G.rowB r j=true)∧Sat W (Qa W) [] wr) (fun v5 _=>(N - intOf v5).toNat)
 case atStart=>exact ⟨0,Nat.zero_le _,rfl,fun j r h=>by omega,hS⟩
 case round =>
  clear hS
  obtain ⟨i,hi,rfl,hok,hS⟩:=hrel
  by_cases hlt:i<N
  · obtain ⟨r,hr⟩:∃ r,rows[i]?=some r:=⟨_,yA (by rw [HNn.out];exact hlt)⟩
    obtain ⟨Y,oY,hA,hcell⟩:=HCl.out (by omega)
    subst hA
    have hcell:=hcell i r hr
    have iN:(i:Int)<(N:Int):=by omega
    obtain ⟨⟨v1,v2⟩,⟨l1,l2⟩,h1,h2⟩:=HF.out r (List.mem_of_getElem? hr)
    have hrow:G.rowB r i=(!(decide (r.v<0)) && !(decide (r.v≥64)) && (decide (0≤r.lo) && decide (r.lo / 2≤(i:Int))) && (decide (0≤r.hi) && decide (r.hi / 2≤(i:Int)))):=rfl
    have HOk:=yH (fun (hb:G.rowB r i=true) (j:Nat) (x:G.Rw3) (hj:j<i+1) (hx:rows[j]?=some x)=>show G.rowB x j=true by
     by_cases e:j=i
     · subst e;rw [hr] at hx;cases hx;exact hb
     · exact hok j x (by omega) hx)
    have HNo:=yH (fun (hb:G.rowB r i=false)=>G.rightB_row (roots:=roots) hr hb)
    clear hok hr HCl HF
    generalize G.rowB r i=rb at *
    obtain ⟨v,lo,hi'⟩:=r
    simp only at *
    have hcs:v<0∨(¬ v<0∧v≥64)∨(¬ v<0∧¬ v≥64∧lo<0)∨(¬ v<0∧¬ v≥64∧¬ lo<0∧hi'<0)∨(¬ v<0∧¬ v≥64∧¬ lo<0∧¬ hi'<0∧lo / 2 > (i:Int))∨(¬ v<0∧¬ v≥64∧¬ lo<0∧¬ hi'<0∧¬ lo / 2 > (i:Int)∧hi' / 2 > (i:Int))∨(¬ v<0∧¬ v≥64∧¬ lo<0∧¬ hi'<0∧¬ lo / 2 > (i:Int)∧¬ hi' / 2 > (i:Int)):=by omega
    have hbad:(v<0∨v≥64∨lo<0∨hi'<0∨lo / 2 > (i:Int)∨hi' / 2 > (i:Int))→rb=false:=fun h=>by
     rw [hrow]
     cases hx:(!(decide (v<0)) && !(decide (v≥64)) && (decide (0≤lo) && decide (lo / 2≤(i:Int))) && (decide (0≤hi') && decide (hi' / 2≤(i:Int)))) with
     | false=>rfl
     | true =>
       simp only [Bool.and_eq_true,Bool.not_eq_true',decide_eq_true_eq,decide_eq_false_iff_not] at hx
       omega
    have hgood:(¬ v<0∧¬ v≥64∧¬ lo<0∧¬ hi'<0∧¬ lo / 2 > (i:Int)∧¬ hi' / 2 > (i:Int))→rb=true:=fun h=>by
     rw [hrow]
     simp only [Bool.and_eq_true,Bool.not_eq_true',decide_eq_true_eq,decide_eq_false_iff_not]
     omega
    have HB:=yH hbad
    have HGd:=yH hgood
    clear hrow hbad hgood
    rcases hcs with c1|⟨c1,c2⟩|⟨c1,c2,c3⟩|⟨c1,c2,c3,c4⟩|⟨c1,c2,c3,c4,c5⟩|⟨c1,c2,c3,c4,c5,c6⟩|⟨c1,c2,c3,c4,c5,c6⟩
    all_goals try have t1:lo.tdiv 2=lo / 2:=Int.tdiv_eq_ediv_of_nonneg (by omega)
    all_goals try have t2:hi'.tdiv 2=hi' / 2:=Int.tdiv_eq_ediv_of_nonneg (by omega)
    all_goals try have t3:wrap64 (lo / 2)=lo / 2:=IntWalk.wrap64_in _ (by omega)
    all_goals try have t4:wrap64 (hi' / 2)=hi' / 2:=IntWalk.wrap64_in _ (by omega)
    case inr.inr.inr.inr.inr.inr =>
     have HOk2:=yH (HOk.out (HGd.out ⟨c1,c2,c3,c4,c5,c6⟩))
     clear HNo HOk HB HGd
     go_wp2_with (first|((with_reducible refine Qb ?_);(refine ldPN hS.ile rfl rfl Kt rfl hcell Qw ?_);(try simp only [Act.put,zE,zF,zG]))|((with_reducible refine Qc ?_);first|((with_reducible refine Ql 6 ?_);(refine' al (z:=_) hS rfl rfl ?ha ?_);(case ha=>exact Zz);clear hS;intro X6 w hS;(try simp only [Value.cells] at hS);(try simp only [Act.put,zE,zF,zG]))|((with_reducible refine Qp ?_);  ((with_reducible refine Qi ?hw ?_);case hw=>(simp only [Region.wanted,yielded,zC,zA,zB,zK,beq_self_eq_true];done)) )|((with_reducible refine Qb ?_);( (refine ld1 0 hS rfl rfl ?ha rfl rfl rfl ?_;(case ha=>exact Qf)) );(try simp only [Act.put,zE,zF,zG]))|((with_reducible refine Qn ?_);(first|(refine stN 0 hS rfl rfl rfl rfl rfl ?ha rfl rfl ?_;(case ha=>exact Qw)));clear hS;intro w hS;(try simp only [zG,Act.eval,zD,zC,zA,zB,zJ,Value.cells] at hS);(try simp only [Act.put])) ))
     exact ⟨⟨i+1,by omega,by go_num,HOk2.out,hS.drop⟩,by simp [intOf];omega⟩
    all_goals
     have HNo2:=yH (HNo.out (HB.out (by omega)))
     clear HNo HOk HB HGd
     go_wp2_with (first|((with_reducible refine Qb ?_);(refine ldPN hS.ile rfl rfl Kt rfl hcell Qw ?_);(try simp only [Act.put,zE,zF,zG]))|((with_reducible refine Qc ?_);first|((with_reducible refine Ql 6 ?_);(refine' al (z:=_) hS rfl rfl ?ha ?_);(case ha=>exact Zz);clear hS;intro X6 w hS;(try simp only [Value.cells] at hS);(try simp only [Act.put,zE,zF,zG]))|((with_reducible refine Qp ?_);first|((with_reducible refine guarded_no ?hw ?_);(case hw=>(simp only [Region.wanted,yielded,zC,zA,zB,zK];  exact (rfl:(some true == some false)=false) ));(try simp only [Act.put,zE,zF,zG]))|((with_reducible refine Qi ?hw ?_);case hw=>(simp only [Region.wanted,yielded,zC,zA,zB,zK,beq_self_eq_true];done)) )|((with_reducible refine Qb ?_);( (refine ld1 0 hS rfl rfl ?ha rfl rfl rfl ?_;(case ha=>exact Qf)) );(try simp only [Act.put,zE,zF,zG]))|((with_reducible refine Qn ?_);(first|(refine stN 0 hS rfl rfl rfl rfl rfl ?ha rfl rfl ?_;(case ha=>exact Qw)));clear hS;intro w hS;(try simp only [zG,Act.eval,zD,zC,zA,zB,zJ,Value.cells] at hS);(try simp only [Act.put])) ))
     go_ret
     exact ⟨by rw [HNo2.out];rfl,hS.end_ (PH.le.refl _)⟩
  · obtain rfl:i=N:=by omega
    have HRows:=yH (fun j r (h:rows[j]?=some r)=>hok j r (by have:=(yE.1 h).1;rw [HNn.out] at this;exact this) h)
    clear hok HCl HF
    go_wp2_with fail
    go_loopw [7] (fun v7 wr=>∃ j:Nat,j≤M∧v7=.int .i64 (j:Int)∧(∀ k e,k<j→roots[k]?=some e→G.leadsB e i=true)∧Sat W (Qa W) [] wr) (fun v7 _=>(M - intOf v7).toNat)
    case atStart=>exact ⟨0,Nat.zero_le _,rfl,fun j r h=>by omega,hS⟩
    case round =>
     clear hS
     obtain ⟨j,hj,rfl,hok,hS⟩:=hrel
     by_cases hlt2:j<M
     · obtain ⟨e,he⟩:∃ e,roots[j]?=some e:=⟨_,yA (by rw [HMm.out];exact hlt2)⟩
       obtain ⟨Z,off,hB,hcell⟩:=HCr.out (by omega)
       subst hB
       have hcell:=hcell j e he
       have jM:(j:Int)<(M:Int):=by omega
       obtain ⟨e1,e2⟩:=HG.out e (List.mem_of_getElem? he)
       have HOk:=yH (fun (hb:G.leadsB e i=true) (k:Nat) (x:Int) (hk:k<j+1) (hx:roots[k]?=some x)=>show G.leadsB x i=true by
        by_cases h:k=j
        · subst h;rw [he] at hx;cases hx;exact hb
        · exact hok k x (by omega) hx)
       have HNo:=yH (fun (hb:G.leadsB e i=false)=>G.rightB_root (rows:=rows) he (by rw [HNn.out];exact hb))
       have HLd:=yH (show G.leadsB e i=(decide (0≤e) && decide (e / 2≤(i:Int))) from rfl)
       clear hok he HCr HG
       by_cases c1:e<0
       · have HNo2:=yH (HNo.out (by rw [HLd.out,decide_eq_false (by omega)];rfl))
         clear HNo HOk
         go_wp2_with (first|((with_reducible refine Qc ?_);  ((with_reducible refine Qb ?_);( ((refine' Ka (v:=_) hS rfl rfl ?ha rfl ?hb ?_);(case ha=>exact Qf);(case hb=>assumption)));(try simp only [Act.put,zE,zF,zG]))))
         go_ret
         exact ⟨by rw [HNo2.out];rfl,hS.end_ (PH.le.refl _)⟩
       · have t1:e.tdiv 2=e / 2:=Int.tdiv_eq_ediv_of_nonneg (by omega)
         have t3:wrap64 (e / 2)=e / 2:=IntWalk.wrap64_in _ (by omega)
         by_cases c2:e / 2 > (i:Int)
         · have HNo2:=yH (HNo.out (by rw [HLd.out,decide_eq_false (by omega:¬ e / 2≤(i:Int))];simp))
           clear HNo HOk
           go_wp2_with (first|((with_reducible refine Qc ?_);first|((with_reducible refine Qp ?_);  ((with_reducible refine Qi ?hw ?_);case hw=>(simp only [Region.wanted,yielded,zC,zA,zB,zK,beq_self_eq_true];done)) )|((with_reducible refine Qb ?_);( ((refine' Ka (v:=_) hS rfl rfl ?ha rfl ?hb ?_);(case ha=>exact Qf);(case hb=>assumption)));(try simp only [Act.put,zE,zF,zG]))))
           go_ret
           exact ⟨by rw [HNo2.out];rfl,hS.end_ (PH.le.refl _)⟩
         · have HOk2:=yH (HOk.out (by rw [HLd.out,decide_eq_true (by omega:0≤e),decide_eq_true (by omega:e / 2≤(i:Int))];rfl))
           clear HNo HOk
           go_wp2_with (first|((with_reducible refine Qc ?_);first|((with_reducible refine Qp ?_);  ((with_reducible refine Qi ?hw ?_);case hw=>(simp only [Region.wanted,yielded,zC,zA,zB,zK,beq_self_eq_true];done)) )|((with_reducible refine Qb ?_);( ((refine' Ka (v:=_) hS rfl rfl ?ha rfl ?hb ?_);(case ha=>exact Qf);(case hb=>assumption)));(try simp only [Act.put,zE,zF,zG]))))
           exact ⟨⟨j+1,by omega,by go_num,HOk2.out,hS⟩,by simp [intOf];omega⟩
     · obtain rfl:j=M:=by omega
       have HE:=yH (G.rightB_end HRows.out (fun k e h=>by rw [HNn.out];exact hok k e (by have:=(yE.1 h).1;rw [HMm.out] at this;exact this) h))
       rw [HNn.out,decide_eq_true (by omega:i≤4096)] at HE
       clear hok HRows HCr HG
       go_wp2_with fail
       go_ret
       exact ⟨by rw [HE.out];rfl,hS.end_ (PH.le.refl _)⟩
end
end Go.Proofs.YtidamcdklgfogaaGreat
