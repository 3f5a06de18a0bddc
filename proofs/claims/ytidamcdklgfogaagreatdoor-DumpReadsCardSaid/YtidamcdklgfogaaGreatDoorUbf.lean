import Derived.Test.YtidamcdklgfogaaGreatDoorUbe
set_option linter.unusedVariables false
set_option linter.unusedSimpArgs false
set_option maxRecDepth 100000
set_option maxHeartbeats 4000000
namespace Go.Proofs.YtidamcdklgfogaaGreatDoor
namespace G
theorem rightB_rows {rows:List Rw3} {roots:List Int} (h:rightB rows roots=true):∀ (i:Nat) r,rows[i]?=some r->∃ v lo hi:Nat,r=⟨v,lo,hi⟩/\v<64/\lo / 2<=i/\hi / 2<=i:=fun i r hr=>by
 have hb:rowB r i=true:=by
  cases hb:rowB r i with
  | true=>rfl
  | false=>rw [rightB_row hr hb] at h;cases h
 unfold rowB leadsB at hb;simp only [jEa,jWa,jJ,jI] at hb;obtain ⟨v,lo,hi⟩:=r;simp only at hb;obtain ⟨⟨⟨h1,h2⟩,h3,h4⟩,h5,h6⟩:=hb;obtain ⟨v,rfl⟩:=jXa (by omega:0<=v);obtain ⟨lo,rfl⟩:=jXa h3;obtain ⟨hi,rfl⟩:=jXa h5;exact ⟨v,lo,hi,rfl,by omega,by omega,by omega⟩
def evalR (rows:List Rw3) (env:List Bool):Nat->Nat->Bool->Bool
 | 0,_,b=>b
 | k+1,e,b=>if e / 2=0 then b else match rows[e / 2 - 1]? with
   | none=>b
   | some r=>evalR rows env k (if env.getD r.v.toNat false then r.hi.toNat else r.lo.toNat) (b != ((if env.getD r.v.toNat false then r.hi.toNat else r.lo.toNat) % 2 == 1))
def evalB (rows:List Rw3) (env:List Bool) (e:Nat):Bool:=!(evalR rows env (e / 2+1) e (e % 2 == 1))
end G
section
open Go.RowKit
def BoolRo (J:PH) (v:Value) (l:List Bool):Prop:=∃ A c,v=.slice A l.length c/\(0<l.length->∃ X o,A=some ⟨X,o,none⟩/\∀ (i:Nat) x,l[i]?=some x->J.at X (o+i)=some (.bool x))
theorem BoolRo.le {I J:PH} {v:Value} {l:List Bool} (h:BoolRo I v l) (hJ:I.le J):BoolRo J v l:=by
 obtain ⟨A,c,rfl,h2⟩:=h;refine ⟨A,c,rfl,fun hn=>?_⟩;obtain ⟨X,o,e,h3⟩:=h2 hn;exact ⟨X,o,e,fun i x hx=>PH.at_le hJ (h3 i x hx)⟩
theorem deval_any {W:World} {vl ve:Value} {rows:List G.Rw3} {env:List Bool} {e:Int} (hl:Row3o (Qa W) vl rows) (he:BoolRo (Qa W) ve env) (hn:rows.length<1152921504606846976) (hm:env.length<1152921504606846976) (hf:∀ r ∈ rows,RowFit r) (h1 : -9223372036854775808<=e) (h2:e<9223372036854775808) :
  Calls Tryz.prog 20 #[vl,.int .i64 e,ve] W fun e' w'=>e'=.returned (if G.rightB rows [e] then .tuple #[.bool (G.evalB rows env e.toNat),.int .i64 0] else .tuple #[.bool false,.int .i64 3])/\Below W.heap.size W w':=by
 have HRt:=yH (fun (w:World) (X:Nat) (h:(Qa W).le (Qa w)) (hx:(Qa w).at X 0=some (.int .i64 e))=>dright_any (W:=w) (vl:=vl) (vr:=.slice (some ⟨X,0,none⟩) 1 1) (rows:=rows) (roots:=[e]) (hl.le h) (IntR.ro (l:=[e]) ⟨⟨_,_,rfl⟩,fun _=>⟨X,1,rfl,fun i x hi=>by
  cases i with
  | zero=>simp only [zB,jEb] at hi;subst hi;exact hx
  | succ i=>simp at hi⟩⟩) hn (by simp) hf (fun x hx=>by simp only [jBa,jCb,jKb] at hx;subst hx;exact ⟨h1,h2⟩))
 obtain ⟨A,c,rfl,hcl⟩:=hl;obtain ⟨B,d,rfl,hce⟩:=he;have HCl:=yH hcl;have HCe:=yH hce;have hS:=Sat.start W;clear hcl hce hf;cases hr:G.rightB rows [e] with
 | false =>
   rw [hr] at HRt;rw [jAb (by simp)];go_enter Tryz.func20,Tryz.ntmps20;go_wp2_with (first|(go_at_call 23;(with_reducible refine bB hS (HRt.out _ _ hS.ile (PH.at_le (hS.mle (k:=0) rfl) (Qc rfl))) ?_);clear hS;intro w2 hS)|(refine aN 12 ?_;clear hS;intro X12 w hS))
   go_ret2;exact ⟨rfl,hS.end_ (PH.le.refl _)⟩
 | true =>
   rw [hr] at HRt;rw [jAa rfl];have hrows:=G.rightB_rows hr;obtain ⟨hroots,h40⟩:=G.rightB_roots hr;obtain ⟨e0,e1⟩:=hroots e (.head _);obtain ⟨e,rfl⟩:=jXa e0;rw [Int.toNat_natCast];unfold G.evalB;have HRw:=yH hrows;obtain ⟨R,hR⟩:∃ R,G.evalR rows env (e / 2+1) e (e % 2 == 1)=R:=⟨_,rfl⟩;rw [hR];have HR:=yH hR;have p1:(((e:Int) % 2) == 1)=(e % 2 == 1):=by rw [kNb];simp only [jVa];omega
   have P1:=yH p1;clear hrows hroots hr e0 hR p1;generalize hN:rows.length=N at *
   generalize hM:env.length=M at *
   have HNn:=yH hN;have HMm:=yH hM;clear hN hM;go_enter Tryz.func20,Tryz.ntmps20;go_wp2_with (first|(go_at_call 23;(with_reducible refine bB hS (HRt.out _ _ hS.ile (PH.at_le (hS.mle (k:=0) rfl) (Qc rfl))) ?_);clear hS;intro w2 hS)|(refine aN 12 ?_;clear hS;intro X12 w hS))
   go_loopw [1,8] (fun v1 v8 wr=>∃ (k e:Nat) (b:Bool),v1=nv e/\v8=.bool b/\e / 2<=N/\e / 2<k/\G.evalR rows env k e b=R/\Sat W (Qa W) [] wr) (fun v1 _ _=>(intOf v1).toNat / 2)
   case atStart=>exact ⟨e / 2+1,e,e % 2 == 1,rfl,by rw [<- P1.out],by omega,by omega,HR.out,hS.drop⟩
   case round =>
    clear hS HR P1 HRt;obtain ⟨k,e,b,rfl,rfl,he,hk,hev,hS⟩:=hrel;cases k with
    | zero=>omega
    | succ k =>
      unfold G.evalR at hev;by_cases h0:e / 2=0
      . rw [jAa h0] at hev
        have d1:decide ((e:Int) > 1)=false:=jJb (by omega);have d2:¬ (e:Int) > 1:=by omega
        clear h0;go_wp2_with fail
        go_ret2;exact ⟨rfl,hS.end_ (PH.le.refl _)⟩
      . rw [jAb h0] at hev
        obtain ⟨q,hq⟩:∃ q,e / 2=q+1:=⟨e / 2 - 1,by omega⟩;rw [hq,Nat.add_sub_cancel] at hev;obtain ⟨r,hr⟩:∃ r,rows[q]?=some r:=⟨_,yA (by rw [HNn.out];omega)⟩;obtain ⟨Y,oY,hA,hcell⟩:=HCl.out (by omega);subst hA;have hcell:=hcell q r hr;obtain ⟨v,lo,hi,rfl,hv,hlo,hhi⟩:=HRw.out q r hr;rw [hr] at hev;simp only [Int.toNat_natCast] at hev;have qN:(q:Int)<(N:Int):=by omega
        have c1:(e:Int) > 1:=by omega
        have c2:(e:Int) / 2 - 1=(q:Int):=by omega
        have c4:e / 2 - 1=q:=by omega
        have pl:(((lo:Int) % 2) == 1)=(lo % 2 == 1):=by rw [kNb];simp only [jVa];omega
        have ph:(((hi:Int) % 2) == 1)=(hi % 2 == 1):=by rw [kNb];simp only [jVa];omega
        have Pl:=yH pl;have Ph:=yH ph;clear pl ph h0 hr HCl HRw;by_cases hve:v<M
        . obtain ⟨bb,hbb⟩:∃ bb,env[v]?=some bb:=⟨_,yA (by rw [HMm.out];exact hve)⟩
          have hgd:env.getD v false=bb:=by rw [yD,hbb];rfl
          rw [hgd] at hev;obtain ⟨Z,oZ,hB,hcb⟩:=HCe.out (by omega);subst hB;have hcb:=hcb v bb hbb;have d1:(v:Int)<(M:Int):=by omega
          clear hgd hbb HCe;cases bb with
          | true =>
            simp only [jC] at hev;go_wp2_with (first|((with_reducible refine Qp ?_);(refine ldPN hS.ile rfl rfl Zc rfl hcell Xa ?_);(try simp only [Act.put,zE,zF,zG]))|(refine aN 9 ?_;clear hS;intro X9 w hS)|(refine aG ?_)|(refine aL ?_)|(refine aS ?_;clear hS;intro w hS))
            exact ⟨⟨k,hi,(b != (hi % 2 == 1)),rfl,by rw [<- Ph.out];rfl,by omega,by omega,hev,hS.drop⟩,by simp [intOf];omega⟩
          | false =>
            simp only [jE,jS] at hev;go_wp2_with (first|((with_reducible refine Qp ?_);(refine ldPN hS.ile rfl rfl Zc rfl hcell Xa ?_);(try simp only [Act.put,zE,zF,zG]))|(refine aN 9 ?_;clear hS;intro X9 w hS)|(refine aG ?_)|(refine aL ?_)|(refine aS ?_;clear hS;intro w hS))
            exact ⟨⟨k,lo,(b != (lo % 2 == 1)),rfl,by rw [<- Pl.out];rfl,by omega,by omega,hev,hS.drop⟩,by simp [intOf];omega⟩
        . have hgd:env.getD v false=false:=by rw [yD,jKa (by rw [HMm.out];omega)];rfl
          rw [hgd] at hev;simp only [jE,jS] at hev;have d1:¬ (v:Int)<(M:Int):=by omega
          clear hgd HCe;go_wp2_with (first|((with_reducible refine Qp ?_);(refine ldPN hS.ile rfl rfl Zc rfl hcell Xa ?_);(try simp only [Act.put,zE,zF,zG]))|(refine aN 9 ?_;clear hS;intro X9 w hS)|(refine aL ?_)|(refine aS ?_;clear hS;intro w hS))
          exact ⟨⟨k,lo,(b != (lo % 2 == 1)),rfl,by rw [<- Pl.out];rfl,by omega,by omega,hev,hS.drop⟩,by simp [intOf];omega⟩
end
section
open Go.RowKit
theorem rmay_any {W:World} {vl vr:Value} {rows:List G.Rw3} {roots:List Int} (hl:Row3o (Qa W) vl rows) (hr:IntRo (Qa W) vr roots) (hn:rows.length<1152921504606846976) (hm:roots.length<1152921504606846976) (hf:∀ r ∈ rows,RowFit r) (hg:∀ e ∈ roots,-9223372036854775808<=e/\e<9223372036854775808) :
  Calls Tryz.prog 26 #[vl,vr] W fun e w'=>e=.returned (.bool (G.rightB rows roots))/\Below W.heap.size W w':=by
 obtain ⟨A,c,rfl,hcl⟩:=hl;obtain ⟨B,d,rfl,hcr⟩:=hr;have HCl:=yH hcl;have HCr:=yH hcr;have HF:=yH hf;have HG:=yH hg;have hS:=Sat.start W;clear hcl hcr hf hg;have h40:rows.length > 4096->G.rightB rows roots=false:=fun h=>by unfold G.rightB;rw [jJb (by omega)];simp
 have H40:=yH h40;clear h40;generalize hN:rows.length=N at *
 generalize hM:roots.length=M at *
 have HNn:=yH hN;have HMm:=yH hM;clear hN hM;by_cases hbig:N > 4096
 . have HNo:=yH (H40.out hbig)
   have d1:(N:Int) > 4096:=by omega
   go_enter Tryz.func26,Tryz.ntmps26;go_wp2_with fail
   go_ret;exact ⟨by rw [HNo.out];rfl,hS.end_ (PH.le.refl _)⟩
 have d1:¬ (N:Int) > 4096:=by omega
 clear H40;go_enter Tryz.func26,Tryz.ntmps26;go_wp2_with fail
 go_loopw [5] (fun v5 wr=>∃ i:Nat,i<=N/\v5=.int .i64 (i:Int)/\(∀ j r,j<i->rows[j]?=some r->G.rowB r j=true)/\Sat W (Qa W) [] wr) (fun v5 _=>(N - intOf v5).toNat)
 case atStart=>exact ⟨0,jCa _,rfl,fun j r h=>by omega,hS⟩
 case round =>
  clear hS;obtain ⟨i,hi,rfl,hok,hS⟩:=hrel;by_cases hlt:i<N
  . obtain ⟨r,hr⟩:∃ r,rows[i]?=some r:=⟨_,yA (by rw [HNn.out];exact hlt)⟩
    obtain ⟨Y,oY,hA,hcell⟩:=HCl.out (by omega);subst hA;have hcell:=hcell i r hr;have iN:(i:Int)<(N:Int):=by omega
    obtain ⟨⟨v1,v2⟩,⟨l1,l2⟩,h1,h2⟩:=HF.out r (jDb hr);have hrow:G.rowB r i=(!(decide (r.v<0)) && !(decide (r.v≥64)) && (decide (0<=r.lo) && decide (r.lo / 2<=(i:Int))) && (decide (0<=r.hi) && decide (r.hi / 2<=(i:Int)))):=rfl;have HOk:=yH (fun (hb:G.rowB r i=true) (j:Nat) (x:G.Rw3) (hj:j<i+1) (hx:rows[j]?=some x)=>show G.rowB x j=true by
     by_cases e:j=i
     . subst e;rw [hr] at hx;cases hx;exact hb
     . exact hok j x (by omega) hx)
    have HNo:=yH (fun (hb:G.rowB r i=false)=>G.rightB_row (roots:=roots) hr hb);clear hok hr HCl HF;generalize G.rowB r i=rb at *
    obtain ⟨v,lo,hi'⟩:=r;simp only at *
    have hcs:v<0\/(¬ v<0/\v≥64)\/(¬ v<0/\¬ v≥64/\lo<0)\/(¬ v<0/\¬ v≥64/\¬ lo<0/\hi'<0)\/(¬ v<0/\¬ v≥64/\¬ lo<0/\¬ hi'<0/\lo / 2 > (i:Int))\/(¬ v<0/\¬ v≥64/\¬ lo<0/\¬ hi'<0/\¬ lo / 2 > (i:Int)/\hi' / 2 > (i:Int))\/(¬ v<0/\¬ v≥64/\¬ lo<0/\¬ hi'<0/\¬ lo / 2 > (i:Int)/\¬ hi' / 2 > (i:Int)):=by omega
    have hbad:(v<0\/v≥64\/lo<0\/hi'<0\/lo / 2 > (i:Int)\/hi' / 2 > (i:Int))->rb=false:=fun h=>by
     rw [hrow];cases hx:(!(decide (v<0)) && !(decide (v≥64)) && (decide (0<=lo) && decide (lo / 2<=(i:Int))) && (decide (0<=hi') && decide (hi' / 2<=(i:Int)))) with
     | false=>rfl
     | true =>
       simp only [jEa,jWa,jJ,jI] at hx;omega
    have hgood:(¬ v<0/\¬ v≥64/\¬ lo<0/\¬ hi'<0/\¬ lo / 2 > (i:Int)/\¬ hi' / 2 > (i:Int))->rb=true:=fun h=>by
     rw [hrow];simp only [jEa,jWa,jJ,jI];omega
    have HB:=yH hbad;have HGd:=yH hgood;clear hrow hbad hgood;rcases hcs with c1|⟨c1,c2⟩|⟨c1,c2,c3⟩|⟨c1,c2,c3,c4⟩|⟨c1,c2,c3,c4,c5⟩|⟨c1,c2,c3,c4,c5,c6⟩|⟨c1,c2,c3,c4,c5,c6⟩
    all_goals try have t1:lo.tdiv 2=lo / 2:=kOb (by omega)
    all_goals try have t2:hi'.tdiv 2=hi' / 2:=kOb (by omega)
    all_goals try have t3:wrap64 (lo / 2)=lo / 2:=IntWalk.wrap64_in _ (by omega)
    all_goals try have t4:wrap64 (hi' / 2)=hi' / 2:=IntWalk.wrap64_in _ (by omega)
    case inr.inr.inr.inr.inr.inr =>
     have HOk2:=yH (HOk.out (HGd.out ⟨c1,c2,c3,c4,c5,c6⟩));clear HNo HOk HB HGd;go_wp2_with (first|((with_reducible refine Qp ?_);(refine ldPN hS.ile rfl rfl Zc rfl hcell Xa ?_);(try simp only [Act.put,zE,zF,zG]))|(refine aN 6 ?_;clear hS;intro X6 w hS)|(refine aG ?_)|(refine aL ?_)|(refine aS ?_;clear hS;intro w hS))
     exact ⟨⟨i+1,by omega,by go_num,HOk2.out,hS.drop⟩,by simp [intOf];omega⟩
    all_goals
     have HNo2:=yH (HNo.out (HB.out (by omega)));clear HNo HOk HB HGd;go_wp2_with (first|((with_reducible refine Qp ?_);(refine ldPN hS.ile rfl rfl Zc rfl hcell Xa ?_);(try simp only [Act.put,zE,zF,zG]))|(refine aN 6 ?_;clear hS;intro X6 w hS)|(refine aG ?_)|(refine aL ?_)|(refine aS ?_;clear hS;intro w hS))
     go_ret;exact ⟨by rw [HNo2.out];rfl,hS.end_ (PH.le.refl _)⟩
  . obtain rfl:i=N:=by omega
    have HRows:=yH (fun j r (h:rows[j]?=some r)=>hok j r (by have:=(yE.1 h).1;rw [HNn.out] at this;exact this) h);clear hok HCl HF;go_wp2_with fail
    go_loopw [7] (fun v7 wr=>∃ j:Nat,j<=M/\v7=.int .i64 (j:Int)/\(∀ k e,k<j->roots[k]?=some e->G.leadsB e i=true)/\Sat W (Qa W) [] wr) (fun v7 _=>(M - intOf v7).toNat)
    case atStart=>exact ⟨0,jCa _,rfl,fun j r h=>by omega,hS⟩
    case round =>
     clear hS;obtain ⟨j,hj,rfl,hok,hS⟩:=hrel;by_cases hlt2:j<M
     . obtain ⟨e,he⟩:∃ e,roots[j]?=some e:=⟨_,yA (by rw [HMm.out];exact hlt2)⟩
       obtain ⟨Z,off,hB,hcell⟩:=HCr.out (by omega);subst hB;have hcell:=hcell j e he;have jM:(j:Int)<(M:Int):=by omega
       obtain ⟨e1,e2⟩:=HG.out e (jDb he);have HOk:=yH (fun (hb:G.leadsB e i=true) (k:Nat) (x:Int) (hk:k<j+1) (hx:roots[k]?=some x)=>show G.leadsB x i=true by
        by_cases h:k=j
        . subst h;rw [he] at hx;cases hx;exact hb
        . exact hok k x (by omega) hx)
       have HNo:=yH (fun (hb:G.leadsB e i=false)=>G.rightB_root (rows:=rows) he (by rw [HNn.out];exact hb));have HLd:=yH (show G.leadsB e i=(decide (0<=e) && decide (e / 2<=(i:Int))) from rfl);clear hok he HCr HG;by_cases c1:e<0
       . have HNo2:=yH (HNo.out (by rw [HLd.out,jJb (by omega)];rfl))
         clear HNo HOk;go_wp2_with (first|(refine aL ?_))
         go_ret;exact ⟨by rw [HNo2.out];rfl,hS.end_ (PH.le.refl _)⟩
       . have t1:e.tdiv 2=e / 2:=kOb (by omega)
         have t3:wrap64 (e / 2)=e / 2:=IntWalk.wrap64_in _ (by omega);by_cases c2:e / 2 > (i:Int)
         . have HNo2:=yH (HNo.out (by rw [HLd.out,jJb (by omega:¬ e / 2<=(i:Int))];simp))
           clear HNo HOk;go_wp2_with (first|(refine aG ?_)|(refine aL ?_))
           go_ret;exact ⟨by rw [HNo2.out];rfl,hS.end_ (PH.le.refl _)⟩
         . have HOk2:=yH (HOk.out (by rw [HLd.out,jOa (by omega:0<=e),jOa (by omega:e / 2<=(i:Int))];rfl))
           clear HNo HOk;go_wp2_with (first|(refine aG ?_)|(refine aL ?_))
           exact ⟨⟨j+1,by omega,by go_num,HOk2.out,hS⟩,by simp [intOf];omega⟩
     . obtain rfl:j=M:=by omega
       have HE:=yH (G.rightB_end HRows.out (fun k e h=>by rw [HNn.out];exact hok k e (by have:=(yE.1 h).1;rw [HMm.out] at this;exact this) h));rw [HNn.out,jOa (by omega:i<=4096)] at HE;clear hok HRows HCr HG;go_wp2_with fail
       go_ret;exact ⟨by rw [HE.out];rfl,hS.end_ (PH.le.refl _)⟩
end
section
open Go.RowKit
theorem lst_append (a b:ByteArray):lst (a ++ b)=lst a ++ lst b:=by
 unfold lst;rw [ByteArray.data_append,Array.toList_append,jH]
def rowT (r:G.Rw3):List Nat:=txt r.v ++ [32] ++ txt r.lo ++ [32] ++ txt r.hi ++ [10]
def Yj (e:Int):List Nat:=32::txt e
def textD (rows:List G.Rw3) (roots:List Int):List Nat:=rows.flatMap rowT ++ [114,111,111,116,115] ++ roots.flatMap Yj ++ [10]
theorem txt_len (n:Int) (h:I64 n):(txt n).length<=20:=by
 rw [<- Xo,Qi];exact Ye n h
theorem RowFit.i64 {r:G.Rw3} (h:RowFit r):I64 r.v/\I64 r.lo/\I64 r.hi:=by
 obtain ⟨⟨a,b⟩,⟨c,d⟩,e,f⟩:=h;exact ⟨⟨a,by omega⟩,⟨c,by omega⟩,⟨e,by omega⟩⟩
theorem flatN_len {α:Type} (f:α->List Nat) (c:Nat):∀ (l:List α),(∀ x ∈ l,(f x).length<=c)->(l.flatMap f).length<=l.length * c
 | [],_=>by simp
 | x::l,h=>by
   have h1:=flatN_len f c l fun y hy=>h y (.tail _ hy)
   have h2:=h x (.head _);rw [jO,yG,yB,kIb];omega
theorem rowT_len {r:G.Rw3} (h:RowFit r):(rowT r).length<=63:=by
 obtain ⟨a,b,c⟩:=h.i64;have h1:=txt_len _ a;have h2:=txt_len _ b;have h3:=txt_len _ c;unfold rowT;simp only [yG,yB,yC];omega
def TextR (rows:List G.Rw3) (roots:List Int):List Nat:=if G.rightB rows roots then textD rows roots else []
theorem textD_lt (rows:List G.Rw3) (roots:List Int):∀ c ∈ textD rows roots,c<256:=fun c hc=>by
 unfold textD rowT Yj at hc;simp only [jIa,kXa,jBa,jCb,jKb] at hc;rcases hc with ((⟨r,_,((((h|h)|h)|h)|h)|h⟩|h)|⟨e,_,h|h⟩)|h
 all_goals first|exact txt_lt _ c h|omega
theorem dtext_any {W:World} {vl vr:Value} {rows:List G.Rw3} {roots:List Int} (hl:Row3o (Qa W) vl rows) (hr:IntRo (Qa W) vr roots) (hn:rows.length<1152921504606846976) (hm:roots.length<=1000) (hf:∀ r ∈ rows,RowFit r) (hg:∀ e ∈ roots,-9223372036854775808<=e/\e<9223372036854775808) :
  Calls Tryz.prog 8 #[vl,vr] W fun e w'=>(∃ str er,e=.returned (.tuple #[.string str,nv er])/\lst str=TextR rows roots/\er=(if G.rightB rows roots then 0 else 3))/\Below W.heap.size W w':=by
 have HRt:=yH (fun (w:World) (h:(Qa W).le (Qa w))=>dright_any (hl.le h) (hr.le h) hn (by omega) hf hg);obtain ⟨A,c,rfl,hcl⟩:=hl;obtain ⟨B,d,rfl,hcr⟩:=hr;have HCl:=yH hcl;have HCr:=yH hcr;have HF:=yH hf;have HG:=yH hg;have hS:=Sat.start W;clear hcl hcr hf hg;cases hr:G.rightB rows roots with
 | false =>
   rw [hr] at HRt;have HT:=yH (show TextR rows roots=[] by unfold TextR;rw [hr];rfl);simp only [jE,jS];go_enter Tryz.func8,Tryz.ntmps8;go_wp2_with ( (go_at_call 23;(with_reducible refine bB hS (HRt.out _ hS.ile) ?_);clear hS;intro w2 hS) )
   go_ret2;refine ⟨⟨⟨#[]⟩,3,?_,HT.out.symm,rfl⟩,hS.end_ (PH.le.refl _)⟩;rfl
 | true =>
   rw [hr] at HRt;have HT:=yH (show TextR rows roots=textD rows roots by unfold TextR;rw [hr];rfl);simp only [jC];obtain ⟨_,h40⟩:=G.rightB_roots hr;clear hr;generalize hN:rows.length=N at *
   generalize hM:roots.length=M at *
   have HNn:=yH hN;have HMm:=yH hM;have hL1:∀ i,i<=N->((rows.take i).flatMap rowT).length<=258048:=fun i hi=>by
    have:=flatN_len rowT 63 (rows.take i) fun x hx=>rowT_len (HF.out x (kX hx))
    rw [jUa,kA (by omega)] at this;omega
   have HL1:=yH hL1;have hL2:∀ j,j<=M->((roots.take j).flatMap Yj).length<=21000:=fun j hj=>by
    have:=flatN_len Yj 21 (roots.take j) fun x hx=>by
     have h:=HG.out x (kX hx)
     have:=txt_len x ⟨h.1,by omega⟩;unfold Yj;rw [yB];omega
    rw [jUa,kA (by omega)] at this;omega
   have HL2:=yH hL2;clear hN hM hL1 hL2;go_enter Tryz.func8,Tryz.ntmps8;go_wp2_with (first|(go_at_call 23;(with_reducible refine bB hS (HRt.out _ hS.ile) ?_);clear hS;intro w2 hS)|(refine aN 6 ?_;clear hS;intro X6 w hS))
   go_loopw [17] (fun v17 wr=>∃ (i:Nat) (mb mr:PH),i<=N/\v17=.int .i64 (i:Int)/\Bld X6 ((rows.take i).flatMap rowT) mb mr/\Sat W (Qa W) (mb::mr::[]) wr) (fun v17 _=>(N - intOf v17).toNat)
   case atStart=>exact ⟨0,_,Zo,jCa _,rfl,⟨none,_,rfl,.inl rfl,OwnP.nil _ _⟩,hS.empty.perm (List.Perm.swap _ _ _)⟩
   case round =>
    clear hS HRt;obtain ⟨i,mb,mr,hi,rfl,hB,hS⟩:=hrel;by_cases hlt:i<N
    . obtain ⟨r,hr⟩:∃ r,rows[i]?=some r:=⟨_,yA (by rw [HNn.out];exact hlt)⟩
      obtain ⟨Y,oY,hA,hcell⟩:=HCl.out (by omega);subst hA;have hcell:=hcell i r hr;have iN:(i:Int)<(N:Int):=by omega
      obtain ⟨f1,f2,f3⟩:=(HF.out r (jDb hr)).i64;have htk:(rows.take (i+1)).flatMap rowT=(rows.take i).flatMap rowT ++ rowT r:=by rw [jP,hr,jLb];simp
      have hlen:=HL1.out i hi;have hlen2:=HL1.out (i+1) (by omega);rw [htk,yG] at hlen2;clear hr HCl;obtain ⟨rv,lo,hi'⟩:=r;simp only at f1 f2 f3;have T1:=yH (fun w:World=>text_any rv w f1);have T2:=yH (fun w:World=>text_any lo w f2);have T3:=yH (fun w:World=>text_any hi' w f3);have z1:=Ye rv f1;have z2:=Ye lo f2;have z3:=Ye hi' f3;have y1:=Xo rv;have y2:=Xo lo;have y3:=Xo hi';generalize textS rv=s1 at *
      generalize textS lo=s2 at *
      generalize textS hi'=s3 at *
      obtain ⟨a1,ha1⟩:∃ a:ByteArray,s1 ++ (⟨#[32]⟩:ByteArray)=a:=⟨_,rfl⟩;have n1:¬ 9223372036854775807<s1.size+1:=by omega
      have m1:¬ 9223372036854775807<(s1).size+((⟨#[32]⟩:ByteArray)).size:=n1;have q1:a1.size=s1.size+1:=by rw [<- ha1];exact kHa
      have w1:lst a1=lst s1 ++ lst (⟨#[32]⟩:ByteArray):=by rw [<- ha1];exact lst_append _ _
      obtain ⟨a2,ha2⟩:∃ a:ByteArray,a1 ++ s2=a:=⟨_,rfl⟩;have n2:¬ 9223372036854775807<a1.size+s2.size:=by omega
      have m2:¬ 9223372036854775807<(a1).size+(s2).size:=n2;have q2:a2.size=a1.size+s2.size:=by rw [<- ha2];exact kHa
      have w2:lst a2=lst a1 ++ lst s2:=by rw [<- ha2];exact lst_append _ _
      obtain ⟨a3,ha3⟩:∃ a:ByteArray,a2 ++ (⟨#[32]⟩:ByteArray)=a:=⟨_,rfl⟩;have n3:¬ 9223372036854775807<a2.size+1:=by omega
      have m3:¬ 9223372036854775807<(a2).size+((⟨#[32]⟩:ByteArray)).size:=n3;have q3:a3.size=a2.size+1:=by rw [<- ha3];exact kHa
      have w3:lst a3=lst a2 ++ lst (⟨#[32]⟩:ByteArray):=by rw [<- ha3];exact lst_append _ _
      obtain ⟨a4,ha4⟩:∃ a:ByteArray,a3 ++ s3=a:=⟨_,rfl⟩;have n4:¬ 9223372036854775807<a3.size+s3.size:=by omega
      have m4:¬ 9223372036854775807<(a3).size+(s3).size:=n4;have q4:a4.size=a3.size+s3.size:=by rw [<- ha4];exact kHa
      have w4:lst a4=lst a3 ++ lst s3:=by rw [<- ha4];exact lst_append _ _
      obtain ⟨a5,ha5⟩:∃ a:ByteArray,a4 ++ (⟨#[10]⟩:ByteArray)=a:=⟨_,rfl⟩;have n5:¬ 9223372036854775807<a4.size+1:=by omega
      have m5:¬ 9223372036854775807<(a4).size+((⟨#[10]⟩:ByteArray)).size:=n5;have q5:a5.size=a4.size+1:=by rw [<- ha5];exact kHa
      have w5:lst a5=lst a4 ++ lst (⟨#[10]⟩:ByteArray):=by rw [<- ha5];exact lst_append _ _
      have hrow:rowT ⟨rv,lo,hi'⟩=lst a5:=by
       rw [w5,w4,w3,w2,w1,y1,y2,y3];rfl
      have HTk:=yH (htk.trans (by rw [hrow]));have hz5:((rows.take i).flatMap rowT).length+a5.size<=1000000:=by omega
      generalize (rows.take i).flatMap rowT=cur at *
      clear htk hrow hlen hlen2 w1 w2 w3 w4 w5 y1 y2 y3 q1 q2 q3 q4 q5 z1 z2 z3 f1 f2 f3;have HB:=yH hB;clear hB;go_wp2_with (first|((with_reducible refine Qp ?_);(refine ldPN hS.ile rfl rfl Zc rfl hcell Xa ?_);(try simp only [Act.put,zE,zF,zG]))|(refine aN 8 ?_;clear hS;intro X8 w hS)|(refine aS ?_;clear hS;intro w hS))
      obtain ⟨I8,l8,m8,hS8,b8⟩:=hS.ice;have i80:I8.at X8 0=some (.int .i64 rv):=PH.at_le m8 (Qc rfl);have i81:I8.at X8 1=some (.int .i64 lo):=PH.at_le m8 (Qc rfl);have i82:I8.at X8 2=some (.int .i64 hi'):=PH.at_le m8 (Qc rfl);have B8:=yH b8;clear hS l8 m8 b8;refine Kt (fun _ _=>False) [[],[0],[0,1],[0,1,2],[],[4],[0,1,2,4,5],[0,1,2,3,4,5,6],[0,1,2,3,4,5,6,7],[],[9],[0,1,2,4,5,6,9,10],[0,1,2,3,4,5,6,7,8,9,10,11],[0,1,2,3,4,5,6,7,8,9,10,11,12],[0,1,2,3,4,5,6,7,8,9,10,11,12,13]] W I8 _
       [fun v _=>v=.pointer (some ⟨X8,0,none⟩),fun v _=>v=.int .i64 rv,fun v _=>v=.string s1,fun v _=>v=.string a1,fun v _=>v=.pointer (some ⟨X8,1,none⟩),fun v _=>v=.int .i64 lo,fun v _=>v=.string s2,fun v _=>v=.string a2,fun v _=>v=.string a3,fun v _=>v=.pointer (some ⟨X8,2,none⟩),fun v _=>v=.int .i64 hi',fun v _=>v=.string s3,fun v _=>v=.string a4,fun v _=>v=.string a5,fun _ _=>True] [14]
       (fun s _ _ ns=>if s=0 then ns=mb::mr::[] else ∃ mb' mr',Bld X6 (cur ++ lst a5) mb' mr'/\ns=mb'::mr'::[]) (by kernel_rfl) (by kernel_rfl) (by decide) hS8 rfl ?last (fun _ _ _ _ _ _ h=>h) (fun _ _ _ _ _ _ h=>h) ?plain ?step ?hZ ?fin
      case last=>exact bL
      case hZ=>exact fun _ _ _ _ h=>h.elim
      case plain=>clear hS8;(repeat' (first|exact trivial|apply And.intro)) <;> first|exact .inl rfl|(refine .inr ?_;intro s vals J bs w hstop hg hJ hS hG;clear hG;refine bZ ?_;intro K HK;(first|(refine bJ ?_)|(go_wp2_with (first|(go_at_call 28;first|((with_reducible refine bB hS (T1.out _) ?_);clear hS;intro w2 hS)|((with_reducible refine bB hS (T2.out _) ?_);clear hS;intro w2 hS)|((with_reducible refine bB hS (T3.out _) ?_);clear hS;intro w2 hS)))));exact bO)
      case step =>
       refine ⟨trivial,?_⟩;clear hS8;intro vals J bs w hg hJ hS hG;have hG:bs=mb::mr::[]:=hG;subst hG;refine bZ ?_;intro K HK;go_wp2_with (go_at_call 27;(refine yI (Yc W _ _ _ _ X6 _ _ _ hz5 HB.out hS) ?_);clear hS;rintro e w ⟨rfl,mb2,mr2,hB2,hS⟩;have HB2:=yH hB2;clear hB2)
       exact HK.out _ _ ⟨rfl,J,_,PH.le.refl _,hS,trivial,mb2,mr2,HB2.out,rfl⟩
      case fin =>
       intro vals J9 bs w hJ hg hS hG;obtain ⟨mb2,mr2,hB2,hns⟩:=hG;subst hns;have hS:=B8.out _ _ (hS.less hJ);have HB2:=yH hB2;clear hJ hB2 hS8;simp only [yB,yC,Nat.reduceAdd,Below_,Facts,zH,zI,jGb,jMb] at hg;simp only [yB,yC,Nat.reduceAdd,Qb,Qe,Qd,zA,zB,zK,jC,Act.put,zE,zF,zG,hg];refine ⟨?_⟩;clear hg;go_wp2_with (fail)
       exact ⟨⟨i+1,mb2,mr2,by omega,by go_num,by rw [HTk.out];exact HB2.out,hS.drop⟩,by simp [intOf];omega⟩
    . obtain rfl:i=N:=by omega
      have e:rows.take i=rows:=jFa (by rw [HNn.out];exact jBb _);have hlen:=HL1.out i hi;rw [e] at hB hlen;have h8:=textD_lt rows roots;have HD:=yH (show textD rows roots=rows.flatMap rowT ++ [114,111,111,116,115] ++ roots.flatMap Yj ++ [10] from rfl);generalize textD rows roots=T at *
      have hz1:(rows.flatMap rowT).length+(⟨#[114,111,111,116,115]⟩:ByteArray).size<=1000000:=by show _+5<=_;omega
      generalize rows.flatMap rowT=cur at *
      have HB:=yH hB;clear hB HCl HF HL1 e;go_wp2_with ( (go_at_call 27;(refine yI (Yc W _ _ _ _ X6 _ _ _ hz1 HB.out hS) ?_);clear hS;rintro e w ⟨rfl,mb1,mr1,hB1,hS⟩;have HB1:=yH hB1;clear hB1) )
      have hB1:Bld X6 (cur ++ [114,111,111,116,115]) mb1 mr1:=HB1.out;have hlen1:(cur ++ [114,111,111,116,115]).length<=258053:=by rw [yG];show _+5<=_;omega
      generalize cur ++ [114,111,111,116,115]=base at *
      clear HB HB1;go_loopw [40] (fun v40 wr=>∃ (j:Nat) (mb mr:PH),j<=M/\v40=.int .i64 (j:Int)/\Bld X6 (base ++ (roots.take j).flatMap Yj) mb mr/\Sat W (Qa W) (mb::mr::[]) wr) (fun v40 _=>(M - intOf v40).toNat)
      case atStart=>exact ⟨0,mb1,mr1,jCa _,rfl,by simpa using hB1,hS⟩
      case round =>
       clear hS hB1;obtain ⟨j,mb,mr,hj,rfl,hB,hS⟩:=hrel;have hlj:=HL2.out j hj;by_cases hlt2:j<M
       . obtain ⟨e,he⟩:∃ e,roots[j]?=some e:=⟨_,yA (by rw [HMm.out];exact hlt2)⟩
         obtain ⟨Z,oZ,hZ,hcell⟩:=HCr.out (by omega);subst hZ;have hcell:=hcell j e he;have jM:(j:Int)<(M:Int):=by omega
         have he2:I64 e:=by
          have h:=HG.out e (jDb he);exact ⟨h.1,by omega⟩
         have htk:base ++ (roots.take (j+1)).flatMap Yj=base ++ (roots.take j).flatMap Yj ++ Yj e:=by rw [jP,he,jLb,<- jFb];simp
         have T1:=yH (fun w:World=>text_any e w he2);have z1:=Ye e he2;have y1:=Xo e;generalize textS e=s1 at *
         obtain ⟨a1,ha1⟩:∃ a:ByteArray,(⟨#[32]⟩:ByteArray) ++ s1=a:=⟨_,rfl⟩;have n1:¬ 9223372036854775807<1+s1.size:=by omega
         have m1:¬ 9223372036854775807<((⟨#[32]⟩:ByteArray)).size+(s1).size:=n1;have q1:a1.size=1+s1.size:=by rw [<- ha1];exact kHa
         have w1:lst a1=lst (⟨#[32]⟩:ByteArray) ++ lst s1:=by rw [<- ha1];exact lst_append _ _
         have hroot:Yj e=lst a1:=by rw [w1,y1];rfl
         have HTk:=yH (htk.trans (by rw [hroot]));have hz2:(base ++ (roots.take j).flatMap Yj).length+a1.size<=1000000:=by rw [yG];omega
         generalize base ++ (roots.take j).flatMap Yj=bj at *
         have HB:=yH hB;clear hB he htk hroot w1 y1 q1 z1 he2 hlj HCr;go_wp2_with (first|(go_at_call 28;(with_reducible refine yI (T1.out _) ?_);rintro e' w2 ⟨rfl,hb2⟩;replace hS:=hS.below_ hb2;clear hb2)|(go_at_call 27;(refine yI (Yc W _ _ _ _ X6 _ _ _ hz2 HB.out hS) ?_);clear hS;rintro e' w ⟨rfl,mb2,mr2,hB2,hS⟩;have HB2:=yH hB2;clear hB2)|(refine aL ?_))
         exact ⟨⟨j+1,mb2,mr2,by omega,by go_num,by rw [HTk.out];exact HB2.out,hS⟩,by simp [intOf];omega⟩
       . obtain rfl:j=M:=by omega
         have e:roots.take j=roots:=jFa (by rw [HMm.out];exact jBb _);rw [e] at hB hlj;have hz2:(base ++ roots.flatMap Yj).length+(⟨#[10]⟩:ByteArray).size<=1000000:=by rw [yG];show _+1<=_;omega
         have hz3:T.length<=1000000:=by rw [HD.out,yG];exact hz2
         have hT0:T≠[]:=by rw [HD.out];simp
         have hBT:∀ mb2 mr2,Bld X6 (base ++ roots.flatMap Yj ++ lst ⟨#[10]⟩) mb2 mr2->Bld X6 T mb2 mr2:=fun _ _ h=>by rw [HD.out];exact h
         have HBT:=yH hBT;generalize base ++ roots.flatMap Yj=bj at *
         have HB:=yH hB;clear hB e hlj HCr HG HL2 hBT;go_wp2_with (first|(go_at_call 27;(refine yI (Yc W _ _ _ _ X6 _ _ _ hz2 HB.out hS) ?_);clear hS;rintro e' w ⟨rfl,mb2,mr2,hB2,hS⟩;have HB2:=yH hB2;clear hB2)|(go_at_call 29;(refine yI (bstring_any W _ _ _ _ X6 _ _ hT0 hz3 h8 (HBT.out _ _ HB2.out) hS) ?_);clear hS;rintro e' w ⟨str,rfl,hstr,hS⟩;have HStr:=yH hstr;clear hstr))
         go_ret2;exact ⟨⟨str,0,rfl,HStr.out.trans HT.out.symm,rfl⟩,hS.end_ (PH.le.refl _)⟩
end
section
open Go.RowKit
end
namespace G
def S0:Sem:=fun _ φ ψ χ=>iteF φ ψ χ
structure Lives (m1 m2 m3 m4:Mg) (x y f g:Nat) (q:RS):Prop where
 v0:(Mg.new 2 400).var_ ((0:Nat):Int)=some (m1,x,0)
 v1:m1.var_ ((1:Nat):Int)=some (m2,y,0)
 an:m2.andM [(x:Int),(y:Int)]=some (m3,f,0)
 ro:m3.rowsM [(f:Int)]=some (m3,.inl (q,[4]))
 rows:q.rows=[⟨1,1,0⟩,⟨0,1,2⟩]
 ld:m3.do_ (load1 q.rows 4)=some (m4,g,0)
 sm:(m4.same f g).1=true
 s0:Snd S0 2 2 (Mg.new 2 400)
 s1:Sd S0 2 m1
 s2:Sd S0 2 m2
 s3:Sd S0 2 m3
 fx:∃ φ,m2.fn x=some φ
 fy:∃ φ,m2.fn y=some φ
 h1:m1.hs.length<=10/\m1.s.pl.room=400
 h2:m2.hs.length<=10/\m2.s.pl.room=400
 h3:m3.hs.length<=10/\m3.s.pl.room=400
 h4:∀ p ∈ m4.hs,p.2<4611686018427387904
theorem lives_data:∃ m1 m2 m3 m4 x y f g q,Lives m1 m2 m3 m4 x y f g q:=by
 have h:=lives26_is;unfold lives26 at h;obtain ⟨s0,_⟩:=Snd.new (S:=S0) (n:=2) (room:=400) (by decide) (by decide) (by decide);have hw0:(Mg.new 2 400).waits.length=0:=rfl;have hh0:(Mg.new 2 400).hs.length=2:=rfl;have hn0:(Mg.new 2 400).next=2:=rfl;have hr0:(Mg.new 2 400).s.pl.room=400:=rfl;have hbig:(1000:Nat)<big:=by decide
 generalize hm0:Mg.new 2 400=m0 at *
 have sd0:Sd S0 2 m0:=by unfold Sd;rw [hn0];exact s0
 obtain ⟨m1,e1,n1⟩:=var_ok sd0 (by omega) (by omega) (by omega) (by rw [hh0,hr0];decide) (v:=0) (by decide);have e1':m0.var_ 0=some (m1,m0.next,0):=e1;rw [e1'] at h;simp only [zK] at h;have l1:=n1.len;have r1:=n1.room;have c1:=n1.cost;obtain ⟨w1,hw1⟩:=n1.waits;have hw1:m1.waits.length<=0:=by have:=jQb List.length hw1;rw [yG] at this;omega
 obtain ⟨m2,e2,n2⟩:=var_ok n1.ok (by omega) (by omega) (by omega) (by rw [l1,r1,hh0,hr0];decide) (v:=1) (by decide);have e2':m1.var_ 1=some (m2,m1.next,0):=e2;rw [e2'] at h;simp only [zK] at h;have l2:=n2.len;have r2:=n2.room;have c2:=n2.cost;obtain ⟨w2,hw2⟩:=n2.waits;have hw2:m2.waits.length<=0:=by have:=jQb List.length hw2;rw [yG] at this;omega
 have fx:m2.fn (m0.next:Int)=some (fun ρ=>ρ 0):=by
  have h1:=n2.fn (m0.next:Int);have h2:=n1.fn (m0.next:Int)
  have:=n1.lt;rw [jAb (by omega)] at h1;rw [jAa rfl] at h2;rw [h1,h2]
 have fy:m2.fn (m1.next:Int)=some (fun ρ=>ρ 1):=by
  have h1:=n2.fn (m1.next:Int);rw [jAa rfl] at h1;exact h1
 obtain ⟨m3,e3,n3⟩:=doR_ok (K:=2 * (2 ^ 2 - 1)) (φ:=[fun ρ=>ρ 0,fun ρ=>ρ 1].foldl (fun a b ρ=>a ρ && b ρ) (fun _=>true)) n2.ok (by omega) (by omega) (by omega) (by rw [l2,r2,l1,r1,hh0,hr0];decide) (F:=fun m=>foldE andE [(m0.next:Int),(m1.next:Int)] m 0) (fun m' hs hfn hhs=>by
  have:=foldE_ok (F:=andE) (f:=fun a b ρ=>a ρ && b ρ) (andE_ok (S:=S0) (fun _ _ _=>rfl)) [(m0.next:Int),(m1.next:Int)] [fun ρ=>ρ 0,fun ρ=>ρ 1] m' 0 hs (by rw [hfn];simp only [jD,jTb,fx,fy]) (.inl rfl);rw [show den m'.s.nd 0=fun _=>true from funext fun ρ=>den_zero hs.ok.can.g0 ρ] at this;exact this)
 have e3':m2.andM [(m0.next:Int),(m1.next:Int)]=some (m3,m2.next,0):=e3;rw [e3'] at h;simp only [zK] at h;have l3:=n3.len;have r3:=n3.room;cases hro:m3.rowsM [(m2.next:Int)] with
 | none=>rw [hro] at h;cases h
 | some z =>
   obtain ⟨m3',res⟩:=z;obtain ⟨rfl,hc⟩:=rowsM_cases hro;rw [hro] at h;simp only [zK] at h;rcases hc with ⟨q,rr,rfl,_⟩|rfl
   . simp only at h
     cases hld:m3'.do_ (load1 q.rows (rr.getD 0 0)) with
     | none=>rw [hld] at h;cases h
     | some z =>
       obtain ⟨m4,g,e4⟩:=z;rw [hld] at h;simp only [zK,jEb,jQa] at h;obtain ⟨hq,rfl,hb⟩:=h;simp only [jEa,jVa] at hb;obtain ⟨hsm,_,rfl⟩:=hb;have hR:RowsOk 2 q.rows 0:=by rw [hq];simp [RowsOk]
       obtain ⟨m4',e4,n4⟩:=doR_ok (K:=2 * (1+(2 ^ 2 - 1+0))) (φ:=edgeF (rowFs (q.rows.take (4 / 2)) [fun _=>true]) 4) n3.ok (by
        obtain ⟨w3,hw3⟩:=n3.waits
        have:=jQb List.length hw3;rw [yG] at this;omega) (by omega) (by have:=n3.cost;omega) (by rw [l3,r3,l2,r2,l1,r1,hh0,hr0];decide) (F:=load1 q.rows 4) (fun m' hs hfn hhs=>by
        have:=load1_ok (S:=S0) (fun _ _ _=>rfl) hs hR (root:=4) (by rw [hq];decide);rw [hq] at this ⊢;exact this)
       have hld':m3'.do_ (load1 q.rows 4)=some (m4,g,0):=hld;rw [e4] at hld';obtain ⟨rfl,rfl,_⟩:m4'=m4/\m3'.next=g/\True:=by cases hld';exact ⟨rfl,rfl,trivial⟩
       exact ⟨m1,m2,m3',m4',_,_,_,_,q,⟨by rw [hm0];exact e1,e2,e3',hro,hq,e4,hsm,by rw [hm0];exact s0,n1.ok,n2.ok,n3.ok,⟨_,fx⟩,⟨_,fy⟩,⟨by omega,by omega⟩,⟨by omega,by omega⟩,⟨by omega,by omega⟩,fun p hp=>Snd.hs_lt n4.ok p hp⟩⟩
   . simp only at h
     cases h
end G
section
open Go.RowKit
theorem OwnP.row3 {m:PH} {e:TypeId} {v:Value} {l:List G.Rw3} (h:OwnP m e 3 v l.length (l.flatMap rowC)):Row3R m v l:=by
 by_cases hl:l=[]
 . subst hl
   rcases h.2 with ⟨rfl,_,_⟩|⟨g,cap,cur,rfl,_⟩
   . exact .inl ⟨rfl,rfl⟩
   . obtain ⟨A,c,e1,e2⟩:=h.shape
     injection e1 with a1 a2 a3
     subst a3;exact .inr ⟨g,0,cap,rfl,e2,fun i x hx=>by cases hx⟩
 . obtain ⟨X,c,rfl,_⟩:=h.ptr (kR.2 hl)
   obtain ⟨A,c',e1,e2⟩:=h.shape;injection e1 with a1 a2 a3
   subst a3;exact .inr ⟨X,0,c,rfl,e2,fun i x hx=>by rw [jR];exact Qu rowC_len h hx⟩
theorem OwnP.ints {m:PH} {e:TypeId} {v:Value} {l:List Nat} (h:OwnP m e 1 v l.length (l.flatMap ivC)):IntR m v (l.map fun (h:Nat)=>(h:Int)):=h.num.intR
section
variable {E w:World} {I:PH} {ms:List PH} {D:Nat} {m1 m2 m3 m4:G.Mg} {x y f g:Nat} {q:G.RS}
theorem lv_and (L:G.Lives m1 m2 m3 m4 x y f g q) {p:PH} {XS:Nat} (hA:MgAt D m2 p) (hS:Sat E I (PH.one XS (.cells #[nv x,nv y] 3)::p::ms) w) :
  Calls Tryz.prog 19 #[vPt D,.slice (some ⟨XS,0,none⟩) 2 2] w fun e w'=>e=.returned (.tuple #[nv f,.int .i64 0])/\∃ p',MgAt D m3 p'/\Sat E I (p'::ms) w':=by
 obtain ⟨J,l1,l2,h2,back⟩:=hS.ice;obtain ⟨φ,fx⟩:=L.fx;obtain ⟨ψ,fy⟩:=L.fy;have hO:IntR J (.slice (some ⟨XS,0,none⟩) 2 2) [(x:Int),(y:Int)]:=(OwnP.ints (l:=[x,y]) (OwnP.lit XS 3 1 2 #[nv x,nv y] (by decide) rfl)).le l2;refine (wand_any (S:=G.S0) (fun _ _ _=>rfl) L.s2 (by have:=L.h2.1;omega) (by have:=L.h2.2;omega) (φs:=[φ,ψ]) (by simp only [jD,jTb,fx,fy]) (by simp) hO L.an hA h2).mono ?_;rintro e w' ⟨rfl,p',h3,h4⟩;exact ⟨rfl,p',h3,(back _ _ h4).drop⟩
theorem lv_rows (L:G.Lives m1 m2 m3 m4 x y f g q) {p:PH} {XS:Nat} (hA:MgAt D m3 p) (hS:Sat E I (PH.one XS (.cells #[nv f] 3)::p::ms) w) :
  Calls Tryz.prog 13 #[vPt D,.slice (some ⟨XS,0,none⟩) 1 1] w fun e w'=>∃ vR A c,e=.returned (.tuple #[vR,.slice A 1 c,.int .i64 0])/\∃ p' mR mr,OwnP mR 63 3 vR q.rows.length (q.rows.flatMap rowC)/\OwnP mr 3 1 (.slice A 1 c) 1 [nv 4]/\MgAt D m3 p'/\Sat E I (p'::mR::mr::ms) w':=by
 obtain ⟨J,l1,l2,h2,back⟩:=hS.ice;have hO:IntR J (.slice (some ⟨XS,0,none⟩) 1 1) [(f:Int)]:=(OwnP.ints (l:=[f]) (OwnP.lit XS 3 1 1 #[nv f] (by decide) rfl)).le l2;refine (wrows_any (S:=G.S0) L.s3 (by have:=L.h3.1;omega) (by have:=L.h3.2;omega) (by simp) hO L.ro hA h2).mono ?_;rintro e w' ⟨p',ns,⟨vR,vr,mR,mr,rfl,rfl,o1,o2⟩,h3,h4⟩;have ho:rowsOut (.inl (q,[4]))=(q.rows,[4],0):=jAb (by rw [L.rows];decide);rw [ho] at o1 o2 ⊢;obtain ⟨A,c,rfl,_⟩:=OwnP.shape o2;exact ⟨_,A,c,rfl,p',mR,mr,o1,o2,h3,(back _ _ h4).drop⟩
theorem lv_rok (L:G.Lives m1 m2 m3 m4 x y f g q):(∀ r ∈ q.rows,RowFit r)/\G.rightB q.rows [4]=true/\G.RowsOk 2 q.rows 0/\G.wideB 2 q.rows=false/\G.evalB q.rows [true,true] 4=true/\textD q.rows [4]=lst ⟨#[49,32,49,32,48,10,48,32,49,32,50,10,114,111,111,116,115,32,52,10]⟩:=by
 rw [L.rows];refine ⟨fun r hr=>?_,by decide,by simp [G.RowsOk],by decide,by decide,by decide +kernel⟩;simp only [jBa,jCb,jKb] at hr;rcases hr with rfl|rfl <;> exact ⟨by decide,by decide,by decide⟩
theorem lv_load (L:G.Lives m1 m2 m3 m4 x y f g q) {p mR mr:PH} {vR:Value} {A:Option Addr} {c:Nat} (o1:OwnP mR 63 3 vR q.rows.length (q.rows.flatMap rowC)) (o2:OwnP mr 3 1 (.slice A 1 c) 1 [nv 4]) (hA:MgAt D m3 p) (hS:Sat E I (p::mR::mr::ms) w) :
  Calls Tryz.prog 15 #[vPt D,vR,.slice A 1 c] w fun e w'=>∃ X c',e=.returned (.tuple #[.slice (some ⟨X,0,none⟩) 1 c',.int .i64 0])/\∃ p' mo,mo.at X 0=some (nv g)/\MgAt D m4 p'/\Sat E I (p'::mo::mR::mr::ms) w':=by
 obtain ⟨k1,k2,k3,k4,_,_⟩:=lv_rok L;have hS1:Sat E I ([mR,mr] ++ p::ms) w:=(hS.pick 2 rfl).pick 2 rfl |>.perm (List.Perm.swap _ _ _) |>.perm (by  exact List.Perm.swap _ _ _)
 obtain ⟨J,l1,l2,h2,back⟩:=Sat.iceL hS1;have hv:m3.s.vars.length=2:=L.s3.vars;have hlm:m3.loadM q.rows [4]=some (m4,[g],0):=by
  unfold G.Mg.loadM;rw [jAa k2,hv,k4];simp only [jE,jS];unfold G.Mg.loadL;rw [show ((4:Int).toNat)=4 from rfl,L.ld];rfl
 refine (dload_any (Gd:=fun m k=>k=0->m=m3) (rows:=q.rows) (roots:=[4]) ⟨fun _ _ _ _ _ _ _ _ _ h=>by omega,fun m k root m' h er hk hm hr hd=>?_⟩ (fun m k root hk hm hr=>?_) (by rw [L.rows];decide) (by simp) k1 (by simp) ((OwnP.row3 o1).le (l2 _ (.head _))) ((OwnP.ints (l:=[4]) o2).le (l2 _ (.tail _ (.head _)))) hlm (fun _=>rfl) hA h2).mono ?_
 . simp only [List.length_singleton] at hk
   obtain rfl:=hm (by omega);simp only [jBa,jCb,jKb] at hr;subst hr;have hd:m.do_ (G.load1 q.rows 4)=some (m',h,er):=hd;rw [L.ld] at hd;cases hd;exact L.h4
 . simp only [List.length_singleton] at hk
   obtain rfl:=hm (by omega);simp only [jBa,jCb,jKb] at hr;subst hr;exact ⟨_,InvS.of L.s3,InvS.keeps (by have:=L.h3.1;omega) (by have:=L.h3.2;omega),load_inv (fun _ _ _=>rfl) k3,load_do (fun _ _ _=>rfl) k3 (by rw [L.rows];decide)⟩
 . rintro e w' ⟨p',mo,⟨v,rfl,ho⟩,h3,h4⟩
   have ho:OwnP mo 3 1 v [g].length ([g].flatMap ivC):=ho;obtain ⟨X,c',rfl,hx⟩:=(OwnP.num ho).2 (by simp);have h5:=back _ _ h4;exact ⟨X,c',rfl,p',mo,hx 0 g rfl,h3,(h5.pick 2 rfl).pick 3 rfl |>.perm (List.Perm.swap _ _ _)⟩
end
end
section
def rowO (hi:Int) (l:List Nat):Option G.Rw3:=match Qy hi (Qw 32 l) with|some [a,b,c]=>some ⟨a,b,c⟩|_=>none
def Kr (hi:Int):List (List Nat)->List G.Rw3->Option (List G.Rw3 × List Int)
 | l::l2::rest,rows =>
   if (Qw 32 l).head?=some Xu then (if rest=[]/\l2=[] then (Qy hi (Qw 32 l).tail).bind fun rs=>if G.rightB rows rs=true then some (rows,rs) else none else none)
   else (rowO hi l).bind fun r=>Kr hi (l2::rest) (rows ++ [r])
 | _,_=>none
theorem numO_roots (hi:Int):numO hi Xu=none:=by
 unfold numO;rw [jAb fun h=>absurd h.1 (by decide)]
theorem rowO_roots {hi:Int} {l:List Nat} (h:(Qw 32 l).head?=some Xu):rowO hi l=none:=by
 unfold rowO;cases hs:Qw 32 l with
 | nil=>rw [hs] at h;cases h
 | cons a t =>
   rw [hs] at h;simp only [List.head?_cons,jEb] at h;subst h;rw [Qy,numO_roots]
theorem readO_row (hi:Int) (l l2 l3:List Nat) (rest:List (List Nat)) (rows:List G.Rw3):Kr hi (l::l2::l3::rest) rows=(rowO hi l).bind fun r=>Kr hi (l2::l3::rest) (rows ++ [r]):=by
 rw [Kr];by_cases h:(Qw 32 l).head?=some Xu
 . rw [jAa h,jAb (by simp),rowO_roots h]
   rfl
 . rw [jAb h]
theorem readO_end (hi:Int) (l:List Nat) (rows:List G.Rw3):Kr hi [l,[]] rows=if (Qw 32 l).head?=some Xu then (Qy hi (Qw 32 l).tail).bind fun rs=>if G.rightB rows rs=true then some (rows,rs) else none else none:=by
 rw [Kr];by_cases h:(Qw 32 l).head?=some Xu
 . rw [jAa h,jAa ⟨rfl,rfl⟩,jAa h]
 . rw [jAb h,jAb h]
   cases rowO hi l with
   | none=>rfl
   | some r=>rfl
theorem readO_bad (hi:Int):∀ (ls:List (List Nat)) (rows:List G.Rw3) (i:Nat) (r:G.Rw3),rows[i]?=some r->G.rowB r i=false->Kr hi ls rows=none
 | [],rows,i,r,h,hb=>rfl
 | [l],rows,i,r,h,hb=>rfl
 | l::l2::rest,rows,i,r,h,hb=>by
   rw [Kr];have hlt:=(yE.1 h).1;by_cases c:(Qw 32 l).head?=some Xu
   . rw [jAa c]
     by_cases c2:rest=[]/\l2=[]
     . rw [jAa c2]
       cases Qy hi (Qw 32 l).tail with
       | none=>rfl
       | some rs =>
         show (if G.rightB rows rs=true then some (rows,rs) else none)=none
         rw [G.rightB_row h hb,jAb (by decide)]
     . rw [jAb c2]
   . rw [jAb c]
     cases rowO hi l with
     | none=>rfl
     | some q=>exact readO_bad hi (l2::rest) (rows ++ [q]) i r (by rw [jPb hlt];exact h) hb
theorem numO_mono {a b:Int} (hab:a<=b) {w:List Nat} {x:Int} (h:numO a w=some x):numO b w=some x:=by
 unfold numO at h ⊢;split at h
 . rename_i hc
   rw [jAa ⟨hc.1,hc.2.1,by omega⟩];exact h
 . cases h
theorem numsO_mono {a b:Int} (hab:a<=b):∀ {ws:List (List Nat)} {xs:List Int},Qy a ws=some xs->Qy b ws=some xs
 | [],xs,h=>h
 | w::ws,xs,h=>by
   rw [Qy] at h ⊢;cases hx:numO a w with
   | none=>rw [hx] at h;cases h
   | some x =>
     rw [hx] at h;simp only at h;rw [numO_mono hab hx];cases hy:Qy a ws with
     | none=>rw [hy] at h;cases h
     | some ys=>rw [hy] at h;rw [numsO_mono hab hy];exact h
theorem numsO_far {a b:Int} (hab:a<=b):∀ {ws:List (List Nat)} {xs:List Int},Qy b ws=some xs->Qy a ws=none->∃ x ∈ xs,a<x
 | [],xs,_,h=>by cases h
 | w::ws,xs,hb,ha=>by
   rw [Qy] at hb ha;cases hx:numO b w with
   | none=>rw [hx] at hb;cases hb
   | some x =>
     rw [hx] at hb;simp only at hb;cases hy:Qy b ws with
     | none=>rw [hy] at hb;cases hb
     | some ys =>
       rw [hy] at hb;simp only [Option.map_some,jEb] at hb;subst hb;cases hxa:numO a w with
       | none =>
         refine ⟨x,.head _,?_⟩;unfold numO at hx hxa;split at hx
         . rename_i hc
           injection hx with hx
           split at hxa
           . cases hxa
           . rename_i hn
             have:¬ Za w<=a:=fun h=>hn ⟨hc.1,hc.2.1,h⟩
             omega
         . cases hx
       | some x' =>
         rw [hxa] at ha;simp only at ha;cases hya:Qy a ws with
         | none =>
           obtain ⟨z,hz,hz2⟩:=numsO_far hab hy hya;exact ⟨z,.tail _ hz,hz2⟩
         | some ys'=>rw [hya] at ha;cases ha
theorem rowB_far {r:G.Rw3} {i:Nat} (hi:i<4096) (h:8193<r.v\/8193<r.lo\/8193<r.hi):G.rowB r i=false:=by
 unfold G.rowB G.leadsB;rw [kPa];intro hc;simp only [jEa,jWa,jI,jJ] at hc;omega
theorem rightB_far {rows:List G.Rw3} {rs:List Int} (hn:rows.length<=4096) {x:Int} (hx:x ∈ rs) (h:8193<x):G.rightB rows rs=false:=by
 unfold G.rightB;rw [kPa];intro hc;rw [jEa,jEa,jLa,jLa] at hc
 have:=hc.1.2 x hx;unfold G.leadsB at this;simp only [jEa,jJ] at this;omega
theorem readO_hi {hi:Int} (hh:8193<=hi):∀ (ls:List (List Nat)) (rows:List G.Rw3),rows.length+ls.length<=4096->Kr hi ls rows=Kr 8193 ls rows
 | [],rows,_=>rfl
 | [l],rows,_=>rfl
 | l::l2::rest,rows,hn=>by
   rw [Kr,Kr];simp only [yB] at hn;by_cases c:(Qw 32 l).head?=some Xu
   . rw [jAa c,jAa c]
     by_cases c2:rest=[]/\l2=[]
     . rw [jAa c2,jAa c2]
       cases ha:Qy 8193 (Qw 32 l).tail with
       | some rs=>rw [numsO_mono hh ha]
       | none =>
         cases hb:Qy hi (Qw 32 l).tail with
         | none=>rfl
         | some rs =>
           obtain ⟨x,hx,hx2⟩:=numsO_far hh hb ha;show (if G.rightB rows rs=true then some (rows,rs) else none)=none
           rw [rightB_far (by omega) hx hx2,jAb (by decide)]
     . rw [jAb c2,jAb c2]
   . rw [jAb c,jAb c]
     cases ha:Qy 8193 (Qw 32 l) with
     | some xs =>
       have e:rowO hi l=rowO 8193 l:=by unfold rowO;rw [ha,numsO_mono hh ha]
       rw [e];cases rowO 8193 l with
       | none=>rfl
       | some r=>exact readO_hi hh (l2::rest) (rows ++ [r]) (by rw [yG];simp;omega)
     | none =>
       have e:rowO 8193 l=none:=by unfold rowO;rw [ha]
       rw [e];cases hr:rowO hi l with
       | none=>rfl
       | some r =>
         show Kr hi (l2::rest) (rows ++ [r])=none
         unfold rowO at hr;cases hb:Qy hi (Qw 32 l) with
         | none=>rw [hb] at hr;cases hr
         | some xs =>
           rw [hb] at hr;obtain ⟨x,hx,hx2⟩:=numsO_far hh hb ha
           match xs,hr,hx with
           | [a,b,c'],hr,hx =>
             injection hr with hr
             subst hr;refine readO_bad hi _ _ rows.length ⟨a,b,c'⟩ (by simp) (rowB_far (by omega) ?_);simp only [jBa,jCb,jKb] at hx;rcases hx with rfl|rfl|rfl
             . exact .inl hx2
             . exact .inr (.inl hx2)
             . exact .inr (.inr hx2)
end
section
open Go.RowKit
theorem first_cut (c:Nat):∀ (l:List Nat),c ∈ l->∃ a b,l=a ++ c::b/\c ∉ a
 | x::l,h=>by
   by_cases e:x=c
   . exact ⟨[],l,by rw [e];rfl,by simp⟩
   . obtain ⟨a,b,rfl,ha⟩:=first_cut c l ((jBa.1 h).resolve_left fun h=>e h.symm)
     exact ⟨x::a,b,rfl,fun hm=>((jBa.1 hm).elim (fun h=>e h.symm) ha)⟩
theorem splC_size (c:Nat):∀ (l:List Nat),(Qw c l).length<=l.length+1/\∀ x ∈ Qw c l,x.length<=l.length:=by
 intro l
 induction h:l.length using Nat.strongRecOn generalizing l with
 | ind n ih =>
   subst h;by_cases hc:c ∈ l
   . obtain ⟨a,b,rfl,ha⟩:=first_cut c l hc
     rw [splC_hit c b a ha];obtain ⟨h1,h2⟩:=ih b.length (by simp;omega) b rfl;refine ⟨by simp;omega,fun x hx=>?_⟩;rcases jBa.1 hx with rfl|hx
     . simp
     . have:=h2 x hx
       simp;omega
   . rw [splC_miss c l hc]
     exact ⟨by simp,fun x hx=>by rw [jMa] at hx;subst hx;exact jBb _⟩
theorem Xn {c:Nat} {s:ByteArray} {ps:List ByteArray} (h:ps.map lst=Qw c (lst s)):ps.length<=s.size+1/\∀ p ∈ ps,p.size<=s.size:=by
 obtain ⟨h1,h2⟩:=splC_size c (lst s);rw [<- h,Qi] at h1;rw [jHb] at h1;refine ⟨h1,fun p hp=>?_⟩
 have:=h2 (lst p) (by rw [<- h];exact kRb hp)
 rwa [Qi,Qi] at this
theorem OwnP.intRo {m J:PH} {v:Value} {e:TypeId} {l:List Int} (h:OwnP m e 1 v l.length (l.map (Value.int .i64))) (hm:m.le J):IntRo J v l:=by
 obtain ⟨A,c,hv,_,_,h2⟩:=OwnP.rowG (f:=fun x:Int=>[Value.int .i64 x]) (xs:=l) (J:=J) (by rw [<- kZ];exact h) hm;refine ⟨A,c,hv,fun hn=>?_⟩;obtain ⟨X,off,hA,hc⟩:=h2 hn;exact ⟨X,off,hA,fun i x hx=>hc i _ (by rw [<- kZ,jNb,hx];rfl)⟩
theorem OwnP.wdRo {m J:PH} {v:Value} {e:TypeId} {l:List ByteArray} (h:OwnP m e 1 v l.length (l.map Value.string)) (hm:m.le J):WdRo J v l:=by
 obtain ⟨A,c,hv,hc0,_,h2⟩:=OwnP.rowG (f:=fun x:ByteArray=>[Value.string x]) (xs:=l) (J:=J) (by rw [<- kZ];exact h) hm;refine ⟨A,c,hv,hc0,fun hn=>?_⟩;obtain ⟨X,off,hA,hc⟩:=h2 hn;exact ⟨X,off,hA,fun i x hx=>hc i _ (by rw [<- kZ,jNb,hx];rfl)⟩
section
variable {E w:World} {I:PH} {ms:List PH}
theorem splitF (s:ByteArray) (c:UInt8) (hI:MaxIn I) (hs:s.size<=70000) (hS:Sat E I ms w) :
  Calls Tryz.prog 21 #[.string s,.string ⟨#[c]⟩] w fun e w'=>∃ (A:Option Addr) (n k:Nat) (J:PH) (ps:List ByteArray),e=.returned (.slice A n k)/\ps.length=n/\n<=k/\I.le J/\WdRo J (.slice A n k) ps/\ps.map lst=Qw c.toNat (lst s)/\Sat E J ms w':=by
 refine (split_any E I ms s c w hI hs hS).mono ?_;rintro e w' ⟨X,ps,rfl,hp,h⟩;obtain ⟨J,l1,l2,h2,_⟩:=h.ice;refine ⟨_,_,_,J,ps,rfl,rfl,jBb _,l1,⟨_,_,rfl,jBb _,fun _=>⟨X,0,rfl,fun i x hx=>?_⟩⟩,hp,h2⟩;rw [jR];exact PH.at_le l2 (by simp only [PH.at,PH.one_self,strs];simp [hx])
def FrzR (r:Option (List Int)) (E:World) (I:PH) (ms:List PH) (e:Ending) (w':World):Prop:=∃ (A:Option Addr) (n k:Nat) (J m:PH),e=.returned (.tuple #[.slice A n k,.bool r.isSome])/\(r.getD []).length=n/\I.le J/\m.le J/\OwnP m 3 1 (.slice A n k) n ((r.getD []).map (Value.int .i64))/\Sat E J ms w'
theorem NumsR.frz {r:Option (List Int)} {e:Ending} {w':World} (h:NumsR r E I ms e w'):FrzR r E I ms e w':=by
 obtain ⟨u,m,rfl,hO,h⟩:=h;obtain ⟨J,l1,l2,h2,_⟩:=h.ice;obtain ⟨A,c,rfl,_⟩:=hO.shape;exact ⟨A,_,c,J,m,rfl,rfl,l1,l2,hO,h2⟩
theorem FrzR.bad {r:Option (List Int)} {e:Ending} {w':World} (h:FrzR r E I ms e w') (hr:r=none):∃ (A:Option Addr) (n k:Nat) (J:PH),e=.returned (.tuple #[.slice A n k,.bool false])/\I.le J/\Sat E J ms w':=by
 subst hr;obtain ⟨A,n,k,J,m,rfl,_,l1,_,_,h⟩:=h;exact ⟨A,n,k,J,rfl,l1,h⟩
theorem FrzR.few {r:Option (List Int)} {l:List Int} {e:Ending} {w':World} (h:FrzR r E I ms e w') (hr:r=some l) (hl:l.length≠3):∃ (A:Option Addr) (n k:Nat) (J:PH),e=.returned (.tuple #[.slice A n k,.bool true])/\((n:Int) != 3)=true/\I.le J/\Sat E J ms w':=by
 subst hr;obtain ⟨A,n,k,J,m,rfl,h1,l1,_,_,h⟩:=h;refine ⟨A,n,k,J,rfl,?_,l1,h⟩;have h2:l.length=n:=h1;rw [kWa];omega
theorem FrzR.three {r:Option (List Int)} {a b c:Int} {e:Ending} {w':World} (h:FrzR r E I ms e w') (hr:r=some [a,b,c]):∃ (X k:Nat) (J:PH),e=.returned (.tuple #[.slice (some ⟨X,0,none⟩) 3 k,.bool true])/\I.le J/\J.at X 0=some (.int .i64 a)/\J.at X 1=some (.int .i64 b)/\J.at X 2=some (.int .i64 c)/\Sat E J ms w':=by
 subst hr;obtain ⟨A,n,k,J,m,rfl,h1,l1,l2,hO,h⟩:=h;have h2:3=n:=h1;subst h2;obtain ⟨X,rfl,hc⟩:=hO.cells (by decide);exact ⟨X,k,J,rfl,l1,PH.at_le l2 (hc 0 _ rfl),PH.at_le l2 (hc 1 _ rfl),PH.at_le l2 (hc 2 _ rfl),h⟩
theorem FrzR.all {r:Option (List Int)} {l:List Int} {e:Ending} {w':World} (h:FrzR r E I ms e w') (hr:r=some l):∃ (A:Option Addr) (n k:Nat) (J:PH),e=.returned (.tuple #[.slice A n k,.bool true])/\I.le J/\IntRo J (.slice A n k) l/\Sat E J ms w':=by
 subst hr;obtain ⟨A,n,k,J,m,rfl,h1,l1,l2,hO,h⟩:=h;have h2:l.length=n:=h1;subst h2;exact ⟨A,_,k,J,rfl,l1,hO.intRo l2,h⟩
theorem cells_of {J:PH} {Z:Nat} {cs:Array Value} {T:TypeId} {z:Nat × Nat} (h:J Z=some (.cells cs T z)):Cells J Z 0 cs.toList:=fun j v hv=>by
 simp only [PH.at,h,jR]
 simpa using hv
theorem wp_bslF {P:Program} {a:Act} {w E:World} {K:Act->World->Prop} {Q:Exit->Act->World->Prop} {I:PH} {ms:List PH} {dst:Option Tmp} {type:TypeId} {pos:String} {after:Array Edge} {g:Option (Nat × Bool)} {T:TypeId} {n:Nat} {parts:Array (Nat × Operand)}
  (hS:Sat E I ms w) {cs:Array Value} {e:TypeId} (hr:∀ w:World,(Instr.buildSlice T n (parts.map fun (i,x)=>(i,a.eval x))).run P w=.ok (.slice (some ⟨w.heap.size,0,none⟩) n n) (w.alloc (.cells cs e)))
  (h:∀ X J w',I.le J->J X=some (.cells cs e (0,0))->Sat E J ms w'->K (a.put dst (.slice (some ⟨X,0,none⟩) n n)) w'):Oper.wp P ⟨dst,.buildSlice T n parts,type,pos,after,g⟩ a w K Q :=
 wp_bsl hS hr fun X w' hS'=>by
  obtain ⟨J,hJ,hm,hS2,_⟩:=hS'.ice;exact h X J w' hJ (hm X _ (PH.one_self _ _)) hS2
def rowS (T:TypeId) (size:Nat) (c:List Nat) (n:Nat) (xs:List Value) (ms:List PH) (s:Nat) (vals:Nat->Value) (_:PH) (ns:List PH):Prop :=
 match s with
 | 0=>ns=ms
 | s+1=>s<c.length/\∃ m',OwnP m' T size (vals (c.getD s 0)) n xs/\ns=ms.set 0 m'
theorem rowS.gst {T:TypeId} {size:Nat} {c:List Nat} {n:Nat} {xs:List Value} {ms:List PH} (s:Nat) (vals vals':Nat->Value) (J:PH) (ns:List PH) (h:∀ j ∈ c.take s,vals j=vals' j) (hg:rowS T size c n xs ms s vals J ns):rowS T size c n xs ms s vals' J ns:=by
 cases s with
 | zero=>exact hg
 | succ s =>
   obtain ⟨h1,m,h2,h3⟩:=hg;refine ⟨h1,m,?_,h3⟩;rw [<- h (c.getD s 0)]
   . exact h2
   . rw [yD,yA h1]
     exact List.mem_take_iff_getElem.2 ⟨s,by omega,rfl⟩
theorem rowS.gle {T:TypeId} {size:Nat} {c:List Nat} {n:Nat} {xs:List Value} {ms:List PH} (s:Nat) (vals:Nat->Value) (J J':PH) (ns:List PH) (_:PH.le J J') (hg:rowS T size c n xs ms s vals J ns):rowS T size c n xs ms s vals J' ns:=hg
def ReadF (r:Option (List G.Rw3 × List Int)) (code:Int) (E:World) (I:PH) (ms:List PH) (e:Ending) (w':World):Prop:=∃ (u v:Value) (J:PH),e=.returned (.tuple #[u,v,.int .i64 (if r.isSome then 0 else code)])/\I.le J/\Row3R J u (r.getD ([],[])).1/\IntRo J v (r.getD ([],[])).2/\Sat E J ms w'
theorem Kj {code:Int} {e:Ending} {w':World} {r:Option (List G.Rw3 × List Int)} (hr:r=none) (he:e=.returned (.tuple #[.slice none 0 0,.slice none 0 0,.int .i64 code])) {J:PH} (hJ:I.le J) (hS:Sat E J ms w'):ReadF r code E I ms e w':=by
 subst hr;exact ⟨_,_,J,he,hJ,.inl ⟨rfl,rfl⟩,⟨none,0,rfl,fun h=>absurd h (by decide)⟩,hS⟩
theorem readO_last (hi:Int):∀ (ls:List (List Nat)) (rows:List G.Rw3),ls.getLast?≠some []->Kr hi ls rows=none
 | [],rows,_=>rfl
 | [l],rows,_=>rfl
 | l::l2::rest,rows,h=>by
   rw [Kr];rw [List.getLast?_cons_cons] at h;by_cases c:(Qw 32 l).head?=some Xu
   . rw [jAa c,jAb fun c2=>by rw [c2.1,c2.2] at h;exact h rfl]
   . rw [jAb c]
     cases rowO hi l with
     | none=>rfl
     | some r=>exact readO_last hi (l2::rest) _ h
theorem readO_step (hi:Int) {L:List (List Nat)} {i:Nat} {a:List Nat} (h:L[i]?=some a) (hn:i+2<L.length) (rows:List G.Rw3):Kr hi (L.drop i) rows=(rowO hi a).bind fun r=>Kr hi (L.drop (i+1)) (rows ++ [r]):=by
 have h0:=yE.1 h;rw [jHa h0.1,h0.2,jHa (show i+1<L.length by omega),jHa hn,readO_row]
theorem rowO_three {hi:Int} {x:List Nat} {a b c:Int} (h:Qy hi (Qw 32 x)=some [a,b,c]):rowO hi x=some ⟨a,b,c⟩:=by unfold rowO;rw [h]
theorem rowO_none {hi:Int} {x:List Nat} (h:Qy hi (Qw 32 x)=none):rowO hi x=none:=by unfold rowO;rw [h]
theorem rowO_few {hi:Int} {x:List Nat} {l:List Int} (h:Qy hi (Qw 32 x)=some l) (hl:l.length≠3):rowO hi x=none:=by
 unfold rowO;rw [h]
 match l,hl with
 | [],_=>rfl
 | [_],_=>rfl
 | [_,_],_=>rfl
 | [_,_,_],hl=>exact absurd rfl hl
 | _::_::_::_::_,_=>rfl
theorem numsO_fit {hi:Int}:∀ {ws:List (List Nat)} {xs:List Int},Qy hi ws=some xs->∀ x ∈ xs,0<=x/\x<=hi
 | [],xs,h,x,hx=>by
   injection h with h
   subst h;cases hx
 | w::ws,xs,h,x,hx=>by
   rw [Qy] at h;cases hn:numO hi w with
   | none=>rw [hn] at h;cases h
   | some y =>
     rw [hn] at h;simp only at h;cases hs:Qy hi ws with
     | none=>rw [hs] at h;cases h
     | some ys =>
       rw [hs] at h;simp only [Option.map_some,jEb] at h;subst h;rcases jBa.1 hx with rfl|hx
       . unfold numO at hn
         split at hn
         . rename_i hc
           injection hn with hn
           omega
         . cases hn
       . exact numsO_fit hs x hx
theorem numsO_len {hi:Int}:∀ {ws:List (List Nat)} {xs:List Int},Qy hi ws=some xs->xs.length=ws.length
 | [],xs,h=>by injection h with h;subst h;rfl
 | w::ws,xs,h=>by
   rw [Qy] at h;cases hn:numO hi w with
   | none=>rw [hn] at h;cases h
   | some y =>
     rw [hn] at h;simp only at h;cases hs:Qy hi ws with
     | none=>rw [hs] at h;cases h
     | some ys =>
       rw [hs] at h;simp only [Option.map_some,jEb] at h;subst h;rw [yB,yB,numsO_len hs]
theorem splC_pos (c:Nat) (l:List Nat):0<(Qw c l).length:=by
 by_cases h:c ∈ l
 . obtain ⟨a,b,rfl,ha⟩:=first_cut c l h
   rw [splC_hit c b a ha];simp
 . rw [splC_miss c l h]
   simp
theorem three_of {l:List Int} (h:l.length=3):∃ a b c,l=[a,b,c]:=by
 match l,h with
 | [a,b,c],_=>exact ⟨a,b,c,rfl⟩
theorem dnumF {v:Value} {ws:List ByteArray} (hv:WdRo I v ws) (hsz:∀ s ∈ ws,s.size<=70000) (hlen:ws.length<=100000) (hS:Sat E I ms w) :
 Calls Tryz.prog 22 #[v] w fun e w'=>FrzR (Qy 8193 (ws.map lst)) E I ms e w':=(dnumbers_any hv hsz hlen hS).mono fun e w' h=>h.frz
theorem rnumF {v:Value} {ws:List ByteArray} (hv:WdRo I v ws) (hsz:∀ s ∈ ws,s.size<=70000) (hlen:ws.length<=100000) (hS:Sat E I ms w) :
 Calls Tryz.prog 25 #[v] w fun e w'=>FrzR (Qy 1099511627776 (ws.map lst)) E I ms e w':=(rnumbers_any hv hsz hlen hS).mono fun e w' h=>h.frz
theorem rwordsF (s:ByteArray) (hs:s.size<=70000) (hS:Sat E I ms w) :
  Calls Tryz.prog 24 #[.string s] w fun e w'=>∃ (A:Option Addr) (n k:Nat) (J:PH) (ps:List ByteArray),e=.returned (.slice A n k)/\ps.length=n/\n<=k/\I.le J/\WdRo J (.slice A n k) ps/\ps.map lst=Qw 32 (lst s)/\Sat E J ms w':=by
 refine (rwords_any s hs hS).mono ?_;rintro e w' ⟨v,m,ps,rfl,hO,hp,h⟩;obtain ⟨J,l1,l2,h2,_⟩:=h.ice;obtain ⟨A,c,rfl,hc⟩:=hO.shape;exact ⟨A,_,c,J,ps,rfl,rfl,hc,l1,hO.wdRo l2,hp,h2⟩
end
end
end Go.Proofs.YtidamcdklgfogaaGreatDoor
