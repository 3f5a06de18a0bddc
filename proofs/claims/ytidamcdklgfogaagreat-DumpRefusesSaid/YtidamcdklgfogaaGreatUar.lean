import Derived.Test.YtidamcdklgfogaaGreatUaq
import Derived.Laws.CopyOwn
set_option linter.unusedVariables false
set_option linter.unusedSimpArgs false
set_option maxRecDepth 1000000
set_option maxHeartbeats 40000000
namespace Go.Proofs.YtidamcdklgfogaaGreat
section
open Go.RowKit
section
variable{P:Program} {o:Oper} {a:Act} {w E:World} {Q:Exit->Act->World->Prop} {I:PH} {ms:List PH} {ops:Array Oper} {rest:List Oper}
theorem cpyR(k:Nat)(hS:Sat E I ms w)(hg:o.guard=none){cur:Array Value}{T':TypeId}{X n c:Nat}(hm:ms[k]?=some (PH.one X (.cells cur T')))(hcn:cur.size=n){d s:Operand}{dT sT:TypeId}(ho:o.op=.call { callee:=.builtin .copy,args := #[d,s],argTypes := #[dT,sT] })
  {elem:TypeId}(hu:P.underlying dT=some (.slice elem))(hsz:(P.info? elem).map (·.size)=some 1)(hd:a.eval d=.slice (some ⟨X,0,none⟩) n c){A:Option Addr}{c2:Nat}(hs:a.eval s=.slice A n c2){p:PH}(hp:Src I ms p){news:List Value}(hl:news.length=n)(hnews:0<n->∃Y off,A=some ⟨Y,off,none⟩/\Cells p Y off news)(h1:∀v∈news,v.oneCell'=true)
  (h:∀w',Sat E I (ms.set k (PH.one X (.cells news.toArray T'))) w'->wpList P ops Q rest (a.put o.dst (goInt n)) w'):wpList P ops Q (o::rest) a w:=by
 have h0:=hS.perm (Kd k hm);have hgd:=h0.own _ (.head _) X _ (PH.one_self _ _);rcases kQb n with hn|hn
 . subst hn
   have e1:news=[]:=jQb hl;have e2:cur = #[]:=Array.eq_empty_of_size_eq_zero hcn;subst e1 e2;refine wpList_copy_nothing hg d s dT sT ho elem hu hsz _ A 0 c 0 c2 hd hs rfl (h w ?_);exact h0.perm (Kl k hm)
 . obtain⟨Y,off,rfl,hc⟩:=hnews hn
   refine wpList_copy_own hg d s dT sT ho elem hu hsz X 0 n c ⟨Y,off,none⟩ n c2 hd hs cur T' hgd news (by rw[hl];exact (Nat.min_self n).symm) (λj v hj=>?_) (by rw[hl,hcn,jLb];exact jBb _) h1 ?_
   . have:=Ql (hS.src hp) (hc j v hj)
     rwa [show (⟨Y,off,none⟩:Addr).add j=⟨Y,off+j,none⟩ by unfold Addr.add;split <;> simp_all]
   . rw[hl]
     refine h _ ?_;have e:cur.toList.take 0++(news++cur.toList.drop (0+news.length))=news:=by
      rw[List.take_zero,List.nil_append,kVa (by rw[hl,jLb];simp[hcn]),jZb]
     rw[hl] at e;rw[e];exact (setRow_step h0).perm (Kl k hm)
end
theorem isCopyB{P:Program}{a:Act}{w:World}{Q:Exit->Act->World->Prop}{ops:Array Oper}{rest:List Oper}{dst:Option Tmp}{type:TypeId}{pos:String}{after:Array Edge}{x y:Operand}{t u:TypeId}(h:wpList P ops Q (⟨dst,.call { callee:=.builtin .copy,args := #[x,y],argTypes := #[t,u] },type,pos,after,none⟩::rest) a w):wpList P ops Q (⟨dst,.call { callee:=.builtin .copy,args := #[x,y],argTypes := #[t,u] },type,pos,after,none⟩::rest) a w:=h
theorem int_size:(Tryz.prog.info? 3).map (·.size)=some 1:=by kernel_rfl
theorem NumR.cells{I:PH}{A:Option Addr}{c:Nat}{l:List Nat}(h:NumR I (.slice A l.length c) l):0<l.length->∃Y off,A=some ⟨Y,off,none⟩/\Cells I Y off (l.flatMap ivC):=λhn=>by
 obtain⟨Y,c',hv,hc⟩:=h.2 hn;injection hv with e1 _ e2
 refine⟨Y,0,e1,λj v hj=>?_⟩;have he:∀l:List Nat,l.flatMap ivC=l.map nv:=λl=>by
  induction l with
  | nil=>rfl
  | cons x l ih=>rw[jMb,ih];rfl
 rw[he,jO] at hj;cases hx:l[j]? with
 | none=>rw[hx] at hj;cases hj
 | some x =>
   rw[hx] at hj;cases hj;rw[jLb];exact hc j x hx
theorem iv_all(l:List Nat):∀v∈l.flatMap ivC,v.oneCell'=true:=λv hv=>by
 obtain⟨x,_,hx⟩:=kU.1 hv;simp only[ivC,jKb] at hx;subst hx;rfl
theorem iv_length(l:List Nat):(l.flatMap ivC).length=l.length:=by rw[Ks Kt,jG]
theorem pclone_any{w:World}{v:Value}{l:List Nat}(hl:NumR (Qa w) v l)(hn:l.length<=1000000) :
  Calls Tryz.prog 161 #[v] w λe w'=>∃X,e=.returned (.slice (some ⟨X,0,none⟩) l.length l.length)/\Sat w (Qa w) [PH.one X (.cells (l.flatMap ivC).toArray 3)] w':=by
 obtain⟨⟨A,c,rfl⟩,_⟩:=id hl;have HC:=yH hl.cells;have HL:=yH (iv_length l);have HA:=yH (iv_all l);clear hl;have hS:=Sat.start w;generalize l.flatMap ivC=xs at *
 generalize l.length=n at *
 go_enter Tryz.func161,Tryz.ntmps161;go_wp2_with (first|((with_reducible refine isMake ?_);refine mks hS rfl rfl Tryz.underlying23 Ko rfl rfl rfl rfl (jBb _) (by omega) (by omega) ?_;clear hS;intro X w hS;generalize hmc:madeCells _ _=mc at hS;have HM:=yH hmc;clear hmc;refine aM ?_)|((with_reducible refine isCopyB ?_);refine cpyR 0 hS rfl rfl (by rw[<- HM.out,size_madeCells,jG]) rfl Tryz.underlying23 int_size rfl rfl (.inl (PH.le.refl _)) HL.out HC.out HA.out ?_;clear hS;intro w hS;(try simp only[zG] at hS);refine aM ?_))
 go_ret;exact⟨X,rfl,hS⟩
theorem sindex_any{w:World}{v:Value}{l:List Nat}(hl:NumR (Qa w) v l)(hn:l.length<=1000000)(x:Nat)(hx:x∈l) :
  Calls Tryz.prog 162 #[v,nv x] w λe w'=>e=.returned (nv (l.idxOf x))/\w=w':=by
 obtain⟨⟨A,c,rfl⟩,hr⟩:=hl;have hS:=Sat.start w;have HR:=yH hr;have hlt:=List.idxOf_lt_length_iff.2 hx;have hget:l[l.idxOf x]?=some x:=by rw[yA hlt,List.getElem_idxOf]
 have hbef:∀i,i<l.idxOf x->l[i]?≠some x:=λi hi h=>by
  have:=List.not_of_lt_findIdx (p:=λy=>y==x) (xs:=l) (i:=i) hi;have hil:i<l.length:=by omega
  rw[yA hil] at h;injection h with h
  rw[h] at this;simp at this
 have HG:=yH hget;have HB:=yH hbef;clear hr hx hget hbef;generalize hN:l.length=N at *
 have HLn:=yH hN;generalize l.idxOf x=ix at *
 clear hN;go_enter Tryz.func162,Tryz.ntmps162;go_wp2_with fail
 go_loopw [8] (λv8 wr=>∃i:Nat,i<=ix/\v8=.int .i64 (i:Int)/\wr=w) (λv8 _=>(N-intOf v8).toNat)
 case atStart=>exact⟨0,jC _,rfl,rfl⟩
 case round =>
  obtain⟨i,hi,rfl,rfl⟩:=hrel;have hiN:(i:Int)<(N:Int):=by omega
  obtain⟨Y,c',hY,hcell⟩:=HR.out (by omega);injection hY with hA hB hC
  subst hA hC;obtain⟨y,hy⟩:∃y,l[i]?=some y:=⟨_,yA (by rw[HLn.out];omega)⟩;have hcell:=hcell i _ hy;by_cases he:i=ix
  . subst he
    rw[HG.out] at hy;cases hy;go_wp2_with (first|(refine aL ?_))
    go_ret;exact⟨rfl,rfl⟩
  . have hne:y≠x:=λh=>HB.out i (by omega) (by rw[hy,h])
    have d1:((x:Int)==(y:Int))=false:=by simp;omega
    clear hne hy;go_wp2_with (first|(refine aL ?_))
    exact⟨⟨i+1,by omega,by go_num,trivial⟩,by simp[intOf];omega⟩
theorem rev_step{l:List Nat}{n i:Nat}{r:List Nat}(hn:l.length=n)(hr:r.length=n)(hi:2*i+1<n)(h:∀k,k<n->r[k]?=if k<i\/n-1-i<k then l[n-1-k]? else l[k]?){x y:Nat}(hx:r[i]?=some x)(hy:r[n-1-i]?=some y) :
  ∀k,k<n->((r.set i y).set (n-1-i) x)[k]?=if k<i+1\/n-1-(i+1)<k then l[n-1-k]? else l[k]?:=λk hk=>by
 have hx':=h i (by omega);have hy':=h (n-1-i) (by omega);rw[jAa (by omega)] at hx' hy';rw[kNb,kNb];by_cases e1:n-1-i=k
 . rw[jAb e1,jAb (by simp;omega),jAb (by omega)]
   rw[show n-1-k=i by omega,<- hx',hx]
 . rw[jAa e1]
   by_cases e2:i=k
   . rw[jAb e2,jAb (by omega),jAb (by omega)]
     rw[<- e2,<- hy',hy]
   . rw[jAa e2,h k hk]
     by_cases e3:k<i\/n-1-i<k
     . rw[jAb e3,jAb (by omega)]
     . rw[jAa e3,jAa (by omega)]
theorem rev_end{l r:List Nat}{n i:Nat}(hn:l.length=n)(hr:r.length=n)(hi:n<=2*i+1)(h:∀k,k<n->r[k]?=if k<i\/n-1-i<k then l[n-1-k]? else l[k]?):r=l.reverse:=by
 apply kEb;intro k;rcases jYb k n with hk|hk
 . rw[h k hk,List.getElem?_reverse (by omega),hn]
   by_cases e:k<i\/n-1-i<k
   . rw[jAb e]
   . rw[jAa e,show n-1-k=k by omega]
 . rw[jJ (by omega),jJ (by simp;omega)]
theorem sreverse_any{E w:World}{I m:PH}{ms:List PH}{X n c:Nat}{l:List Nat}(hO:OwnP m 3 1 (.slice (some ⟨X,0,none⟩) n c) n (l.flatMap ivC))(hl:l.length=n)(hn:n<=1000000)(hS:Sat E I (m::ms) w) :
  Calls Tryz.prog 163 #[.slice (some ⟨X,0,none⟩) n c] w λe w'=>e=.returned (.tuple #[])/\∃m',OwnP m' 3 1 (.slice (some ⟨X,0,none⟩) n c) n (l.reverse.flatMap ivC)/\Sat E I (m'::ms) w':=by
 have HO:=yH hO;have HL:=yH hl;clear hO hl;go_enter Tryz.func163,Tryz.ntmps163;go_wp2_with fail
 go_loopw [2,3] (λv2 v3 wr=>∃(i:Nat) (z:Int) (r:List Nat) (m:PH),2*i<=n+1/\v2=.int .i64 (i:Int)/\v3=.int .i64 z/\z=(n:Int)-1-i/\r.length=n/\(∀k,k<n->r[k]?=if k<i\/n-1-i<k then l[n-1-k]? else l[k]?)/\OwnP m 3 1 (.slice (some ⟨X,0,none⟩) n c) n (r.flatMap ivC)/\Sat E I (m::ms) wr) (λv2 _ _=>(n-intOf v2).toNat)
 case atStart=>exact⟨0,_,l,m,by omega,rfl,rfl,by simp,HL.out,λk hk=>by rw[jAa (by omega)],HO.out,hS⟩
 case round =>
  clear HO hS;obtain⟨i,z,r,m,hi,rfl,rfl,hz,hr,hk,hO,hS⟩:=hrel;by_cases hlt:2*i+1<n
  . obtain⟨j,rfl⟩:∃j:Nat,z=(j:Int):=⟨z.toNat,by omega⟩
    have hjn:n-1-i=j:=by omega
    obtain⟨x,hx⟩:∃x,r[i]?=some x:=⟨_,yA (by omega)⟩;obtain⟨y,hy⟩:∃y,r[j]?=some y:=⟨_,yA (by omega)⟩;have hst:=rev_step HL.out hr hlt hk hx (by rw[hjn];exact hy);rw[hjn] at hst;have HSt:=yH hst;clear hst;have cX:Cells m X i (ivC x):=by have:=Qs Kt hO hx;rwa [jG] at this
    have cY:Cells m X (j) (ivC y):=by have:=Qs Kt hO hy;rwa [jG] at this
    have pX:m.at X i=some (nv x):=cX.at 0 rfl;have pY:m.at X (j)=some (nv y):=cY.at 0 rfl;have h1:∀m',OwnP m' 3 1 (.slice (some ⟨X,0,none⟩) n c) n (spl (r.flatMap ivC) i (Value.cells (nv y)).toList)->OwnP m' 3 1 (.slice (some ⟨X,0,none⟩) n c) n ((r.set i y).flatMap ivC):=λm' h=>own_set (by omega) h
    have h2:∀m',OwnP m' 3 1 (.slice (some ⟨X,0,none⟩) n c) n (spl ((r.set i y).flatMap ivC) (j) (Value.cells (nv x)).toList)->OwnP m' 3 1 (.slice (some ⟨X,0,none⟩) n c) n (((r.set i y).set (j) x).flatMap ivC):=λm' h=>own_set (by simp;omega) h
    have H1:=yH h1;have H2:=yH h2;have HO:=yH hO;have hrl:=yH (show ((r.set i y).set (j) x).length=n by simpa using hr);generalize ((r.set i y).set (j) x)=r2 at *
    generalize (r.set i y)=r1 at *
    have hj:j<n:=by omega
    have hii:i<n:=by omega
    have hij:(i:Int)<(j:Int):=by omega
    have jN:(j:Int)<(n:Int):=by omega
    have j0:(0:Int)<(j:Int):=by omega
    have iN:(i:Int)<(n:Int):=by omega
    clear hx hy cX cY h1 h2 hO hk hr;have HJ:=yH hz;clear hz hjn;go_wp2_with fail
    refine Qf [[],[],[],[],[],[],[4,5],[4,5,6],[],[],[8,9],[8,9,10],[0,1,4,5,6,7,8,9,10,11],[0,1,4,5,6,7,8,9,10,11,12],[0,1,2,3,4,5,6,7,8,9,10,11,12,13],[0,1,2,3,4,5,6,7,8,9,10,11,12,13,14]] E I _
     [λv _=>v=.slice (some ⟨X,0,none⟩) n c,λv _=>v=nv i,λv _=>v=.slice (some ⟨X,0,none⟩) n c,λv _=>v=nv j,λv _=>v=.slice (some ⟨X,0,none⟩) n c,λv _=>v=nv j,λv _=>v=.pointer (some ⟨X,j,none⟩),λv _=>v=nv y,λv _=>v=.slice (some ⟨X,0,none⟩) n c,λv _=>v=nv i,λv _=>v=.pointer (some ⟨X,i,none⟩),λv _=>v=nv x,λv _=>v=.pointer (some ⟨X,i,none⟩),λ_ _=>True,λv _=>v=.pointer (some ⟨X,j,none⟩),λ_ _=>True] [13,15]
     (set2G _ 0 0 (λm'=>OwnP m' 3 1 (.slice (some ⟨X,0,none⟩) n c) n (r1.flatMap ivC)) (λm'=>OwnP m' 3 1 (.slice (some ⟨X,0,none⟩) n c) n (r2.flatMap ivC))) (by kernel_rfl) (by kernel_rfl) (by decide) hS rfl ?last (λ_ _ _ _ _ _ h=>h) (λ_ _ _ _ _ _ h=>h) ?plain ?step ?fin
    case last=>exact bL
    case plain=>(repeat' (first|exact trivial|apply And.intro)) <;> first|exact .inl rfl|(refine .inr ?_;intro s vals J bs w hstop hg hJ hS hG;have h0:s<=0:=hstop;obtain rfl:s=0:=kQa.1 h0;have hG:bs=_:=hG;subst hG;refine bS ?_;intro K HK;((with_reducible refine atLoad ?_);(refine' wp_ld1 (v:=_) (hS.mle (k:=0) rfl) rfl ?ha rfl ?hc ?_);(case ha=>first|exact Qh);(case hc=>assumption));exact bO)|(refine .inr ?_;intro s vals J bs w hstop hg hJ hS hG;clear hG;refine bS ?_;intro K HK;( (go_wp2_with (fail)));exact bO)
    case step =>
     refine⟨⟨trivial,?_⟩,?_⟩
     . intro vals J bs w hg hJ hS hG
       have hG:bs=_:=hG;subst hG;refine bS ?_;intro K HK;refine Zz (i:=i) hS 0 rfl rfl rfl rfl HO.out (jG i).symm hii Yg rfl (iv_one y) λm' w hO' hS=>?_
       exact HK.out _ _ ⟨rfl,J,_,PH.le.refl _,hS,trivial,m',H1.out _ hO',rfl⟩
     . intro vals J bs w hg hJ hS hG
       refine Veil.out ?_;obtain⟨mm,hmm,hG⟩:=hG;subst hG;refine⟨?_⟩;refine bS ?_;intro K HK;refine Zz (i:=j) hS 0 rfl rfl rfl rfl hmm (jG j).symm hj Yg rfl (iv_one x) λm' w hO' hS=>?_
       exact HK.out _ _ ⟨rfl,J,_,PH.le.refl _,hS,trivial,mm,m',hmm,H2.out _ hO',rfl⟩
    case fin =>
     intro vals J9 bs w hJ hg hS hG;obtain⟨_,m2,_,hO2,hns⟩:=hG;subst hns;have hS:=hS.less hJ;simp only[zG] at hS;have HO2:=yH hO2;clear hO2 hJ;refine bH ?_;clear hg pX pY;go_wp2_with fail
     exact⟨⟨i+1,_,r2,m2,by omega,by go_num,rfl,by have:=HJ.out;omega,hrl.out,HSt.out,HO2.out,hS⟩,by simp[intOf];omega⟩
  . have hN:=rev_end HL.out hr (by omega) hk
    have hd:¬((i:Int)<z):=by omega
    clear hz;subst hN;go_wp2_with fail
    go_end0
    exact⟨rfl,m,hO,hS⟩
end
section
open Go.RowKit
def isArr(s:Nat->Bool):Array Value:=((List.range 64).map λj=>Value.bool (s j)).toArray
theorem ty_z251:Xh Tryz.prog 251=some (.agg (isArr λ_=>false)):=by kernel_rfl
theorem isArr_size(s:Nat->Bool):(isArr s).size=64:=by simp[isArr]
theorem isArr_set(s:Nat->Bool)(v:Nat):(isArr s).setIfInBounds v (.bool true)=isArr (λj=>s j||decide (j=v)):=by
 apply Array.ext
 . simp[isArr]
 . intro i h1 h2
   simp only[isArr,zE,List.getElem_toArray,List.getElem_set,List.getElem_map,List.getElem_range];by_cases h:v=i
   . subst h;simp
   . rw[jAa h]
     simp[Ne.symm h]
theorem isArr_get(s:Nat->Bool)(k:Nat)(h:k<64):(isArr s).toList[k]?=some (.bool (s k)):=by
 simp[isArr,h]
theorem pturn_any{w:World}{v:Value}{l:List Nat}(hl:NumR (Qa w) v l)(hn:l.length<=1000000) :
  Calls Tryz.prog 151 #[v] w λe w'=>∃X m,e=.returned (.slice (some ⟨X,0,none⟩) l.length l.length)/\OwnP m 3 1 (.slice (some ⟨X,0,none⟩) l.length l.length) l.length (l.reverse.flatMap ivC)/\Sat w (Qa w) [m] w':=by
 obtain⟨⟨A,c,rfl⟩,_⟩:=id hl;have HC:=yH (pclone_any hl hn);have HO:=yH (λX=>OwnP.lit X 3 1 l.length (l.flatMap ivC).toArray (by unfold maxLen;omega) (by rw[jS,iv_length,jG]));have HR:=yH (λ(E w':World) (I m:PH) (X:Nat) (hO:OwnP m 3 1 (.slice (some ⟨X,0,none⟩) l.length l.length) l.length (l.flatMap ivC)) (hS:Sat E I [m] w')=>sreverse_any (c:=l.length) hO rfl hn hS);clear hl;generalize l.length=n at *
 generalize l.flatMap ivC=xs at *
 generalize l.reverse.flatMap ivC=ys at *
 go_enter Tryz.func151,Tryz.ntmps151;go_wp2_with (first|(go_at_call 161;(with_reducible refine yI HC.out ?_);rintro e w1 ⟨X,rfl,hS⟩)|(go_at_call 163;(with_reducible refine bD (HR.out _ _ _ _ _ (HO.out X) hS) ?_);clear hS;intro w1 m HO1 hS))
 go_ret;exact⟨X,m,rfl,HO1.out,hS⟩
theorem pright_any{W:World}{v:Value}{l:List Nat}(hl:NumR (Qa W) v l)(hn:l.length<=64)(hp:∀x∈l,x<l.length)(hd:l.Nodup) :
  Calls Tryz.prog 160 #[v] W λe w'=>e=.returned (.bool true)/\Below W.heap.size W w':=by
 obtain⟨⟨A,c,rfl⟩,hr⟩:=hl;have hS:=Sat.start W;have HR:=yH hr;have hmet:∀i x,l[i]?=some x->x<l.length/\x∉l.take i/\∀y,decide (y∈l.take (i+1))=(decide (y∈l.take i)||decide (y=x)):=λi x hx=>by
  refine⟨hp x (jCb hx),λhm=>?_,λy=>?_⟩
  . obtain⟨k,hk⟩:=List.mem_iff_getElem?.1 hm
    rw[kH] at hk;split at hk
    . obtain⟨h1,e1⟩:=yE.1 hk
      obtain⟨h2,e2⟩:=yE.1 hx;exact qBa.1 hd k i h1 h2 (by assumption) (by rw[e1,e2])
    . cases hk
  . rw[jR,hx]
    simp[Bool.decide_or]
 have HM:=yH hmet;clear hr hp hd hmet;generalize hN:l.length=N at *
 have HLn:=yH hN;clear hN;go_enter Tryz.func160,Tryz.ntmps160;go_wp2_with fail
 go_loopw [3] (λv3 wr=>∃b:Nat,(b=0\/b=64)/\v3=.int .i64 (b:Int)/\Sat W (Qa W) [] wr) (λv3 _=>(64-intOf v3).toNat)
 case atStart=>exact⟨0,.inl rfl,rfl,hS⟩
 case round =>
  clear hS;obtain⟨b,hb,rfl,hS⟩:=hrel;by_cases hlt:b<N
  . obtain rfl:b=0:=by omega
    have h0:(0:Int)<(N:Int):=by omega
    have HZ:=yH (show isArr (λ_=>false)=isArr (λy=>decide (y∈l.take 0)) by congr 1);simp only[Int.natCast_zero] at *
    go_wp2_with (first|((with_reducible refine Qu ?_);  ((with_reducible refine Xi 4 ?_);(refine' al (z:=_) hS rfl rfl ?ha ?_);(case ha=>exact ty_z251);clear hS;intro X4 w hS;(try simp only[Value.cells] at hS);refine aM ?_) ))
    go_loopw [16] (λv16 wr=>∃i:Nat,i<=N/\v16=.int .i64 (i:Int)/\Sat W (Qa W) [PH.one X4 (.cells (isArr λy=>decide (y∈l.take i)) 251)] wr) (λv16 _=>(N-intOf v16).toNat)
    case atStart=>exact⟨0,jC _,rfl,by rw[<- HZ.out];exact hS⟩
    case round =>
     clear hS;obtain⟨i,hi,rfl,hS⟩:=hrel;by_cases hlt2:i<N
     . obtain⟨x,hx⟩:∃x,l[i]?=some x:=⟨_,yA (by rw[HLn.out];exact hlt2)⟩
       obtain⟨hxn,hxt,hxs⟩:=HM.out i x hx;obtain⟨Y,c',hY,hcell⟩:=HR.out (by omega);injection hY with hA hB hC
       subst hA hC;have hcell:=hcell i _ hx;have hiN:(i:Int)<(N:Int):=by omega
       have x0:¬((x:Int)<0):=by omega
       have x1:¬((x:Int)≥(N:Int)):=by omega
       have x2:(x:Int)<64:=by omega
       have x3:x<64:=by omega
       have x4:(x:Int)≥0:=by omega
       have hc:(PH.one X4 (.cells (isArr λy=>decide (y∈l.take i)) 251)).at X4 x=some (.bool false):=Qb (by rw[isArr_get _ x x3,jVa hxt]);have HB:=yH (show x<(isArr λy=>decide (y∈l.take i)).size by rw[isArr_size];exact x3);have he:(isArr λy=>decide (y∈l.take i)).setIfInBounds x (.bool true)=isArr λy=>decide (y∈l.take (i+1)):=by
        rw[isArr_set];congr 1
        funext y
        exact (hxs y).symm
       have HE:=yH he;clear he hxs hxt hx hxn;generalize (isArr λy=>decide (y∈l.take i))=arr at *
       go_wp2_with (first|((with_reducible refine Xa ?_);(refine st1 0 hS rfl rfl rfl rfl rfl ty_sz4 rfl rfl HB.out ?_;clear hS;intro w hS;simp only[zG] at hS;(try simp only[Act.put])))|((with_reducible refine Qe ?_);(refine' Xx (v:=_) (.inr (List.Mem.head _)) hS rfl rfl ty_agg4 rfl hc ?_);refine aM ?_)|(refine aG ?_)|(refine aL ?_))
       exact⟨⟨i+1,by omega,by go_num,by rw[<- HE.out];exact hS⟩,by simp[intOf];omega⟩
     . obtain rfl:i=N:=by omega
       go_wp2_with fail
       exact⟨⟨64,.inr rfl,rfl,hS.drop⟩,by simp[intOf]⟩
  . have hbN:¬((b:Int)<(N:Int)):=by omega
    go_wp2_with fail
    go_ret;exact⟨rfl,hS.end_ (PH.le.refl _)⟩
end
section
open Go.RowKit
theorem mv_step:∀(at_:Nat) (L:List Nat) (v x:Nat),L[at_]?=some x->((L.insertIdx (at_+1) v).set at_ v).set (at_+1) x=L.insertIdx at_ v
 | 0,[],_,_,h=>by cases h
 | 0,y::t,v,x,h=>by
   simp only[zB,jEa] at h;subst h;simp
 | k+1,[],_,_,h=>by cases h
 | k+1,y::t,v,x,h=>by
   rw[zA] at h
   have:=mv_step k t v x h;simp only[List.insertIdx_succ_cons,zF,this]
theorem mv_zero:∀(i:Nat) (l:List Nat) (v:Nat),l[i]?=some v->(l.eraseIdx i).insertIdx i v=l
 | 0,[],_,h=>by cases h
 | 0,y::t,v,h=>by
   simp only[zB,jEa] at h;subst h;simp
 | k+1,[],_,h=>by cases h
 | k+1,y::t,v,h=>by
   rw[zA] at h;rw[List.eraseIdx_cons_succ,List.insertIdx_succ_cons,mv_zero k t v h]
theorem mv_at:∀(i:Nat) (L:List Nat) (v:Nat),i<=L.length->(L.insertIdx i v)[i]?=some v
 | 0,L,v,_=>by simp
 | k+1,[],v,h=>by simp at h
 | k+1,y::t,v,h=>by
   rw[List.insertIdx_succ_cons,zA];exact mv_at k t v (by simpa using h)
theorem mv_lt:∀(i j:Nat) (L:List Nat) (v:Nat),j<i->(L.insertIdx i v)[j]?=L[j]?
 | 0,j,_,_,h=>by omega
 | k+1,j,[],v,h=>by simp
 | k+1,0,y::t,v,h=>by simp
 | k+1,j+1,y::t,v,h=>by
   rw[List.insertIdx_succ_cons,zA,zA];exact mv_lt k j t v (by omega)
theorem mv_take{l b:List Nat}{i idx v:Nat}(ht:l.take i=b.take i)(hi:i<=idx)(hidx:idx<l.length)(hb:b[i]?=some v):(((l.eraseIdx idx).insertIdx i v)).take (i+1)=b.take (i+1):=by
 apply kEb;intro k;rw[kH,kH];by_cases hk:k<i+1
 . rw[jAb hk,jAb hk]
   by_cases hki:k=i
   . subst hki
     rw[mv_at _ _ _ (by rw[kEa hidx];omega),hb]
   . rw[mv_lt _ _ _ _ (by omega),List.getElem?_eraseIdx,jAb (by omega)]
     have:=jNa (λz=>z[k]?) ht;simp only[kH] at this
     rwa [jAb (by omega),jAb (by omega)] at this
 . rw[jAa hk,jAa hk]
theorem mem_erase:∀(i:Nat) (l:List Nat) (v y:Nat),l[i]?=some v->(y=v\/y∈l.eraseIdx i↔y∈l)
 | 0,[],_,_,h=>by cases h
 | 0,x::t,v,y,h=>by
   simp only[zB,jEa] at h;subst h;simp
 | k+1,[],_,_,h=>by cases h
 | k+1,x::t,v,y,h=>by
   rw[zA] at h
   have:=mem_erase k t v y h;rw[List.eraseIdx_cons_succ,jBa,jBa,<- this];constructor
   . rintro (h1|h1|h1)
     . exact .inr (.inl h1)
     . exact .inl h1
     . exact .inr (.inr h1)
   . rintro (h1|h1|h1)
     . exact .inr (.inl h1)
     . exact .inl h1
     . exact .inr (.inr h1)
theorem mv_mem{l:List Nat}{i idx v y:Nat}(hv:l[idx]?=some v)(hi:i<l.length):y∈(l.eraseIdx idx).insertIdx i v↔y∈l:=by
 have hlt:=(yE.1 hv).1;rw[List.mem_insertIdx (by rw[kEa hlt];omega)];exact mem_erase idx l v y hv
theorem mv_len{l:List Nat}{i idx v:Nat}(hi:i<l.length)(hlt:idx<l.length):((l.eraseIdx idx).insertIdx i v).length=l.length:=by
 rw[kSb (by rw[kEa hlt];omega),kEa hlt];omega
theorem down_range(i idx:Nat)(h:i<=idx):G.downTo i (idx-i)=(List.range (idx-i)).map λk=>idx-1-k:=by
 unfold G.downTo;apply jXb;intro k hk;rw[jVb] at hk;omega
theorem idx_get{l:List Nat}{x:Nat}(hx:x∈l):l[l.idxOf x]?=some x/\l.idxOf x<l.length:=by
 have hlt:=List.idxOf_lt_length_iff.2 hx;exact⟨by rw[yA hlt,List.getElem_idxOf],hlt⟩
theorem steps_len:∀(b:List Nat) (i:Nat) (now:List Nat) (n:Nat),now.length=n->(∀x∈b,x∈now)->i+b.length<=n->(G.stepsP i b now).length<=b.length*n
 | [],i,now,n,_,_,_=>by unfold G.stepsP;simp
 | x::b,i,now,n,h,hm,hi=>by
   unfold G.stepsP;rw[yG,yB,kIa];rw[yB] at hi;obtain⟨hg,hlt⟩:=idx_get (hm x (.head _));have h1:(G.downTo i (now.idxOf x-i)).length<=n:=by
    unfold G.downTo;rw[jHb,List.length_range];omega
   have h2:=steps_len b (i+1) ((now.eraseIdx (now.idxOf x)).insertIdx i x) n (by rw[mv_len (by omega) hlt,h]) (λy hy=>(mv_mem hg (by omega)).2 (hm y (.tail _ hy))) (by omega);omega
theorem nodup_idx{l b:List Nat}{i x:Nat}(hd:b.Nodup)(ht:l.take i=b.take i)(hb:b[i]?=some x)(hx:x∈l):i<=l.idxOf x:=by
 refine Nat.le_of_not_lt λhlt=>?_
 obtain⟨hg,_⟩:=idx_get hx
 have:=jNa (λz=>z[l.idxOf x]?) ht;simp only[kH] at this;rw[jAb hlt,jAb hlt,hg] at this;obtain⟨h1,e1⟩:=yE.1 this.symm;obtain⟨h2,e2⟩:=yE.1 hb;exact qBa.1 hd _ _ h1 h2 hlt (by rw[e1,e2])
theorem OwnP.numN{m:PH}{e:TypeId}{A:Option Addr}{n c:Nat}{l:List Nat}(h:OwnP m e 1 (.slice A n c) n (l.flatMap ivC))(hl:l.length=n):NumR m (.slice A n c) l:=by subst hl;exact h.num
theorem psteps_any{W:World}{va vb:Value}{a b:List Nat}(ha:NumR (Qa W) va a)(hb:NumR (Qa W) vb b)(hab:a.length=b.length)(hn:b.length<=64)(pa:∀x∈a,x<a.length)(da:a.Nodup)(pb:∀x∈b,x<b.length)(db:b.Nodup)(hba:∀x∈b,x∈a) :
  Calls Tryz.prog 150 #[va,vb] W λe w'=>∃v m,e=.returned (.tuple #[v,.int .i64 0])/\OwnP m 3 1 v (G.stepsP 0 b a).length ((G.stepsP 0 b a).flatMap ivC)/\Sat W (Qa W) [m] w':=by
 obtain⟨⟨A,c,rfl⟩,_⟩:=id ha;obtain⟨⟨B,c2,rfl⟩,_⟩:=id hb;have hS:=Sat.start W;have HRa:=yH (λ(w':World) (h:(Qa W).le (Qa w'))=>pright_any (ha.le h) (by omega) pa da);have HRb:=yH (λ(w':World) (h:(Qa W).le (Qa w'))=>pright_any (hb.le h) hn pb db);have HCl:=yH (λ(w':World) (h:(Qa W).le (Qa w'))=>pclone_any (ha.le h) (by omega));have HL:=yH (steps_len b 0 a b.length hab hba (by omega));have HD:=yH db;have HM:=yH hba;have HB:=yH hb.2;have HO:=yH (λX=>OwnP.lit X 3 1 a.length (a.flatMap ivC).toArray (by unfold maxLen;omega) (by rw[jS,iv_length,jG]));clear ha hb pa da pb db hba;rw[hab] at HRa HCl HO ⊢;have HAn:=yH hab;clear hab;generalize hN:b.length=N at *
 have HN:=yH hN;clear hN;have d0:((N:Int) != (N:Int))=false:=by simp
 go_enter Tryz.func150,Tryz.ntmps150;go_wp2_with (first|(go_at_call 160;first|((with_reducible refine bB hS (HRa.out _ hS.ile) ?_);clear hS;intro w9 hS)|((with_reducible refine bB hS (HRb.out _ hS.ile) ?_);clear hS;intro w9 hS))|(go_at_call 161;(with_reducible refine yI (HCl.out _ hS.ile) ?_);rintro e w ⟨X,rfl,hC⟩;replace hS:=hS.graft hC;clear hC)|(refine aG ?_))
 replace hS:Sat W (Qa W) [PH.one X (.cells (a.flatMap ivC).toArray 3),(λ_=>none)] w:=(hS.empty).perm (List.Perm.swap _ _ _);have hO0:=HO.out X;generalize PH.one X (.cells (a.flatMap ivC).toArray 3)=m0 at *
 have HO0:=yH hO0;clear hO0 HO HRa HRb HCl;go_loopw [6,30] (λv6 v30 wr=>∃(i:Nat) (now done:List Nat) (m1 m2:PH),i<=N/\v30=.int .i64 (i:Int)/\now.length=N/\(∀x∈b,x∈now)/\now.take i=b.take i/\G.stepsP 0 b a=done++G.stepsP i (b.drop i) now/\OwnP m1 3 1 (.slice (some ⟨X,0,none⟩) N N) N (now.flatMap ivC)/\OwnP m2 3 1 v6 done.length (done.flatMap ivC)/\Sat W (Qa W) [m1,m2] wr) (λ_ v30 _=>(N-intOf v30).toNat)
 case atStart=>exact⟨0,a,[],m0,λ_=>none,jC _,rfl,HAn.out,HM.out,by simp,by simp,by simpa using HO0.out,OwnP.nil _ _,hS⟩
 case round =>
  clear hS HO0 HAn HM;obtain⟨i,now,done,m1,m2,hi,rfl,hln,hmem,htk,hst,hO1,hO2,hS⟩:=hrel;by_cases hlt:i<N
  . obtain⟨x,hx⟩:∃x,b[i]?=some x:=⟨_,yA (by rw[HN.out];exact hlt)⟩
    obtain⟨Y,c',hY,hcell⟩:=HB.out (by omega);injection hY with hA hB hC
    subst hA hC;have hcell:=hcell i _ hx;have hxm:=hmem x (jCb hx);obtain⟨hg,hgl⟩:=idx_get hxm;have hge:=nodup_idx HD.out htk hx hxm;have hdr:b.drop i=x::b.drop (i+1):=by
     rw[jL (by rw[HN.out];exact hlt)];congr 1
     have:=yA (l:=b) (i:=i) (by rw[HN.out];exact hlt);rw[hx] at this;injection this with this
     exact this.symm
    rw[hdr,G.stepsP,down_range i _ hge,<- jE] at hst;have htk':=mv_take (v:=x) htk hge hgl hx;have hmem':=λy (hy:y∈b)=>(mv_mem (y:=y) hg (show i<now.length by omega)).2 (hmem y hy)
    have hln':((now.eraseIdx (now.idxOf x)).insertIdx i x).length=N:=by rw[mv_len (by omega) hgl,hln]
    have hbound:done.length+(now.idxOf x-i)<=4096:=by
     have h1:=jNa List.length hst;simp only[yG,jHb,List.length_range] at h1;have h2:=HL.out;have h3:N*N<=64*64:=Nat.mul_le_mul hn hn;omega
    have HIx:=yH (λ(w':World) (h:m1.le (Qa w'))=>sindex_any ((hO1.numN hln).le h) (by omega) x hxm);have hiN:(i:Int)<(N:Int):=by omega
    have HT:=yH (And.intro htk' (And.intro hmem' (And.intro hln' hst)));have hEl:(now.eraseIdx (now.idxOf x)).length+1=N:=by rw[kEa hgl];omega
    have HZ:=yH (mv_zero _ _ _ hg);clear htk' hmem' hln' hst htk hmem hdr hg hxm;generalize now.eraseIdx (now.idxOf x)=L at *
    generalize now.idxOf x=ix at *
    have HO1:=yH hO1;have HO2:=yH hO2;clear hO1 hO2;go_wp2_with (first|(go_at_call 162;with_reducible refine bC (HIx.out _ (hS.mle (k:=0) rfl)) ?_)|(refine aL ?_))
    go_loopw [6,10] (λv6 v10 wr=>∃(s j:Nat) (m1 m2:PH),j+s=ix/\i<=j/\v10=.int .i64 (j:Int)/\OwnP m1 3 1 (.slice (some ⟨X,0,none⟩) N N) N ((L.insertIdx j x).flatMap ivC)/\OwnP m2 3 1 v6 (done.length+s) ((done++(List.range s).map λk=>ix-1-k).flatMap ivC)/\Sat W (Qa W) [m1,m2] wr) (λ_ v10 _=>(intOf v10).toNat)
    case atStart=>exact⟨0,ix,m1,m2,rfl,hge,rfl,by rw[HZ.out];exact HO1.out,by simpa using HO2.out,hS⟩
    case round =>
     clear hS HO1 HO2 HIx HZ;obtain⟨s,j,m1,m2,hjs,hij,rfl,hO1,hO2,hS⟩:=hrel;by_cases hsi:i<j
     . obtain⟨k,hk⟩:∃k,j=k+1:=⟨j-1,by omega⟩
       obtain⟨y,hy⟩:∃y,L[k]?=some y:=⟨_,yA (by omega)⟩;have hr2:((L.insertIdx j x).set k x).set j y=L.insertIdx k x:=by rw[hk];exact mv_step k L x y hy
       have hlr:(L.insertIdx j x).length=N:=by rw[kSb (by omega)];exact hEl
       have gX:(L.insertIdx j x)[j]?=some x:=mv_at _ _ _ (by omega);have gY:(L.insertIdx j x)[k]?=some y:=by rw[mv_lt _ _ _ _ (by omega),hy]
       have cX:Cells m1 X j (ivC x):=by have:=Qs Kt hO1 gX;rwa [jG] at this
       have cY:Cells m1 X k (ivC y):=by have:=Qs Kt hO1 gY;rwa [jG] at this
       have pX:m1.at X j=some (nv x):=cX.at 0 rfl;have pY:m1.at X k=some (nv y):=cY.at 0 rfl;generalize hr0:L.insertIdx j x=r at *
       have h1:∀m',OwnP m' 3 1 (.slice (some ⟨X,0,none⟩) N N) N (spl (r.flatMap ivC) k (Value.cells (nv x)).toList)->OwnP m' 3 1 (.slice (some ⟨X,0,none⟩) N N) N ((r.set k x).flatMap ivC):=λm' h=>own_set (by omega) h
       have h2:∀m',OwnP m' 3 1 (.slice (some ⟨X,0,none⟩) N N) N (spl ((r.set k x).flatMap ivC) j (Value.cells (nv y)).toList)->OwnP m' 3 1 (.slice (some ⟨X,0,none⟩) N N) N (((r.set k x).set j y).flatMap ivC):=λm' h=>own_set (by simp;omega) h
       rw[hr2] at h2;have H1:=yH h1;have H2:=yH h2;have HOw:=yH hO1;have HOd:=yH hO2;generalize (r.set k x)=r1 at *
       generalize hr2':L.insertIdx k x=r2 at *
       have HR2:=yH hr2';have HKs:=yH (And.intro hk hjs);have hkN:k<N:=by omega
       have hk1N:j<N:=by omega
       have hgt:(j:Int)>(i:Int):=by omega
       have hk1I:(j:Int)<(N:Int):=by omega
       have hkI:(k:Int)<(N:Int):=by omega
       have hkk:(j:Int)-1=(k:Int):=by omega
       have hds:done.length+s+1<=5000:=by omega
       clear hO1 hO2 h1 h2 hr2 gX gY cX cY hr0 hr2' hk hy hjs;go_wp2_with fail
       refine Qf [[],[],[1],[],[],[],[],[5,6],[5,6,7],[],[],[10],[9,10,11],[9,10,11,12],[0,1,2,5,6,7,8,9,10,11,12,13],[0,1,2,5,6,7,8,9,10,11,12,13,14],[0,1,2,3,4,5,6,7,8,9,10,11,12,13,14,15],[0,1,2,3,4,5,6,7,8,9,10,11,12,13,14,15,16]] W (Qa W) _
        [λv _=>v=.slice (some ⟨X,0,none⟩) N N,λv _=>v=nv j,λv _=>v=nv k,λv _=>v=.slice (some ⟨X,0,none⟩) N N,λv _=>v=nv j,λv _=>v=.slice (some ⟨X,0,none⟩) N N,λv _=>v=nv j,λv _=>v=.pointer (some ⟨X,j,none⟩),λv _=>v=nv x,λv _=>v=.slice (some ⟨X,0,none⟩) N N,λv _=>v=nv j,λv _=>v=nv k,λv _=>v=.pointer (some ⟨X,k,none⟩),λv _=>v=nv y,λv _=>v=.pointer (some ⟨X,k,none⟩),λ_ _=>True,λv _=>v=.pointer (some ⟨X,j,none⟩),λ_ _=>True] [15,17]
        (set2G _ 0 0 (λm'=>OwnP m' 3 1 (.slice (some ⟨X,0,none⟩) N N) N (r1.flatMap ivC)) (λm'=>OwnP m' 3 1 (.slice (some ⟨X,0,none⟩) N N) N (r2.flatMap ivC))) (by kernel_rfl) (by kernel_rfl) (by decide) hS rfl ?last (λ_ _ _ _ _ _ h=>h) (λ_ _ _ _ _ _ h=>h) ?plain ?step ?fin
       case last=>exact bL
       case plain=>(repeat' (first|exact trivial|apply And.intro)) <;> first|exact .inl rfl|(refine .inr ?_;intro s vals J bs w hstop hg hJ hS hG;have h0:s<=0:=hstop;obtain rfl:s=0:=kQa.1 h0;have hG:bs=_:=hG;subst hG;refine bS ?_;intro K HK;((with_reducible refine atLoad ?_);(refine' wp_ld1 (v:=_) (hS.mle (k:=0) rfl) rfl ?ha rfl ?hc ?_);(case ha=>first|exact Qh);(case hc=>assumption));exact bO)|(refine .inr ?_;intro s vals J bs w hstop hg hJ hS hG;clear hG;refine bS ?_;intro K HK;( (go_wp2_with (fail)));exact bO)
       case step =>
        refine⟨⟨trivial,?_⟩,?_⟩
        . intro vals J bs w hg hJ hS hG
          have hG:bs=_:=hG;subst hG;refine bS ?_;intro K HK;refine Zz (i:=k) hS 0 rfl rfl rfl rfl HOw.out (jG k).symm hkN Yg rfl (iv_one x) λm' w hO' hS=>?_
          exact HK.out _ _ ⟨rfl,J,_,PH.le.refl _,hS,trivial,m',H1.out _ hO',rfl⟩
        . intro vals J bs w hg hJ hS hG
          refine Veil.out ?_;obtain⟨mm,hmm,hG⟩:=hG;subst hG;refine⟨?_⟩;refine bS ?_;intro K HK;refine Zz (i:=j) hS 0 rfl rfl rfl rfl hmm (jG _).symm hk1N Yg rfl (iv_one y) λm' w hO' hS=>?_
          exact HK.out _ _ ⟨rfl,J,_,PH.le.refl _,hS,trivial,mm,m',hmm,H2.out _ hO',rfl⟩
       case fin =>
        intro vals J9 bs w hJ hg hS hG;obtain⟨_,m3,_,hO3,hns⟩:=hG;subst hns;have hS:=hS.less hJ;simp only[zG] at hS;have HO3:=yH hO3;clear hO3 hJ;refine bH ?_;clear hg pX pY H1 H2;go_wp2_with (first|((with_reducible refine isAppend ?_);(refine' apP (p:=_) (m:=_) (v:=_) (n:=_) (xs:=_) (news:=_) 2 (.inr (List.Mem.head _)) hS rfl rfl rfl Tryz.underlying23 Ko rfl (by decide) rfl HOd.out rfl ?hl ?hcl ?h1 ?h63 ?hby ?_);(case hcl=>exact Cells.one _ _ _ _);(case hl=>rfl);(case h1=>rfl);(case h63=>(unfold maxLen;omega));(case hby=>omega);clear hS;intro v1 m4 w hO4 hS;have HO4:=yH hO4;clear hO4;(try simp only[zF,zG] at hS);refine aM ?_)|(refine aY ?_;clear hS;intro XS w hS))
        obtain⟨hk,hjs⟩:=HKs.out;have hks:k=ix-1-s:=by omega
        refine⟨⟨s+1,k,m3,m4,by omega,by omega,rfl,by rw[HR2.out];exact HO3.out,?_,hS.drop⟩,by simp[intOf];omega⟩;have e1:(done++(List.range (s+1)).map λk=>ix-1-k).flatMap ivC=(done++(List.range s).map λk=>ix-1-k).flatMap ivC++[nv k]:=by
         rw[kR,jGa,<- jE,jNb,hks];rfl
        rw[e1];exact HO4.out
     . obtain rfl:i=j:=by omega
       obtain⟨htk',hmem',hln',hst⟩:=HT.out;have hs:s=ix-i:=by omega
       have hng:¬((i:Int)>(i:Int)):=by omega
       have Hs:=yH hs;have HTt:=yH (And.intro htk' (And.intro hmem' (And.intro hln' hst)));have HOa:=yH hO1;have HOb:=yH hO2;clear htk' hmem' hln' hst hs HT hO1 hO2;go_wp2_with fail
       obtain⟨htk',hmem',hln',hst⟩:=HTt.out;refine⟨⟨i+1,_,_,m1,m2,by omega,by go_num,hln',hmem',htk',hst,HOa.out,?_,hS⟩,by simp[intOf];omega⟩
       have:=HOb.out;rw[Hs.out] at this
       simpa using this
  . obtain rfl:i=N:=by omega
    have he:b.drop i=[]:=kAb (by rw[HN.out];exact jBb _);rw[he,G.stepsP,jZb] at hst;have Hst:=yH hst;have HOb:=yH hO2;clear hst he hO1 hO2 htk hmem;go_wp2_with fail
    go_ret2;exact⟨_,m2,rfl,by rw[Hst.out];exact HOb.out,hS.drop⟩
end
section
open Go.RowKit
theorem cutAll_snoc(s:G.St){x:Nat}(hx:x<s.tabs.length)(l:List G.Td)(t:G.Td):{ s.cutAll x l with tabs:=(s.cutAll x l).tabs.set x (G.cutT ((s.cutAll x l).tab x) t.n.lo t.n.hi) }=s.cutAll x (l++[t]):=by
 have h1:(s.cutAll x l).tab x=l.foldl (λt d=>G.cutT t d.n.lo d.n.hi) (s.tab x):=by
  rcases G.tab_set s (v:=x) (x:=x) (t:=l.foldl (λt d=>G.cutT t d.n.lo d.n.hi) (s.tab x)) with h|h
  . unfold G.St.cutAll G.St.tab
    rw[yD];show ((s.tabs.set x _)[x]?).getD []=_
    rw[jP hx];rfl
  . exact h.1
 unfold G.St.cutAll at h1 ⊢;simp only[kSa,List.foldl_cons,List.foldl_nil,List.set_set,h1]
theorem cutAll_nil(s:G.St){x:Nat}(hx:x<s.tabs.length):s.cutAll x []=s:=by
 unfold G.St.cutAll;simp only[List.foldl_nil]
 have:s.tabs.set x (s.tab x)=s.tabs:=by
  unfold G.St.tab;rw[yD,yA hx];exact List.set_getElem_self hx
 rw[this]
theorem Sane.cutAll{s:G.St}(h:Sane s)(x:Nat)(l:List G.Td):Sane (s.cutAll x l):=⟨h.pl,TabLt.set h.tab λe he=>by
 have:∀(l:List G.Td) (t:List G.Ent),(∀e∈t,e.id<4194304)->∀e∈l.foldl (λt d=>G.cutT t d.n.lo d.n.hi) t,e.id<4194304:=by
  intro l
  induction l with
  | nil=>exact λt ht=>ht
  | cons a l ih=>exact λt ht=>ih _ λe he=>ht e (mem_cutT he)
 exact this l _ (h.tab x) e he⟩
theorem sswap_bad{E w:World}{I m:PH}{ms:List PH}{S:Nat}{s:G.St}{level:Int}(hb:level<0\/level≥(s.vars.length:Int)-1)(hA:StAt S s m)(hS:Sat E I (m::ms) w) :
  Calls Tryz.prog 123 #[vPt S,.int .i64 level] w λe w'=>e=.returned (nv 2)/\Sat E I (m::ms) w':=by
 obtain⟨J,lJ,mJ,hS,back⟩:=hS.ice;have hR:=hA.read.le mJ;have Hback:=yH back;obtain⟨f0,L,P,vV,vL,vT,vC,gs,j0,_,_,_,_,jv,_,jV,_⟩:=hR;obtain⟨⟨A,c,rfl⟩,_⟩:=jV;have hn:=f0.vars;clear back hA mJ lJ f0;generalize s.vars.length=n at *
 by_cases c0:level<0
 . clear hb j0 jv
   go_enter Tryz.func123,Tryz.ntmps123;go_wp2_with (fail)
   go_ret;exact⟨rfl,Hback.out _ _ hS⟩
 . have c1:(n:Int)-1<=level:=by omega
   have c0b:decide (level<0)=false:=by rw[jD];exact c0
   clear hb;go_enter Tryz.func123,Tryz.ntmps123;go_wp2_with (first|(refine aG ?_)|(refine aL ?_))
   go_ret;exact⟨rfl,Hback.out _ _ hS⟩
theorem Kq{α β:Type}{o:Option α}{f:α->Option β}{b:β}(h:o.bind f=some b):∃a,o=some a/\f a=some b:=by
 cases o with
 | none=>cases h
 | some a=>exact⟨a,rfl,h⟩
theorem sswap_any{E w:World}{I m:PH}{ms:List PH}{S er:Nat}{s s':G.St}{level:Int}(hm:s.swap level=some (s',er))(hs:Sane s)(hpm:G.PermOk s)(hlen:∀s0 c,s.collect=some (s0,c)->∀v,(s0.tab v).length<=1000000)(hA:StAt S s m)(hS:Sat E I (m::ms) w) :
  Calls Tryz.prog 123 #[vPt S,.int .i64 level] w λe w'=>e=.returned (nv er)/\∃m',StAt S s' m'/\Sat E I (m'::ms) w':=by
 unfold G.St.swap at hm;by_cases hb:level<0\/level≥(s.vars.length:Int)-1
 . rw[jAb hb] at hm
   cases hm;refine (sswap_bad hb hA hS).mono ?_;rintro e w' ⟨rfl,h⟩;exact⟨rfl,m,hA,h⟩
 rw[jAa hb] at hm;obtain⟨k,rfl⟩:∃k:Nat,level=(k:Int):=⟨level.toNat,by omega⟩;have hk:k+1<s.vars.length:=by omega
 simp only[Int.toNat_natCast] at hm;obtain⟨⟨s0,c0⟩,hcol,hm⟩:=Kq hm;simp only[] at hm;obtain⟨T,hT,hm⟩:=Kq hm;obtain⟨hs0,hv0,hl0,ht0⟩:=hs.collect hcol;have hlx:=hlen s0 c0 hcol;have hk0:k+1<s0.vars.length:=by rw[hv0];exact hk
 have hxg:s0.vars[k]?=some (s0.vars.getD k 0):=by rw[yD,yA (by omega)];rfl
 have hyg:s0.vars[k+1]?=some (s0.vars.getD (k+1) 0):=by rw[yD,yA hk0];rfl
 have hxv:s0.vars.getD k 0<s.vars.length:=by rw[hv0];exact (hpm.vl k (by omega)).1
 have hyv:s0.vars.getD (k+1) 0<s.vars.length:=by rw[hv0];exact (hpm.vl (k+1) hk).1
 have hflip:s0.flipLev k={ s0 with vars:=(s0.vars.set k (s0.vars.getD (k+1) 0)).set (k+1) (s0.vars.getD k 0),lev:=(s0.lev.set (s0.vars.getD k 0) (k+1)).set (s0.vars.getD (k+1) 0) k }:=rfl;generalize s0.vars.getD k 0=x at *
 generalize s0.vars.getD (k+1) 0=y at *
 have hx0:x<s0.tabs.length:=by rw[ht0,hpm.tabs];exact hxv
 have hy0:y<s0.tabs.length:=by rw[ht0,hpm.tabs];exact hyv
 have hxl:x<s0.lev.length:=by rw[hl0,hpm.lev];exact hxv
 have hyl:y<s0.lev.length:=by rw[hl0,hpm.lev];exact hyv
 have hn64:s.vars.length<=64:=hpm.le;have hy62:y<4611686018427387904:=by omega
 have hv64:s0.vars.length<=64:=by rw[hv0];exact hn64
 have hl64:s0.lev.length<=64:=by rw[hl0,hpm.lev];exact hn64
 have ht64:s0.tabs.length<=64:=by rw[ht0,hpm.tabs];exact hn64
 have HC:=yH hcol;have HOk:=yH hs.pl;have HT:=yH hT;have Hs0:=yH hs0;have Hm:=yH hm;have Hlx:=yH hlx;have Hxg:=yH hxg;have Hyg:=yH hyg;have Hflip:=yH hflip;obtain⟨J,lJ,mJ,hSJ,back⟩:=hS.ice;have hR:=hA.read.le mJ;have Hback:=yH back;have HA:=yH hA;obtain⟨f0,L,P,vV,vL,vT,vC,gs,j0,z1,z2,z3,z4,jv,z5,jV,z6⟩:=hR;obtain⟨⟨A,c,rfl⟩,z7⟩:=jV;clear z1 z2 z3 z4 z5 z6 z7;have c0b:decide ((k:Int)<0)=false:=by rw[jD];omega
 have c1b:decide ((s.vars.length:Int)-1<=(k:Int))=false:=by rw[jD];omega
 have c1:¬(s.vars.length:Int)-1<=(k:Int):=by omega
 clear hS back hA mJ lJ f0 hm hcol hT hs0 hs hpm hlen hlx hxg hyg hb hl0 ht0 hv0 hxv hyv hflip;have hS:=hSJ;clear hSJ;generalize hnv:s.vars.length=nn at *
 have hkk:(k:Int)+1=((k+1:Nat):Int):=by omega
 generalize hk1:k+1=k1 at *
 go_enter Tryz.func123,Tryz.ntmps123;go_wp2_with (first|(go_at_call 139;(with_reducible refine bD (scollect_any HC.out HOk.out HA.out (Hback.out _ _ hS)) ?_);clear hS;intro w m0 HA0 hS)|(refine aG ?_)|(refine aL ?_))
 clear j0 jv Hback HA;obtain⟨J0,l0,lm0,hS0,b0⟩:=hS.ice;have hR0:=HA0.out.read.le lm0;have hpf:PlFit s0.pl:=by obtain⟨_,_,P,_,_,_,_,_,_,_,mP,_,_,_,_,_,_,hP,_⟩:=HA0.out;exact hP.1
 have htf:=turn_facts hpf HT.out;have HR0:=yH hR0;obtain⟨f0,L0,P0,vV0,vL0,vT0,vC0,gs0,j0,z1,z2,z3,z4,jv,z5,jV,z6⟩:=hR0;clear z1 z2 z3 z4 z5 z6;obtain⟨V,cV,rfl,jVx⟩:=jV.2 (by omega);have jx:=jVx k x Hxg.out;have jy:=jVx k1 y Hyg.out;have Hb0:=yH b0;have Htf:=yH htf;have hkv:(k:Int)<(s0.vars.length:Int):=by omega
 have hk1v:(k1:Int)<(s0.vars.length:Int):=by omega
 have hv64i:(s0.vars.length:Int)<=64:=by omega
 have hTl:T.length<=1048577:=jFb htf.1 (jFb (Hlx.out x) (by decide));clear hS b0 f0 jV jVx htf lm0 l0;refine Qf [[],[0],[0,1],[0,1,2],[0,1,2,3],[0,1,2,3,4],[0,1,2,3,4,5],[],[0,1,2,3,4,5,6,7],[0,1,2,3,4,5,6,7,8],[],[10],[10,11],[10,11,12],[10,11,12,13],[10,11,12,13,14],[10,11,12,13,14,15],[],[17],[10,11,12,13,14,15,16,17,18],[10,11,12,13,14,15,16,17,18,19],[0,1,2,3,4,5,6,7,8,9],[0,1,2,3,4,5,6,7,8,9,10,11,12,13,14,15,16,17,18,19,20,21]] E J0 _
  [λv _=>v=vPt S,λv _=>v=vPt S,λv _=>v=vPt S,λv _=>v=vPt L0,λv _=>v=vPt L0,λv _=>v=vPt L0,λv _=>v=.slice (some ⟨V,0,none⟩) s0.vars.length cV,λv _=>v=nv k,λv _=>v=.pointer (some ⟨V,k,none⟩),λv _=>v=nv x,λv _=>v=vPt S,λv _=>v=vPt S,λv _=>v=vPt S,λv _=>v=vPt L0,λv _=>v=vPt L0,λv _=>v=vPt L0,λv _=>v=.slice (some ⟨V,0,none⟩) s0.vars.length cV,λv _=>v=nv k,λv _=>v=nv k1,λv _=>v=.pointer (some ⟨V,k1,none⟩),λv _=>v=nv y,λv _=>v=nv x,λv _=>v=nv y] []
  (λ_ _ _ ns=>ns=ms) (by kernel_rfl) (by kernel_rfl) (by decide) hS0 rfl ?last (λ_ _ _ _ _ _ h=>h) (λ_ _ _ _ _ _ h=>h) ?plain ?step ?fin
 case last=>exact bL
 case plain=>(repeat' (first|exact trivial|apply And.intro)) <;>  (refine .inr ?_;intro s vals J bs w hstop hg hJ hS hG;clear hG;refine bS ?_;intro K HK;(first|(refine bJ ?_)|(go_wp2_with (fail)));exact bO)
 case step=>trivial
 case fin =>
 intro vals J9 bs w hJ hg hS9 hG;have hG:bs=ms:=hG;rw[hG] at hS9;have hS:=hS9.less hJ;clear hJ hS0 hG hS9;refine bH ?_;clear hg jx jy;go_wp2_with fail
 refine (sturn_any HT.out hx0 (Hlx.out x) hy62 HR0.out hS).mono ?_;clear hS;rintro e w ⟨v,mo,rfl,hO,hS⟩;refine Veil.out ?_;obtain⟨A7,c7,rfl,_⟩:=hO.shape;obtain⟨J1,l1,lmo,hS1,bmo⟩:=hS.ice;have HRow:=yH (hO.rowT.le lmo);have HR1:=yH (HR0.out.le l1);have HTB:=yH (λt ht=>(Htf.out.2 t ht).2);have Hbmo:=yH bmo;have HO:=yH hO;have j01:J1.at S 0=some (vPt L0):=PH.at_le l1 j0;clear hS;have hS:=hS1;refine⟨?_⟩;clear hS1 bmo hO l1 lmo j0 jv;by_cases hroom:s0.pl.room<s0.wants x T+G.many s0.pl.slots
 . have hm:=Hm.out
   rw[jAb hroom] at hm;injection hm with hm
   injection hm with hm1 hm2
   subst hm1 hm2;have hgt:((s0.pl.room:Nat):Int)-((G.many s0.pl.slots:Nat):Int)<((s0.wants x T:Nat):Int):=by omega
   have hb1:G.many s0.pl.slots<=4194304:=by have:=G.many_le s0.pl.slots;have:=hpf.len;have:=hpf.room;omega
   have hb2:=hpf.room;clear Hm;go_wp2_with (first|(go_at_call 141;(with_reducible refine yI (swants_any hx0 HR1.out HRow.out hTl HTB.out hS) ?_);clear hS;rintro e w ⟨rfl,hS⟩)|(go_at_call 142;with_reducible refine bC (sroom_any (HR1.out.le hS.ile)) ?_)|(go_at_call 143;with_reducible refine bC (slen_any (HR1.out.le hS.ile)) ?_))
   go_ret;exact⟨rfl,m0,HA0.out,Hb0.out _ _ ((Hbmo.out _ _ hS).drop)⟩
 have hm:=Hm.out;rw[jAa hroom] at hm;obtain⟨s1,hturns,hm⟩:=Kq hm;simp only[kB] at hm;obtain⟨⟨s2,c2⟩,hcol2,hm⟩:=hm;injection hm with hm1 hm2
 subst hm1 hm2;have Htu:=yH hturns;have Hcol2:=yH hcol2;have hle:¬((s0.pl.room:Nat):Int)-((G.many s0.pl.slots:Nat):Int)<((s0.wants x T:Nat):Int):=by omega
 have hle2:decide (((s0.pl.room:Nat):Int)-((G.many s0.pl.slots:Nat):Int)<((s0.wants x T:Nat):Int))=false:=by rw[jD];exact hle
 have hb1:G.many s0.pl.slots<=4194304:=by have:=G.many_le s0.pl.slots;have:=hpf.len;have:=hpf.room;omega
 have hb2:=hpf.room;clear Hm hturns hcol2;go_wp2_with (first|(go_at_call 141;(with_reducible refine yI (swants_any hx0 HR1.out HRow.out hTl HTB.out hS) ?_);clear hS;rintro e w ⟨rfl,hS⟩)|(go_at_call 142;with_reducible refine bC (sroom_any (HR1.out.le hS.ile)) ?_)|(go_at_call 143;with_reducible refine bC (slen_any (HR1.out.le hS.ile)) ?_)|(refine aL ?_))
 have hc0:=Ql hS.ile j01;have hT1:=(Hb0.out _ _ (Hbmo.out _ _ hS)).perm (List.Perm.swap _ _ _);obtain⟨J2,l2,lmo,hT2,_⟩:=hT1.ice;have HRow2:=yH (HO.out.rowT.le lmo);obtain⟨J3,L3,vV3,vL3,mV,mL,ns,l3,k0,kV,kL,hV,hL,hT3,hfin⟩:=HA0.out.openLev hT2;have hL3:L0=L3:=by
  have h2:=Ql hT3.ile k0;rw[hc0] at h2;injection h2 with h2
  injection h2 with h2
  injection h2 with h2
  injection h2
 subst hL3;have Hfin:=yH hfin;have HlI:=yH l2;clear hS hT1 hT2 hfin l2 lmo hc0 j01 k0 l3;have hxg:=Hxg.out;have hyg:=Hyg.out;subst hk1;clear hkk hk1v;refine (lswap_any kV kL hV hL hk0 hxg hyg hxl hyl hv64 hl64 hT3).mono ?_;clear hxg hyg hT3 hV hL kV kL;rintro e w ⟨rfl,mV',mL',hV',hL',hS3⟩;refine Veil.out ?_;have hvle:∀c∈s0.vars,c<=1048576:=by obtain⟨f,_⟩:=HA0.out;exact f.varb
 have hlle:∀c∈s0.lev,c<=1048576:=by obtain⟨f,_⟩:=HA0.out;exact f.levb
 obtain⟨m1,hA1,hS⟩:=Hfin.out mV' mL' _ _ w hV' hL' (by simp) (by simp) (λc hc=>by
  rcases kBa hc with hc|hc
  . rcases kBa hc with hc|hc
    . exact hvle c hc
    . omega
  . omega) (λc hc=>by
  rcases kBa hc with hc|hc
  . rcases kBa hc with hc|hc
    . exact hlle c hc
    . omega
  . omega) hS3
 have hA1:StAt S (s0.flipLev k) m1:=by rw[Hflip.out];exact hA1
 have HA1:=yH hA1;have hsn1:Sane (s0.flipLev k):=Hs0.out.of rfl rfl;have hnd1:∀i,(s0.flipLev k).nd i=s0.nd i:=λi=>rfl
 have Hsn1:=yH hsn1;have htb1:(s0.flipLev k).tabs.length=s0.tabs.length:=rfl;refine⟨?_⟩;clear hS3 hV' hL' hA1 hvle hlle Hfin HR1 HRow HTB hnd1 hsn1;generalize hf:s0.flipLev k=sf at *
 have hx1:x<sf.tabs.length:=by omega
 have hy1:y<sf.tabs.length:=by omega
 have hft:sf.tabs.length<=64:=by omega
 have hndT:∀t∈T,sf.nd t.id=some t.n:=λt ht=>by rw[<- hf];exact (Htf.out.2 t ht).1
 have HndT:=yH hndT;clear hndT hf htb1;have hTi:(T.length:Int)<=1048577:=by omega
 generalize hTn:T.length=n at *
 go_wp2_with fail
 go_loopw [77] (λv77 wr=>∃(i:Nat) (mi:PH),i<=n/\v77=.int .i64 (i:Int)/\StAt S (sf.cutAll x (T.take i)) mi/\Sat E J2 (mi::ms) wr) (λv77 _=>(n-intOf v77).toNat)
 case atStart=>exact⟨0,m1,jC _,rfl,by rw[List.take_zero,cutAll_nil sf hx1];exact HA1.out,hS⟩
 case round =>
  clear hS;obtain⟨i,mi,hin,rfl,hAi,hS⟩:=hrel;have HAi:=yH hAi;clear hAi;by_cases hlt:i<n
  . obtain⟨t,ht⟩:∃t,T[i]?=some t:=⟨_,yA (by omega)⟩
    obtain⟨A8,c8,hv,hcell⟩:=HRow2.out.2 i t ht;injection hv with hv hvl hc
    clear hvl;subst hv hc;have hcell:Cells J2 A8 (i*9) [nv t.id,nv t.n.v,nv t.n.lo,nv t.n.hi,nv t.n.refs,nv t.ll,nv t.lh,nv t.hl,nv t.hh]:=hcell;have htk:T.take (i+1)=T.take i++[t]:=by rw[jR,ht];rfl
    have Htk:=yH htk;have ii:(i:Int)<(n:Int):=by omega
    clear ht htk;go_wp2_with (first|(refine aN 9 ?_;clear hS;intro N9 w hS)|(refine aL ?_)|(refine aS ?_;clear hS;intro w hS))
    obtain⟨K4,k4,lN9,hS4,bN9⟩:=hS.ice;have hxi:x<(sf.cutAll x (T.take i)).tabs.length:=by show x<(sf.tabs.set x _).length;rw[jJa];exact hx1
    have hsl:(sf.cutAll x (T.take i)).tabs.length=sf.tabs.length:=by show (sf.tabs.set x _).length=_;rw[jJa]
    obtain⟨K5,TT,cT,g,tm,ns,k5,iS2,iT,hTb,hS5,hfin⟩:=HAi.out.openTab hxi hS4;rw[hsl] at iS2;have j2:K5.at N9 2=some (nv t.n.lo):=PH.at_le k5 (PH.at_le lN9 (Qb rfl));have j3:K5.at N9 3=some (nv t.n.hi):=PH.at_le k5 (PH.at_le lN9 (Qb rfl));have Hfin:=yH hfin;have HTb:=yH hTb;have HbN9:=yH bN9;have hxi2:(x:Int)<(sf.tabs.length:Int):=by omega
    clear hS hS4 hfin hTb bN9 lN9 k4 k5 hcell;generalize hcut:G.cutT ((sf.cutAll x (T.take i)).tab x) t.n.lo t.n.hi=ct at *
    refine Qf [[],[0],[0,1],[0,1,2],[],[0,1,2,3,4],[0,1,2,3,4,5],[],[7],[7,8],[],[10],[10,11],[0,1,2,3,4,5,6,7,8,9,10,11,12]] E K5 _
     [λv _=>v=vPt S,λv _=>v=vPt S,λv _=>v=.pointer (some ⟨S,2,none⟩),λv _=>v=.slice (some ⟨TT,0,none⟩) sf.tabs.length cT,λv _=>v=nv x,λv _=>v=.pointer (some ⟨TT,x,none⟩),λv _=>v=vPt g,λv _=>v=vPt N9,λv _=>v=.pointer (some ⟨N9,2,none⟩),λv _=>v=nv t.n.lo,λv _=>v=vPt N9,λv _=>v=.pointer (some ⟨N9,3,none⟩),λv _=>v=nv t.n.hi,λ_ _=>True] [13]
     (set1G _ 0 (λm'=>TabAt g ct m')) (by kernel_rfl) (by kernel_rfl) (by decide) hS5 rfl ?last (λ_ _ _ _ _ _ h=>h) (λ_ _ _ _ _ _ h=>h) ?plain ?step ?fin
    case last=>exact bL
    case plain=>(repeat' (first|exact trivial|apply And.intro)) <;> first|exact .inl rfl|(refine .inr ?_;intro s vals J bs w hstop hg hJ hS hG;clear hG;refine bS ?_;intro K HK;(first|(refine bJ ?_)|(go_wp2_with (fail)));exact bO)
    case step =>
     refine⟨trivial,?_⟩;intro vals J bs w hg hJ hS hG;have hG:bs=_:=hG;subst hG;refine bS ?_;intro K HK;go_wp2_with (go_at_call 145;(with_reducible refine yI (tcut_any HTb.out t.n.lo t.n.hi hS) ?_);clear hS;rintro e w ⟨⟨c9,rfl⟩,tm',hT',hS⟩)
     exact HK.out _ _ ⟨rfl,J,_,PH.le.refl _,hS,trivial,tm',by rw[<- hcut];exact hT',rfl⟩
    case fin =>
     intro vals J bs w hJ hg hS hG;obtain⟨tm',hT',hns⟩:=hG;subst hns;have hS:=hS.less hJ;obtain⟨m2,hA2,hS2⟩:=Hfin.out tm' _ w hT' hS;have hS2:=(HbN9.out _ _ hS2).drop;rw[<- hcut,cutAll_snoc sf hx1,<- Htk.out] at hA2;have HA2:=yH hA2;refine bH ?_;clear hg hS hT' hJ j2 j3 iS2 iT hA2;go_wp2
     exact⟨⟨i+1,m2,by omega,by go_num,HA2.out,hS2⟩,by simp[intOf];omega⟩
  . have hin2:i=n:=by omega
    subst hin2;have hA2:=HAi.out;rw[jK (by omega)] at hA2;have HA2:=yH hA2;have hsn2:=Hsn1.out.cutAll x T;have htl2:(sf.cutAll x T).tabs.length=sf.tabs.length:=by show (sf.tabs.set x _).length=_;rw[jJa]
    have hnd2:∀t∈T,(sf.cutAll x T).nd t.id=some t.n:=HndT.out;have Hsn2:=yH hsn2;have Hnd2:=yH hnd2;clear hA2 HAi hsn2 hnd2;generalize hsc:sf.cutAll x T=sc at *
    clear hsc;go_wp2_with fail
    go_loopw [98] (λv98 wr=>∃(j:Nat) (si:G.St) (mi:PH),j<=i/\v98=.int .i64 (j:Int)/\G.St.turns si x y (T.drop j)=some s1/\Sane si/\si.tabs.length=sf.tabs.length/\(∀t∈T,(si.nd t.id).isSome=true)/\StAt S si mi/\Sat E J2 (mi::ms) wr) (λv98 _=>(i-intOf v98).toNat)
    case atStart=>exact⟨0,sc,mi,jC _,rfl,Htu.out,Hsn2.out,htl2,λt ht=>by rw[Hnd2.out t ht];rfl,HA2.out,hS⟩
    case round =>
     clear hS;obtain⟨j,si,mj,hjn,rfl,htu,hsi,hti,hndi,hAj,hS⟩:=hrel;have Htu2:=yH htu;have Hsi:=yH hsi;have Hndi:=yH hndi;have HAj:=yH hAj;clear htu hsi hndi hAj;by_cases hlt2:j<i
     . obtain⟨t,ht⟩:∃t,T[j]?=some t:=⟨_,yA (by omega)⟩
       obtain⟨A8,c8,hv,hcell⟩:=HRow2.out.2 j t ht;injection hv with hv hvl hc
       clear hvl;subst hv hc;have hcell:Cells J2 A8 (j*9) [nv t.id,nv t.n.v,nv t.n.lo,nv t.n.hi,nv t.n.refs,nv t.ll,nv t.lh,nv t.hl,nv t.hh]:=hcell;have hdrop:T.drop j=t::T.drop (j+1):=by
        have hl:j<T.length:=by omega
        rw[jL hl];rw[yA hl] at ht;injection ht with ht
        rw[ht]
       have htm:t∈T:=jCb ht;have htB:=(Htf.out.2 t htm).2;have htn:=hpf.nd _ _ (G.Pl.nd_some.1 (Htf.out.2 t htm).1).2;have htid:t.id<4194304:=by
        have h1:=(yE.1 (G.Pl.nd_some.1 (Htf.out.2 t htm).1).2).1;have h2:=hpf.len;have h3:=hpf.room;omega
       have htu:=Htu2.out;rw[hdrop] at htu;obtain⟨sn,hone,hrest⟩:=Kq (show (si.turn1 x y t).bind (λs'=>G.St.turns s' x y (T.drop (j+1)))=some s1 from htu);obtain⟨⟨s3,lo⟩,hb1,hone⟩:=Kq hone;simp only[] at hone;obtain⟨⟨s4,hi⟩,hb2',hone⟩:=Kq hone;simp only[] at hone;obtain⟨s5,hmo1,hone⟩:=Kq hone;obtain⟨s6,hmo2,hone⟩:=Kq hone;obtain⟨s7,hle1,hle3⟩:=Kq hone;obtain⟨hsa3,hk3,hl3,hlo⟩:=Hsi.out.below hb1 htB.1;obtain⟨hsa4,hk4,hl4,hhi⟩:=hsa3.below hb2' htB.2.1;have o5:=G.St.more_only _ _ _ _ hmo1;have o6:=G.St.more_only _ _ _ _ hmo2;have hsa6:Sane s6:=hsa4.of (o6.1.trans o5.1) (o6.2.1.trans o5.2.1);have hl6:s6.tabs.length=sf.tabs.length:=by rw[o6.2.1,o5.2.1,hl4,hl3,hti]
       have hnd6:∀t∈T,(s6.nd t.id).isSome=true:=λt' ht'=>by
        have h1:=Hndi.out t' ht';cases h2:si.nd t'.id with
        | none=>rw[h2] at h1;cases h1
        | some n' =>
          have h3:=hk4 _ _ (hk3 _ _ h2);unfold G.St.nd at h3 ⊢;rw[o6.1,o5.1,h3];rfl
       obtain⟨old,hold⟩:∃old,s6.pl.nd t.id=some old:=by
        have:=hnd6 t htm;unfold G.St.nd at this;cases h:s6.pl.nd t.id with
        | none=>rw[h] at this;cases this
        | some o=>exact⟨o,rfl⟩
       have hpk:=hsa6.pl.put_keep t.id { t.n with v:=y,lo:=lo,hi:=hi };have hsa6p:Sane { s6 with pl:=s6.pl.put t.id { t.n with v:=y,lo:=lo,hi:=hi } }:=⟨hpk.1,λv e he=>hsa6.tab v e he⟩;have hsa6t:Sane { s6 with pl:=s6.pl.put t.id { t.n with v:=y,lo:=lo,hi:=hi },tabs:=s6.tabs.set y (G.putT (s6.tab y) lo hi t.id) }:=⟨hpk.1,TabLt.set (s:={ s6 with pl:=_ }) hsa6.tab λe he=>by
        rcases G.mem_putT he with he|he
        . exact hsa6.tab y e he
        . rw[he];exact htid⟩
       have o7:=G.St.less_only _ _ _ _ hle1;have o8:=G.St.less_only _ _ _ _ hle3;have hsan:Sane sn:=hsa6t.of (o8.1.trans o7.1) (o8.2.1.trans o7.2.1);have hln:sn.tabs.length=sf.tabs.length:=by rw[o8.2.1,o7.2.1];simp[hl6]
       have hndn:∀t'∈T,(sn.nd t'.id).isSome=true:=λt' ht'=>by
        have:=hpk.2 t'.id (hnd6 t' ht');unfold G.St.nd;rw[o8.1,o7.1];exact this
       have hy6:y<s6.tabs.length:=by omega
       have hfitn:Fits { t.n with v:=y,lo:=lo,hi:=hi }:=⟨show y<_ by omega,hlo,hhi,htn.2.2.2⟩;have Hb1:=yH hb1;have Hb2:=yH hb2';have Hmo1:=yH hmo1;have Hmo2:=yH hmo2;have Hle1:=yH hle1;have Hle3:=yH hle3;have Hrest:=yH hrest;have Hsan:=yH hsan;have Hndn:=yH hndn;have Hold:=yH hold;have Hfitn:=yH hfitn;have HTl:=yH Hsi.out.tab;have HTl3:=yH hsa3.tab;have hb11:=htB.1;have hb12:=htB.2.1;have hb13:=htB.2.2.1;have hb14:=htB.2.2.2;have hnlo:=htn.2.1;have hnhi:=htn.2.2.1;have hl3':x<s3.tabs.length:=by omega
       have hli':x<si.tabs.length:=by omega
       have hl6i:(y:Int)<(sf.tabs.length:Int):=by omega
       have ii:(j:Int)<(i:Int):=by omega
       clear ht hdrop htu hrest hone hb1 hb2' hmo1 hmo2 hle1 hle3 hsa3 hk3 hl3 hsa4 hk4 hl4 o5 o6 hsa6 hnd6 hold hpk hsa6p hsa6t o7 o8 hsan hndn hfitn htB htn htm Htu2 Hndi Hsi;go_wp2_with (first|(refine aN 11 ?_;clear hS;intro N w hS)|(refine aL ?_)|(refine aS ?_;clear hS;intro w hS))
       obtain⟨K4,k4,lN,hS4,bN⟩:=hS.ice;have a5:K4.at N 5=some (nv t.ll):=PH.at_le lN (Qb rfl);have a6:K4.at N 6=some (nv t.lh):=PH.at_le lN (Qb rfl);have a7:K4.at N 7=some (nv t.hl):=PH.at_le lN (Qb rfl);have a8:K4.at N 8=some (nv t.hh):=PH.at_le lN (Qb rfl);have aN:Cells K4 N 0 [nv t.id,nv t.n.v,nv t.n.lo,nv t.n.hi,nv t.n.refs]:=λq u hq=>by
        have:=((Cells.one N #[nv t.id,nv t.n.v,nv t.n.lo,nv t.n.hi,nv t.n.refs,nv t.ll,nv t.lh,nv t.hl,nv t.hh] 225 (0,0)).le lN) q u (by
         match q,hq with
         | 0,hq=>exact hq
         | 1,hq=>exact hq
         | 2,hq=>exact hq
         | 3,hq=>exact hq
         | 4,hq=>exact hq
         | q+5,hq=>simp at hq)
        exact this
       have HbN:=yH bN;clear hS bN lN hcell k4;refine Qf [[],[],[],[2],[],[4],[0,1,2,3,4,5],[],[],[],[9],[],[11],[0,1,2,3,4,5,6,7,8,9,10,11,12],[0,1,2,3,4,5,6,7,8,9,10,11,12,13],[0,1,2,3,4,5,6,7,8,9,10,11,12,13,14]] E K4 _
        [λv _=>v=vPt S,λv _=>v=nv x,λv _=>v=.pointer (some ⟨N,5,none⟩),λv _=>v=nv t.ll,λv _=>v=.pointer (some ⟨N,7,none⟩),λv _=>v=nv t.hl,λv _=>v=nv lo,λv _=>v=vPt S,λv _=>v=nv x,λv _=>v=.pointer (some ⟨N,6,none⟩),λv _=>v=nv t.lh,λv _=>v=.pointer (some ⟨N,8,none⟩),λv _=>v=nv t.hh,λv _=>v=nv hi,λv _=>v=nv lo,λv _=>v=nv hi] [6,13]
        (set2G _ 0 0 (λm'=>StAt S s3 m') (λm'=>StAt S s4 m')) (by kernel_rfl) (by kernel_rfl) (by decide) hS4 rfl ?last (λ_ _ _ _ _ _ h=>h) (λ_ _ _ _ _ _ h=>h) ?plain ?step ?fin
       case last=>exact bL
       case plain=>(repeat' (first|exact trivial|apply And.intro)) <;> first|exact .inl rfl|(refine .inr ?_;intro s vals J bs w hstop hg hJ hS hG;clear hG;refine bS ?_;intro K HK;(first|(refine bJ ?_)|(go_wp2_with (fail)));exact bO)
       case step =>
        refine⟨⟨trivial,?_⟩,?_⟩
        . intro vals J bs w hg hJ hS hG
          have hG:bs=_:=hG;subst hG;refine bS ?_;intro K HK;go_wp2_with (go_at_call 146;(with_reducible refine yI (sbelow_any Hb1.out hli' hb11 hb13 HTl.out HAj.out hS) ?_);clear hS;rintro e w ⟨rfl,m',hA',hS⟩)
          exact HK.out _ _ ⟨rfl,J,_,PH.le.refl _,hS,rfl,m',hA',rfl⟩
        . intro vals J bs w hg hJ hS hG
          refine Veil.out ?_;obtain⟨mm,hmm,hG⟩:=hG;subst hG;refine⟨?_⟩;refine bS ?_;intro K HK;go_wp2_with (go_at_call 146;(with_reducible refine yI (sbelow_any Hb2.out hl3' hb12 hb14 HTl3.out hmm hS) ?_);clear hS;rintro e w ⟨rfl,m',hA',hS⟩)
          exact HK.out _ _ ⟨rfl,J,_,PH.le.refl _,hS,rfl,mm,m',hmm,hA',rfl⟩
       case fin =>
       intro vals J9 bs w hJ hg hS hG;obtain⟨_,m4,_,hA4,hns⟩:=hG;subst hns;have hS:=hS.less hJ;simp only[zG] at hS;have HA4:=yH hA4;clear hA4 hJ a5 a6 a7 a8 hS4;refine bH ?_;clear hg;go_wp2_with fail
       refine (smore_any _ _ _ lo m4 _ _ Hmo1.out hlo HA4.out hS).mono ?_;clear hS;rintro e w ⟨rfl,m5,hA5,hS⟩;have HA5:=yH hA5;clear hA5;go_wp2_with fail
       refine (smore_any _ _ _ hi m5 _ _ Hmo2.out hhi HA5.out hS).mono ?_;clear hS;rintro e w ⟨rfl,m6,hA6,hS⟩;have HA6:=yH hA6;clear hA6;have hS0':=HbN.out _ _ hS;go_wp2_with (first|((with_reducible refine Qe ?_);(refine' ldIN (vs:=[nv t.id,nv t.n.v,nv t.n.lo,nv t.n.hi,nv t.n.refs]) hS rfl rfl ty_agg194 rfl aN Qz ?_);refine aM ?_)|((with_reducible refine Xi 14 ?_);(refine' al (z:=_) hS0' rfl rfl Xb ?_);clear hS hS0' aN;intro O w hS;(try simp only[Value.cells] at hS);refine aM ?_)|(refine aS ?_;clear hS;intro w hS))
       have hS:=hS.perm (List.Perm.swap _ _ _);obtain⟨K5,k5,lN,hS5,_⟩:=hS.ice;obtain⟨K6,k6,lO,hS6,_⟩:=hS5.ice;have o2:K6.at O 2=some (nv t.n.lo):=PH.at_le lO (Qb rfl);have o3:K6.at O 3=some (nv t.n.hi):=PH.at_le lO (Qb rfl);have nid:K6.at N 0=some (nv t.id):=PH.at_le (lN.trans k6) (Qb rfl);have aN:Cells K6 N 0 [nv t.id,nv y,nv lo,nv hi,nv t.n.refs]:=λq u hq=>by
        have:=((Cells.one N #[nv t.id,nv y,nv lo,nv hi,nv t.n.refs,nv t.ll,nv t.lh,nv t.hl,nv t.hh] 225 (0,0)).le (lN.trans k6)) q u (by
         match q,hq with
         | 0,hq=>exact hq
         | 1,hq=>exact hq
         | 2,hq=>exact hq
         | 3,hq=>exact hq
         | 4,hq=>exact hq
         | q+5,hq=>simp at hq)
        exact this
       have hK6:J2.le K6:=k5.trans k6;have HK6:=yH hK6;obtain⟨K7,P7,mP,ns7,k7,iS1,hP7,hS7,hfin7⟩:=HA6.out.openPool hS6;have aN7:=aN.le k7;have Hfin7:=yH hfin7;have HP7:=yH hP7;clear hS hS5 hS6 k5 lN lO k6 hfin7 hP7 aN hK6 k7 HbN;refine Qf [[],[0],[0,1],[0,1,2],[],[4],[0,1,2,3,4,5]] E K7 _
        [λv _=>v=vPt S,λv _=>v=vPt S,λv _=>v=.pointer (some ⟨S,1,none⟩),λv _=>v=vPt P7,λv _=>v=vPt N,λv _=>v=ndA t.id { t.n with v:=y,lo:=lo,hi:=hi },λ_ _=>True] [6]
        (set1G _ 0 (λm'=>PoolAt P7 (s6.pl.put t.id { t.n with v:=y,lo:=lo,hi:=hi }) m')) (by kernel_rfl) (by kernel_rfl) (by decide) hS7 rfl ?last (λ_ _ _ _ _ _ h=>h) (λ_ _ _ _ _ _ h=>h) ?plain ?step ?fin
       case last=>exact bL
       case plain=>(repeat' (first|exact trivial|apply And.intro)) <;> first|exact .inl rfl|(refine .inr ?_;intro s vals J bs w hstop hg hJ hS hG;clear hG;refine bS ?_;intro K HK;(first|(refine bJ ?_)|(go_wp2_with (fail)));exact bO)
       case step =>
        refine⟨trivial,?_⟩;intro vals J bs w hg hJ hS hG;have hG:bs=_:=hG;subst hG;refine bS ?_;intro K HK;go_wp2_with (go_at_call 137;(with_reducible refine yI (pset_any _ _ _ _ _ P7 s6.pl t.id { t.n with v:=y,lo:=lo,hi:=hi } old Hold.out Hfitn.out HP7.out hS) ?_);clear hS;rintro e w ⟨rfl,mP',hP',hS⟩)
        exact HK.out _ _ ⟨rfl,J,_,PH.le.refl _,hS,trivial,mP',hP',rfl⟩
       case fin =>
       intro vals J9 bs w hJ hg hS hG;obtain⟨mP',hP',hns⟩:=hG;subst hns;have hS:=hS.less hJ;obtain⟨m8,hA8,hS8⟩:=Hfin7.out mP' _ w hP' hS;refine bH ?_;clear hg hS hP' hJ iS1 aN7 Hfin7 hS7;have hy8:y<({ s6 with pl:=s6.pl.put t.id { t.n with v:=y,lo:=lo,hi:=hi } }:G.St).tabs.length:=hy6;obtain⟨K8,T8,cT8,g8,tm8,ns8,k8,iS8,iT8,hTb8,hS9,hfin8⟩:=hA8.openTab hy8 hS8;have iS8:K8.at S 2=some (.slice (some ⟨T8,0,none⟩) s6.tabs.length cT8):=iS8;rw[hl6] at iS8;have hTb8:TabAt g8 (s6.tab y) tm8:=hTb8;have nid8:=PH.at_le k8 nid;have Hfin8:=yH hfin8;have HTb8:=yH hTb8;clear hfin8 hTb8 hS8 hA8 k8 hy8 nid;go_wp2_with fail
       refine Qf [[],[0],[0,1],[0,1,2],[],[0,1,2,3,4],[0,1,2,3,4,5],[],[],[],[9],[9,10],[0,1,2,3,4,5,6,7,8,9,10,11]] E K8 _
        [λv _=>v=vPt S,λv _=>v=vPt S,λv _=>v=.pointer (some ⟨S,2,none⟩),λv _=>v=.slice (some ⟨T8,0,none⟩) sf.tabs.length cT8,λv _=>v=nv y,λv _=>v=.pointer (some ⟨T8,y,none⟩),λv _=>v=vPt g8,λv _=>v=nv lo,λv _=>v=nv hi,λv _=>v=vPt N,λv _=>v=vPt N,λv _=>v=nv t.id,λ_ _=>True] [12]
        (set1G _ 0 (λm'=>TabAt g8 (G.putT (s6.tab y) lo hi t.id) m')) (by kernel_rfl) (by kernel_rfl) (by decide) hS9 rfl ?last (λ_ _ _ _ _ _ h=>h) (λ_ _ _ _ _ _ h=>h) ?plain ?step ?fin
       case last=>exact bL
       case plain=>(repeat' (first|exact trivial|apply And.intro)) <;> first|exact .inl rfl|(refine .inr ?_;intro s vals J bs w hstop hg hJ hS hG;clear hG;refine bS ?_;intro K HK;(first|(refine bJ ?_)|(go_wp2_with (fail)));exact bO)
       case step =>
        refine⟨trivial,?_⟩;intro vals J bs w hg hJ hS hG;have hG:bs=_:=hG;subst hG;refine bS ?_;intro K HK;go_wp2_with (go_at_call 148;(with_reducible refine yI (tput_any HTb8.out lo hi t.id hS) ?_);clear hS;rintro e w ⟨⟨c9,rfl⟩,tm',hT',hS⟩)
        exact HK.out _ _ ⟨rfl,J,_,PH.le.refl _,hS,trivial,tm',hT',rfl⟩
       case fin =>
       intro vals J9 bs w hJ hg hS hG;obtain⟨tm',hT',hns⟩:=hG;subst hns;have hS:=hS.less hJ;obtain⟨m9,hA9,hS9'⟩:=Hfin8.out tm' _ w hT' hS;have HA9:=yH hA9;refine bH ?_;clear hg hS hT' hJ iS8 iT8 nid8 Hfin8 hA9 hS9;have hS:=hS9';clear hS9';go_wp2_with (first|(refine aL ?_))
       refine (sless_any _ _ _ t.n.lo m9 _ _ Hle1.out hnlo HA9.out hS).mono ?_;clear hS;rintro e w ⟨rfl,m10,hA10,hS⟩;have HA10:=yH hA10;clear hA10;go_wp2_with (first|(refine aL ?_))
       refine (sless_any _ _ _ t.n.hi m10 _ _ Hle3.out hnhi HA10.out hS).mono ?_;clear hS;rintro e w ⟨rfl,m11,hA11,hS⟩;have HA11:=yH hA11;clear hA11;go_wp2_with fail
       exact⟨⟨j+1,sn,m11,by omega,by go_num,Hrest.out,Hsan.out,hln,Hndn.out,HA11.out,hS.less HK6.out⟩,by simp[intOf];omega⟩
     . have hji:j=i:=by omega
       subst hji;have htu:=Htu2.out;rw[kAb (by omega)] at htu;injection htu with htu
       subst htu;go_wp2_with fail
       refine (scollect_any Hcol2.out Hsi.out.pl HAj.out hS).mono ?_;clear hS;rintro e w ⟨rfl,m9,hA9,hS⟩;have HA9:=yH hA9;clear hA9;go_wp2_with fail
       go_ret;exact⟨rfl,m9,HA9.out,hS.less HlI.out⟩
end
end Go.Proofs.YtidamcdklgfogaaGreat
