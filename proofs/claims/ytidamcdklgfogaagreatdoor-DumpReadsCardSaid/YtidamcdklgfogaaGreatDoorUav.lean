import Derived.Test.YtidamcdklgfogaaGreatDoorUau
import Derived.Laws.CopyOwn
set_option linter.unusedVariables false
set_option linter.unusedSimpArgs false
set_option maxRecDepth 100000
set_option maxHeartbeats 8000000
namespace Go.Proofs.YtidamcdklgfogaaGreatDoor
section
open Go.RowKit
section
variable {P:Program} {o:Oper} {a:Act} {w E:World} {Q:Exit->Act->World->Prop} {I:PH} {ms:List PH} {ops:Array Oper} {rest:List Oper}
theorem cpyR (k:Nat) (hS:Sat E I ms w) (hg:o.guard=none) {cur:Array Value} {T':TypeId} {X n c:Nat} (hm:ms[k]?=some (PH.one X (.cells cur T'))) (hcn:cur.size=n) {d s:Operand} {dT sT:TypeId} (ho:o.op=.call { callee:=.builtin .copy,args := #[d,s],argTypes := #[dT,sT] })
  {elem:TypeId} (hu:P.underlying dT=some (.slice elem)) (hsz:(P.info? elem).map (·.size)=some 1) (hd:a.eval d=.slice (some ⟨X,0,none⟩) n c) {A:Option Addr} {c2:Nat} (hs:a.eval s=.slice A n c2) {p:PH} (hp:Src I ms p) {news:List Value} (hl:news.length=n) (hnews:0<n->∃ Y off,A=some ⟨Y,off,none⟩/\Cells p Y off news) (h1:∀ v ∈ news,v.oneCell'=true)
  (h:∀ w',Sat E I (ms.set k (PH.one X (.cells news.toArray T'))) w'->wpList P ops Q rest (a.put o.dst (goInt n)) w'):wpList P ops Q (o::rest) a w:=by
 have h0:=hS.perm (Kg k hm);have hgd:=h0.own _ (.head _) X _ (PH.one_self _ _);rcases kMb n with hn|hn
 . subst hn
   have e1:news=[]:=jJa hl;have e2:cur = #[]:=Array.eq_empty_of_size_eq_zero hcn;subst e1 e2;refine wpList_copy_nothing hg d s dT sT ho elem hu hsz _ A 0 c 0 c2 hd hs rfl (h w ?_);exact h0.perm (Ko k hm)
 . obtain ⟨Y,off,rfl,hc⟩:=hnews hn
   refine wpList_copy_own hg d s dT sT ho elem hu hsz X 0 n c ⟨Y,off,none⟩ n c2 hd hs cur T' hgd news (by rw [hl];exact (Nat.min_self n).symm) (fun j v hj=>?_) (by rw [hl,hcn,jR];exact jBb _) h1 ?_
   . have:=Qn (hS.src hp) (hc j v hj)
     rwa [show (⟨Y,off,none⟩:Addr).add j=⟨Y,off+j,none⟩ by unfold Addr.add;split <;> simp_all]
   . rw [hl]
     refine h _ ?_;have e:cur.toList.take 0 ++ (news ++ cur.toList.drop (0+news.length))=news:=by
      rw [List.take_zero,List.nil_append,kLb (by rw [hl,jR];simp [hcn]),jYa]
     rw [hl] at e;rw [e];exact (setRow_step h0).perm (Ko k hm)
end
theorem isCopyB {P:Program} {a:Act} {w:World} {Q:Exit->Act->World->Prop} {ops:Array Oper} {rest:List Oper} {dst:Option Tmp} {type:TypeId} {pos:String} {after:Array Edge} {x y:Operand} {t u:TypeId} (h:wpList P ops Q (⟨dst,.call { callee:=.builtin .copy,args := #[x,y],argTypes := #[t,u] },type,pos,after,none⟩::rest) a w):wpList P ops Q (⟨dst,.call { callee:=.builtin .copy,args := #[x,y],argTypes := #[t,u] },type,pos,after,none⟩::rest) a w:=h
theorem int_size:(Tryz.prog.info? 3).map (·.size)=some 1:=by kernel_rfl
theorem NumR.cells {I:PH} {A:Option Addr} {c:Nat} {l:List Nat} (h:NumR I (.slice A l.length c) l):0<l.length->∃ Y off,A=some ⟨Y,off,none⟩/\Cells I Y off (l.flatMap ivC):=fun hn=>by
 obtain ⟨Y,c',hv,hc⟩:=h.2 hn;injection hv with e1 _ e2
 refine ⟨Y,0,e1,fun j v hj=>?_⟩;have he:∀ l:List Nat,l.flatMap ivC=l.map nv:=fun l=>by
  induction l with
  | nil=>rfl
  | cons x l ih=>rw [jO,ih];rfl
 rw [he,jNb] at hj;cases hx:l[j]? with
 | none=>rw [hx] at hj;cases hj
 | some x =>
   rw [hx] at hj;cases hj;rw [jR];exact hc j x hx
theorem iv_all (l:List Nat):∀ v ∈ l.flatMap ivC,v.oneCell'=true:=fun v hv=>by
 obtain ⟨x,_,hx⟩:=kXa.1 hv;simp only [ivC,jMa] at hx;subst hx;rfl
theorem iv_length (l:List Nat):(l.flatMap ivC).length=l.length:=by rw [Zh Ky,jG]
theorem pclone_any {w:World} {v:Value} {l:List Nat} (hl:NumR (Qa w) v l) (hn:l.length<=1000000) :
  Calls Tryz.prog 168 #[v] w fun e w'=>∃ X,e=.returned (.slice (some ⟨X,0,none⟩) l.length l.length)/\Sat w (Qa w) [PH.one X (.cells (l.flatMap ivC).toArray 3)] w':=by
 obtain ⟨⟨A,c,rfl⟩,_⟩:=id hl;have HC:=yH hl.cells;have HL:=yH (iv_length l);have HA:=yH (iv_all l);clear hl;have hS:=Sat.start w;generalize l.flatMap ivC=xs at *
 generalize l.length=n at *
 go_enter Tryz.func168,Tryz.ntmps168;go_wp2_with (first|((with_reducible refine isMake ?_);refine mks hS rfl rfl Tryz.underlying24 Xw rfl rfl rfl rfl (jBb _) (by omega) (by omega) ?_;clear hS;intro X w hS;generalize hmc:madeCells _ _=mc at hS;have HM:=yH hmc;clear hmc;(try simp only [Act.put,zE,zF,zG]))|((with_reducible refine isCopyB ?_);refine cpyR 0 hS rfl rfl (by rw [<- HM.out,size_madeCells,jG]) rfl Tryz.underlying24 int_size rfl rfl (.inl (PH.le.refl _)) HL.out HC.out HA.out ?_;clear hS;intro w hS;(try simp only [zG] at hS);(try simp only [Act.put,zE,zF,zG])))
 go_ret;exact ⟨X,rfl,hS⟩
theorem sindex_any {w:World} {v:Value} {l:List Nat} (hl:NumR (Qa w) v l) (hn:l.length<=1000000) (x:Nat) (hx:x ∈ l) :
  Calls Tryz.prog 169 #[v,nv x] w fun e w'=>e=.returned (nv (l.idxOf x))/\w=w':=by
 obtain ⟨⟨A,c,rfl⟩,hr⟩:=hl;have hS:=Sat.start w;have HR:=yH hr;have hlt:=List.idxOf_lt_length_iff.2 hx;have hget:l[l.idxOf x]?=some x:=by rw [yA hlt,List.getElem_idxOf]
 have hbef:∀ i,i<l.idxOf x->l[i]?≠some x:=fun i hi h=>by
  have:=List.not_of_lt_findIdx (p:=fun y=>y == x) (xs:=l) (i:=i) hi;have hil:i<l.length:=by omega
  rw [yA hil] at h;injection h with h
  rw [h] at this;simp at this
 have HG:=yH hget;have HB:=yH hbef;clear hr hx hget hbef;generalize hN:l.length=N at *
 have HLn:=yH hN;generalize l.idxOf x=ix at *
 clear hN;go_enter Tryz.func169,Tryz.ntmps169;go_wp2_with fail
 go_loopw [8] (fun v8 wr=>∃ i:Nat,i<=ix/\v8=.int .i64 (i:Int)/\wr=w) (fun v8 _=>(N - intOf v8).toNat)
 case atStart=>exact ⟨0,jCa _,rfl,rfl⟩
 case round =>
  obtain ⟨i,hi,rfl,rfl⟩:=hrel;have hiN:(i:Int)<(N:Int):=by omega
  obtain ⟨Y,c',hY,hcell⟩:=HR.out (by omega);injection hY with hA hB hC
  subst hA hC;obtain ⟨y,hy⟩:∃ y,l[i]?=some y:=⟨_,yA (by rw [HLn.out];omega)⟩;have hcell:=hcell i _ hy;by_cases he:i=ix
  . subst he
    rw [HG.out] at hy;cases hy;go_wp2_with (first|(refine aL ?_))
    go_ret;exact ⟨rfl,rfl⟩
  . have hne:y≠x:=fun h=>HB.out i (by omega) (by rw [hy,h])
    have d1:((x:Int) == (y:Int))=false:=by simp;omega
    clear hne hy;go_wp2_with (first|(refine aL ?_))
    exact ⟨⟨i+1,by omega,by go_num,trivial⟩,by simp [intOf];omega⟩
theorem rev_step {l:List Nat} {n i:Nat} {r:List Nat} (hn:l.length=n) (hr:r.length=n) (hi:2 * i+1<n) (h:∀ k,k<n->r[k]?=if k<i\/n - 1 - i<k then l[n - 1 - k]? else l[k]?) {x y:Nat} (hx:r[i]?=some x) (hy:r[n - 1 - i]?=some y) :
  ∀ k,k<n->((r.set i y).set (n - 1 - i) x)[k]?=if k<i+1\/n - 1 - (i+1)<k then l[n - 1 - k]? else l[k]?:=fun k hk=>by
 have hx':=h i (by omega);have hy':=h (n - 1 - i) (by omega);rw [jAb (by omega)] at hx' hy';rw [kJa,kJa];by_cases e1:n - 1 - i=k
 . rw [jAa e1,jAa (by simp;omega),jAa (by omega)]
   rw [show n - 1 - k=i by omega,<- hx',hx]
 . rw [jAb e1]
   by_cases e2:i=k
   . rw [jAa e2,jAa (by omega),jAa (by omega)]
     rw [<- e2,<- hy',hy]
   . rw [jAb e2,h k hk]
     by_cases e3:k<i\/n - 1 - i<k
     . rw [jAa e3,jAa (by omega)]
     . rw [jAb e3,jAb (by omega)]
theorem rev_end {l r:List Nat} {n i:Nat} (hn:l.length=n) (hr:r.length=n) (hi:n<=2 * i+1) (h:∀ k,k<n->r[k]?=if k<i\/n - 1 - i<k then l[n - 1 - k]? else l[k]?):r=l.reverse:=by
 apply kCa;intro k;rcases jY k n with hk|hk
 . rw [h k hk,List.getElem?_reverse (by omega),hn]
   by_cases e:k<i\/n - 1 - i<k
   . rw [jAa e]
   . rw [jAb e,show n - 1 - k=k by omega]
 . rw [jKa (by omega),jKa (by simp;omega)]
theorem sreverse_any {E w:World} {I m:PH} {ms:List PH} {X n c:Nat} {l:List Nat} (hO:OwnP m 3 1 (.slice (some ⟨X,0,none⟩) n c) n (l.flatMap ivC)) (hl:l.length=n) (hn:n<=1000000) (hS:Sat E I (m::ms) w) :
  Calls Tryz.prog 170 #[.slice (some ⟨X,0,none⟩) n c] w fun e w'=>e=.returned (.tuple #[])/\∃ m',OwnP m' 3 1 (.slice (some ⟨X,0,none⟩) n c) n (l.reverse.flatMap ivC)/\Sat E I (m'::ms) w':=by
 have HO:=yH hO;have HL:=yH hl;clear hO hl;go_enter Tryz.func170,Tryz.ntmps170;go_wp2_with fail
 go_loopw [2,3] (fun v2 v3 wr=>∃ (i:Nat) (z:Int) (r:List Nat) (m:PH),2 * i<=n+1/\v2=.int .i64 (i:Int)/\v3=.int .i64 z/\z=(n:Int) - 1 - i/\r.length=n/\(∀ k,k<n->r[k]?=if k<i\/n - 1 - i<k then l[n - 1 - k]? else l[k]?)/\OwnP m 3 1 (.slice (some ⟨X,0,none⟩) n c) n (r.flatMap ivC)/\Sat E I (m::ms) wr) (fun v2 _ _=>(n - intOf v2).toNat)
 case atStart=>exact ⟨0,_,l,m,by omega,rfl,rfl,by simp,HL.out,fun k hk=>by rw [jAb (by omega)],HO.out,hS⟩
 case round =>
  clear HO hS;obtain ⟨i,z,r,m,hi,rfl,rfl,hz,hr,hk,hO,hS⟩:=hrel;by_cases hlt:2 * i+1<n
  . obtain ⟨j,rfl⟩:∃ j:Nat,z=(j:Int):=⟨z.toNat,by omega⟩
    have hjn:n - 1 - i=j:=by omega
    obtain ⟨x,hx⟩:∃ x,r[i]?=some x:=⟨_,yA (by omega)⟩;obtain ⟨y,hy⟩:∃ y,r[j]?=some y:=⟨_,yA (by omega)⟩;have hst:=rev_step HL.out hr hlt hk hx (by rw [hjn];exact hy);rw [hjn] at hst;have HSt:=yH hst;clear hst;have cX:Cells m X i (ivC x):=by have:=Qu Ky hO hx;rwa [jG] at this
    have cY:Cells m X (j) (ivC y):=by have:=Qu Ky hO hy;rwa [jG] at this
    have pX:m.at X i=some (nv x):=cX.at 0 rfl;have pY:m.at X (j)=some (nv y):=cY.at 0 rfl;have h1:∀ m',OwnP m' 3 1 (.slice (some ⟨X,0,none⟩) n c) n (spl (r.flatMap ivC) i (Value.cells (nv y)).toList)->OwnP m' 3 1 (.slice (some ⟨X,0,none⟩) n c) n ((r.set i y).flatMap ivC):=fun m' h=>own_set (by omega) h
    have h2:∀ m',OwnP m' 3 1 (.slice (some ⟨X,0,none⟩) n c) n (spl ((r.set i y).flatMap ivC) (j) (Value.cells (nv x)).toList)->OwnP m' 3 1 (.slice (some ⟨X,0,none⟩) n c) n (((r.set i y).set (j) x).flatMap ivC):=fun m' h=>own_set (by simp;omega) h
    have H1:=yH h1;have H2:=yH h2;have HO:=yH hO;have hrl:=yH (show ((r.set i y).set (j) x).length=n by simpa using hr);generalize ((r.set i y).set (j) x)=r2 at *
    generalize (r.set i y)=r1 at *
    have hj:j<n:=by omega
    have hii:i<n:=by omega
    have hij:(i:Int)<(j:Int):=by omega
    have jN:(j:Int)<(n:Int):=by omega
    have j0:(0:Int)<(j:Int):=by omega
    have iN:(i:Int)<(n:Int):=by omega
    clear hx hy cX cY h1 h2 hO hk hr;have HJ:=yH hz;clear hz hjn;go_wp2_with fail
    refine Qg [[],[],[],[],[],[],[4,5],[4,5,6],[],[],[8,9],[8,9,10],[0,1,4,5,6,7,8,9,10,11],[0,1,4,5,6,7,8,9,10,11,12],[0,1,2,3,4,5,6,7,8,9,10,11,12,13],[0,1,2,3,4,5,6,7,8,9,10,11,12,13,14]] E I _
     [fun v _=>v=.slice (some ⟨X,0,none⟩) n c,fun v _=>v=nv i,fun v _=>v=.slice (some ⟨X,0,none⟩) n c,fun v _=>v=nv j,fun v _=>v=.slice (some ⟨X,0,none⟩) n c,fun v _=>v=nv j,fun v _=>v=.pointer (some ⟨X,j,none⟩),fun v _=>v=nv y,fun v _=>v=.slice (some ⟨X,0,none⟩) n c,fun v _=>v=nv i,fun v _=>v=.pointer (some ⟨X,i,none⟩),fun v _=>v=nv x,fun v _=>v=.pointer (some ⟨X,i,none⟩),fun _ _=>True,fun v _=>v=.pointer (some ⟨X,j,none⟩),fun _ _=>True] [13,15]
     (set2G _ 0 0 (fun m'=>OwnP m' 3 1 (.slice (some ⟨X,0,none⟩) n c) n (r1.flatMap ivC)) (fun m'=>OwnP m' 3 1 (.slice (some ⟨X,0,none⟩) n c) n (r2.flatMap ivC))) (by kernel_rfl) (by kernel_rfl) (by decide) hS rfl ?last (fun _ _ _ _ _ _ h=>h) (fun _ _ _ _ _ _ h=>h) ?plain ?step ?fin
    case last=>exact bL
    case plain=>(repeat' (first|exact trivial|apply And.intro)) <;> first|exact .inl rfl|(refine .inr ?_;intro s vals J bs w hstop hg hJ hS hG;have h0:s<=0:=hstop;obtain rfl:s=0:=kUa.1 h0;have hG:bs=_:=hG;subst hG;refine bS ?_;intro K HK;((with_reducible refine Yg ?_);(refine' wp_ld1 (v:=_) (hS.mle (k:=0) rfl) rfl ?ha rfl ?hc ?_);(case ha=>first|exact Kl);(case hc=>assumption));exact bO)|(refine .inr ?_;intro s vals J bs w hstop hg hJ hS hG;clear hG;refine bS ?_;intro K HK;( (go_wp2_with (fail)));exact bO)
    case step =>
     refine ⟨⟨trivial,?_⟩,?_⟩
     . intro vals J bs w hg hJ hS hG
       have hG:bs=_:=hG;subst hG;refine bS ?_;intro K HK;refine Xf (i:=i) hS 0 rfl rfl rfl rfl HO.out (jG i).symm hii Yh rfl (iv_one y) fun m' w hO' hS=>?_
       exact HK.out _ _ ⟨rfl,J,_,PH.le.refl _,hS,trivial,m',H1.out _ hO',rfl⟩
     . intro vals J bs w hg hJ hS hG
       refine Veil.out ?_;obtain ⟨mm,hmm,hG⟩:=hG;subst hG;refine ⟨?_⟩;refine bS ?_;intro K HK;refine Xf (i:=j) hS 0 rfl rfl rfl rfl hmm (jG j).symm hj Yh rfl (iv_one x) fun m' w hO' hS=>?_
       exact HK.out _ _ ⟨rfl,J,_,PH.le.refl _,hS,trivial,mm,m',hmm,H2.out _ hO',rfl⟩
    case fin =>
     intro vals J9 bs w hJ hg hS hG;obtain ⟨_,m2,_,hO2,hns⟩:=hG;subst hns;have hS:=hS.less hJ;simp only [zG] at hS;have HO2:=yH hO2;clear hO2 hJ;simp only [yB,yC,Nat.reduceAdd,Below_,Facts,zH,zI,jGb,jMb] at hg;simp only [yB,yC,Nat.reduceAdd,Qb,Qe,Qd,zA,zB,zK,jC,Act.put,zE,zF,zG,hg];refine ⟨?_⟩;clear hg pX pY;go_wp2_with fail
     exact ⟨⟨i+1,_,r2,m2,by omega,by go_num,rfl,by have:=HJ.out;omega,hrl.out,HSt.out,HO2.out,hS⟩,by simp [intOf];omega⟩
  . have hN:=rev_end HL.out hr (by omega) hk
    have hd:¬ ((i:Int)<z):=by omega
    clear hz;subst hN;go_wp2_with fail
    go_end0
    exact ⟨rfl,m,hO,hS⟩
end
section
open Go.RowKit
def isArr (s:Nat->Bool):Array Value:=((List.range 64).map fun j=>Value.bool (s j)).toArray
theorem ty_z253:zeroB Tryz.prog 253=some (.agg (isArr fun _=>false)):=by kernel_rfl
theorem isArr_size (s:Nat->Bool):(isArr s).size=64:=by simp [isArr]
theorem isArr_set (s:Nat->Bool) (v:Nat):(isArr s).setIfInBounds v (.bool true)=isArr (fun j=>s j || decide (j=v)):=by
 apply Array.ext
 . simp [isArr]
 . intro i h1 h2
   simp only [isArr,zE,List.getElem_toArray,List.getElem_set,List.getElem_map,List.getElem_range];by_cases h:v=i
   . subst h;simp
   . rw [jAb h]
     simp [Ne.symm h]
theorem isArr_get (s:Nat->Bool) (k:Nat) (h:k<64):(isArr s).toList[k]?=some (.bool (s k)):=by
 simp [isArr,h]
theorem pturn_any {w:World} {v:Value} {l:List Nat} (hl:NumR (Qa w) v l) (hn:l.length<=1000000) :
  Calls Tryz.prog 152 #[v] w fun e w'=>∃ X m,e=.returned (.slice (some ⟨X,0,none⟩) l.length l.length)/\OwnP m 3 1 (.slice (some ⟨X,0,none⟩) l.length l.length) l.length (l.reverse.flatMap ivC)/\Sat w (Qa w) [m] w':=by
 obtain ⟨⟨A,c,rfl⟩,_⟩:=id hl;have HC:=yH (pclone_any hl hn);have HO:=yH (fun X=>OwnP.lit X 3 1 l.length (l.flatMap ivC).toArray (by unfold maxLen;omega) (by rw [jSa,iv_length,jG]));have HR:=yH (fun (E w':World) (I m:PH) (X:Nat) (hO:OwnP m 3 1 (.slice (some ⟨X,0,none⟩) l.length l.length) l.length (l.flatMap ivC)) (hS:Sat E I [m] w')=>sreverse_any (c:=l.length) hO rfl hn hS);clear hl;generalize l.length=n at *
 generalize l.flatMap ivC=xs at *
 generalize l.reverse.flatMap ivC=ys at *
 go_enter Tryz.func152,Tryz.ntmps152;go_wp2_with (first|(go_at_call 168;(with_reducible refine yI HC.out ?_);rintro e w1 ⟨X,rfl,hS⟩)|(go_at_call 170;(with_reducible refine yI (HR.out _ _ _ _ _ (HO.out X) hS) ?_);clear hS;rintro e w1 ⟨rfl,m,hO,hS⟩;have HO1:=yH hO;clear hO))
 go_ret;exact ⟨X,m,rfl,HO1.out,hS⟩
theorem pright_any {W:World} {v:Value} {l:List Nat} (hl:NumR (Qa W) v l) (hn:l.length<=64) (hp:∀ x ∈ l,x<l.length) (hd:l.Nodup) :
  Calls Tryz.prog 167 #[v] W fun e w'=>e=.returned (.bool true)/\Below W.heap.size W w':=by
 obtain ⟨⟨A,c,rfl⟩,hr⟩:=hl;have hS:=Sat.start W;have HR:=yH hr;have hmet:∀ i x,l[i]?=some x->x<l.length/\x ∉ l.take i/\∀ y,decide (y ∈ l.take (i+1))=(decide (y ∈ l.take i) || decide (y=x)):=fun i x hx=>by
  refine ⟨hp x (jDb hx),fun hm=>?_,fun y=>?_⟩
  . obtain ⟨k,hk⟩:=List.mem_iff_getElem?.1 hm
    rw [kEb] at hk;split at hk
    . obtain ⟨h1,e1⟩:=yE.1 hk
      obtain ⟨h2,e2⟩:=yE.1 hx;exact qA.1 hd k i h1 h2 (by assumption) (by rw [e1,e2])
    . cases hk
  . rw [jP,hx]
    simp [Bool.decide_or]
 have HM:=yH hmet;clear hr hp hd hmet;generalize hN:l.length=N at *
 have HLn:=yH hN;clear hN;go_enter Tryz.func167,Tryz.ntmps167;go_wp2_with fail
 go_loopw [3] (fun v3 wr=>∃ b:Nat,(b=0\/b=64)/\v3=.int .i64 (b:Int)/\Sat W (Qa W) [] wr) (fun v3 _=>(64 - intOf v3).toNat)
 case atStart=>exact ⟨0,.inl rfl,rfl,hS⟩
 case round =>
  clear hS;obtain ⟨b,hb,rfl,hS⟩:=hrel;by_cases hlt:b<N
  . obtain rfl:b=0:=by omega
    have h0:(0:Int)<(N:Int):=by omega
    have HZ:=yH (show isArr (fun _=>false)=isArr (fun y=>decide (y ∈ l.take 0)) by congr 1);simp only [Int.natCast_zero] at *
    go_wp2_with (first|((with_reducible refine Kh ?_);  ((with_reducible refine isAllocD 4 ?_);(refine' al (z:=_) hS rfl rfl ?ha ?_);(case ha=>exact ty_z253);clear hS;intro X4 w hS;(try simp only [Value.cells] at hS);(try simp only [Act.put,zE,zF,zG])) ))
    go_loopw [16] (fun v16 wr=>∃ i:Nat,i<=N/\v16=.int .i64 (i:Int)/\Sat W (Qa W) [PH.one X4 (.cells (isArr fun y=>decide (y ∈ l.take i)) 253)] wr) (fun v16 _=>(N - intOf v16).toNat)
    case atStart=>exact ⟨0,jCa _,rfl,by rw [<- HZ.out];exact hS⟩
    case round =>
     clear hS;obtain ⟨i,hi,rfl,hS⟩:=hrel;by_cases hlt2:i<N
     . obtain ⟨x,hx⟩:∃ x,l[i]?=some x:=⟨_,yA (by rw [HLn.out];exact hlt2)⟩
       obtain ⟨hxn,hxt,hxs⟩:=HM.out i x hx;obtain ⟨Y,c',hY,hcell⟩:=HR.out (by omega);injection hY with hA hB hC
       subst hA hC;have hcell:=hcell i _ hx;have hiN:(i:Int)<(N:Int):=by omega
       have x0:¬ ((x:Int)<0):=by omega
       have x1:¬ ((x:Int)≥(N:Int)):=by omega
       have x2:(x:Int)<64:=by omega
       have x3:x<64:=by omega
       have x4:(x:Int)≥0:=by omega
       have hc:(PH.one X4 (.cells (isArr fun y=>decide (y ∈ l.take i)) 253)).at X4 x=some (.bool false):=Qc (by rw [isArr_get _ x x3,jJb hxt]);have HB:=yH (show x<(isArr fun y=>decide (y ∈ l.take i)).size by rw [isArr_size];exact x3);have he:(isArr fun y=>decide (y ∈ l.take i)).setIfInBounds x (.bool true)=isArr fun y=>decide (y ∈ l.take (i+1)):=by
        rw [isArr_set];congr 1
        funext y
        exact (hxs y).symm
       have HE:=yH he;clear he hxs hxt hx hxn;generalize (isArr fun y=>decide (y ∈ l.take i))=arr at *
       go_wp2_with (first|((with_reducible refine isStore ?_);(refine st1 0 hS rfl rfl rfl rfl rfl ty_sz4 rfl rfl HB.out ?_;clear hS;intro w hS;simp only [zG] at hS;(try simp only [Act.put])))|((with_reducible refine Qp ?_);(refine' ldP1 (v:=_) (.inr (List.Mem.head _)) hS rfl rfl ty_agg4 rfl hc ?_);(try simp only [Act.put,zE,zF,zG]))|((with_reducible refine Kh ?_);first|((with_reducible refine Zd ?_);  ((with_reducible refine Qs ?hw ?_);case hw=>(simp only [Region.wanted,yielded,zC,zA,zB,zK,jPa];done)) )|((with_reducible refine Qp ?_);( ((refine' ldI1 (v:=_) hS rfl rfl ?ha rfl ?hb ?_);(case ha =>  exact Kl );(case hb=>assumption)));(try simp only [Act.put,zE,zF,zG])) ))
       exact ⟨⟨i+1,by omega,by go_num,by rw [<- HE.out];exact hS⟩,by simp [intOf];omega⟩
     . obtain rfl:i=N:=by omega
       go_wp2_with fail
       exact ⟨⟨64,.inr rfl,rfl,hS.drop⟩,by simp [intOf]⟩
  . have hbN:¬ ((b:Int)<(N:Int)):=by omega
    go_wp2_with fail
    go_ret;exact ⟨rfl,hS.end_ (PH.le.refl _)⟩
end
section
open Go.RowKit
theorem mv_step:∀ (at_:Nat) (L:List Nat) (v x:Nat),L[at_]?=some x->((L.insertIdx (at_+1) v).set at_ v).set (at_+1) x=L.insertIdx at_ v
 | 0,[],_,_,h=>by cases h
 | 0,y::t,v,x,h=>by
   simp only [zB,jEb] at h;subst h;simp
 | k+1,[],_,_,h=>by cases h
 | k+1,y::t,v,x,h=>by
   rw [zA] at h
   have:=mv_step k t v x h;simp only [List.insertIdx_succ_cons,zF,this]
theorem mv_zero:∀ (i:Nat) (l:List Nat) (v:Nat),l[i]?=some v->(l.eraseIdx i).insertIdx i v=l
 | 0,[],_,h=>by cases h
 | 0,y::t,v,h=>by
   simp only [zB,jEb] at h;subst h;simp
 | k+1,[],_,h=>by cases h
 | k+1,y::t,v,h=>by
   rw [zA] at h;rw [List.eraseIdx_cons_succ,List.insertIdx_succ_cons,mv_zero k t v h]
theorem mv_at:∀ (i:Nat) (L:List Nat) (v:Nat),i<=L.length->(L.insertIdx i v)[i]?=some v
 | 0,L,v,_=>by simp
 | k+1,[],v,h=>by simp at h
 | k+1,y::t,v,h=>by
   rw [List.insertIdx_succ_cons,zA];exact mv_at k t v (by simpa using h)
theorem mv_lt:∀ (i j:Nat) (L:List Nat) (v:Nat),j<i->(L.insertIdx i v)[j]?=L[j]?
 | 0,j,_,_,h=>by omega
 | k+1,j,[],v,h=>by simp
 | k+1,0,y::t,v,h=>by simp
 | k+1,j+1,y::t,v,h=>by
   rw [List.insertIdx_succ_cons,zA,zA];exact mv_lt k j t v (by omega)
theorem mv_take {l b:List Nat} {i idx v:Nat} (ht:l.take i=b.take i) (hi:i<=idx) (hidx:idx<l.length) (hb:b[i]?=some v):(((l.eraseIdx idx).insertIdx i v)).take (i+1)=b.take (i+1):=by
 apply kCa;intro k;rw [kEb,kEb];by_cases hk:k<i+1
 . rw [jAa hk,jAa hk]
   by_cases hki:k=i
   . subst hki
     rw [mv_at _ _ _ (by rw [kBb hidx];omega),hb]
   . rw [mv_lt _ _ _ _ (by omega),List.getElem?_eraseIdx,jAa (by omega)]
     have:=jQb (fun z=>z[k]?) ht;simp only [kEb] at this
     rwa [jAa (by omega),jAa (by omega)] at this
 . rw [jAb hk,jAb hk]
theorem mem_erase:∀ (i:Nat) (l:List Nat) (v y:Nat),l[i]?=some v->(y=v\/y ∈ l.eraseIdx i↔y ∈ l)
 | 0,[],_,_,h=>by cases h
 | 0,x::t,v,y,h=>by
   simp only [zB,jEb] at h;subst h;simp
 | k+1,[],_,_,h=>by cases h
 | k+1,x::t,v,y,h=>by
   rw [zA] at h
   have:=mem_erase k t v y h;rw [List.eraseIdx_cons_succ,jBa,jBa,<- this];constructor
   . rintro (h1|h1|h1)
     . exact .inr (.inl h1)
     . exact .inl h1
     . exact .inr (.inr h1)
   . rintro (h1|h1|h1)
     . exact .inr (.inl h1)
     . exact .inl h1
     . exact .inr (.inr h1)
theorem mv_mem {l:List Nat} {i idx v y:Nat} (hv:l[idx]?=some v) (hi:i<l.length):y ∈ (l.eraseIdx idx).insertIdx i v↔y ∈ l:=by
 have hlt:=(yE.1 hv).1;rw [List.mem_insertIdx (by rw [kBb hlt];omega)];exact mem_erase idx l v y hv
theorem mv_len {l:List Nat} {i idx v:Nat} (hi:i<l.length) (hlt:idx<l.length):((l.eraseIdx idx).insertIdx i v).length=l.length:=by
 rw [kP (by rw [kBb hlt];omega),kBb hlt];omega
theorem down_range (i idx:Nat) (h:i<=idx):G.downTo i (idx - i)=(List.range (idx - i)).map fun k=>idx - 1 - k:=by
 unfold G.downTo;apply jWb;intro k hk;rw [jZb] at hk;omega
theorem idx_get {l:List Nat} {x:Nat} (hx:x ∈ l):l[l.idxOf x]?=some x/\l.idxOf x<l.length:=by
 have hlt:=List.idxOf_lt_length_iff.2 hx;exact ⟨by rw [yA hlt,List.getElem_idxOf],hlt⟩
theorem steps_len:∀ (b:List Nat) (i:Nat) (now:List Nat) (n:Nat),now.length=n->(∀ x ∈ b,x ∈ now)->i+b.length<=n->(G.stepsP i b now).length<=b.length * n
 | [],i,now,n,_,_,_=>by unfold G.stepsP;simp
 | x::b,i,now,n,h,hm,hi=>by
   unfold G.stepsP;rw [yG,yB,kIb];rw [yB] at hi;obtain ⟨hg,hlt⟩:=idx_get (hm x (.head _));have h1:(G.downTo i (now.idxOf x - i)).length<=n:=by
    unfold G.downTo;rw [jHb,List.length_range];omega
   have h2:=steps_len b (i+1) ((now.eraseIdx (now.idxOf x)).insertIdx i x) n (by rw [mv_len (by omega) hlt,h]) (fun y hy=>(mv_mem hg (by omega)).2 (hm y (.tail _ hy))) (by omega);omega
theorem nodup_idx {l b:List Nat} {i x:Nat} (hd:b.Nodup) (ht:l.take i=b.take i) (hb:b[i]?=some x) (hx:x ∈ l):i<=l.idxOf x:=by
 refine Nat.le_of_not_lt fun hlt=>?_
 obtain ⟨hg,_⟩:=idx_get hx
 have:=jQb (fun z=>z[l.idxOf x]?) ht;simp only [kEb] at this;rw [jAa hlt,jAa hlt,hg] at this;obtain ⟨h1,e1⟩:=yE.1 this.symm;obtain ⟨h2,e2⟩:=yE.1 hb;exact qA.1 hd _ _ h1 h2 hlt (by rw [e1,e2])
theorem OwnP.numN {m:PH} {e:TypeId} {A:Option Addr} {n c:Nat} {l:List Nat} (h:OwnP m e 1 (.slice A n c) n (l.flatMap ivC)) (hl:l.length=n):NumR m (.slice A n c) l:=by subst hl;exact h.num
theorem psteps_any {W:World} {va vb:Value} {a b:List Nat} (ha:NumR (Qa W) va a) (hb:NumR (Qa W) vb b) (hab:a.length=b.length) (hn:b.length<=64) (pa:∀ x ∈ a,x<a.length) (da:a.Nodup) (pb:∀ x ∈ b,x<b.length) (db:b.Nodup) (hba:∀ x ∈ b,x ∈ a) :
  Calls Tryz.prog 151 #[va,vb] W fun e w'=>∃ v m,e=.returned (.tuple #[v,.int .i64 0])/\OwnP m 3 1 v (G.stepsP 0 b a).length ((G.stepsP 0 b a).flatMap ivC)/\Sat W (Qa W) [m] w':=by
 obtain ⟨⟨A,c,rfl⟩,_⟩:=id ha;obtain ⟨⟨B,c2,rfl⟩,_⟩:=id hb;have hS:=Sat.start W;have HRa:=yH (fun (w':World) (h:(Qa W).le (Qa w'))=>pright_any (ha.le h) (by omega) pa da);have HRb:=yH (fun (w':World) (h:(Qa W).le (Qa w'))=>pright_any (hb.le h) hn pb db);have HCl:=yH (fun (w':World) (h:(Qa W).le (Qa w'))=>pclone_any (ha.le h) (by omega));have HL:=yH (steps_len b 0 a b.length hab hba (by omega));have HD:=yH db;have HM:=yH hba;have HB:=yH hb.2;have HO:=yH (fun X=>OwnP.lit X 3 1 a.length (a.flatMap ivC).toArray (by unfold maxLen;omega) (by rw [jSa,iv_length,jG]));clear ha hb pa da pb db hba;rw [hab] at HRa HCl HO ⊢;have HAn:=yH hab;clear hab;generalize hN:b.length=N at *
 have HN:=yH hN;clear hN;have d0:((N:Int) != (N:Int))=false:=by simp
 go_enter Tryz.func151,Tryz.ntmps151;go_wp2_with (first|(go_at_call 167;first|((with_reducible refine bB hS (HRa.out _ hS.ile) ?_);clear hS;intro w9 hS)|((with_reducible refine bB hS (HRb.out _ hS.ile) ?_);clear hS;intro w9 hS))|(go_at_call 168;(with_reducible refine yI (HCl.out _ hS.ile) ?_);rintro e w ⟨X,rfl,hC⟩;replace hS:=hS.graft hC;clear hC)|(refine aG ?_))
 replace hS:Sat W (Qa W) [PH.one X (.cells (a.flatMap ivC).toArray 3),(fun _=>none)] w:=(hS.empty).perm (List.Perm.swap _ _ _);have hO0:=HO.out X;generalize PH.one X (.cells (a.flatMap ivC).toArray 3)=m0 at *
 have HO0:=yH hO0;clear hO0 HO HRa HRb HCl;go_loopw [6,30] (fun v6 v30 wr=>∃ (i:Nat) (now done:List Nat) (m1 m2:PH),i<=N/\v30=.int .i64 (i:Int)/\now.length=N/\(∀ x ∈ b,x ∈ now)/\now.take i=b.take i/\G.stepsP 0 b a=done ++ G.stepsP i (b.drop i) now/\OwnP m1 3 1 (.slice (some ⟨X,0,none⟩) N N) N (now.flatMap ivC)/\OwnP m2 3 1 v6 done.length (done.flatMap ivC)/\Sat W (Qa W) [m1,m2] wr) (fun _ v30 _=>(N - intOf v30).toNat)
 case atStart=>exact ⟨0,a,[],m0,fun _=>none,jCa _,rfl,HAn.out,HM.out,by simp,by simp,by simpa using HO0.out,OwnP.nil _ _,hS⟩
 case round =>
  clear hS HO0 HAn HM;obtain ⟨i,now,done,m1,m2,hi,rfl,hln,hmem,htk,hst,hO1,hO2,hS⟩:=hrel;by_cases hlt:i<N
  . obtain ⟨x,hx⟩:∃ x,b[i]?=some x:=⟨_,yA (by rw [HN.out];exact hlt)⟩
    obtain ⟨Y,c',hY,hcell⟩:=HB.out (by omega);injection hY with hA hB hC
    subst hA hC;have hcell:=hcell i _ hx;have hxm:=hmem x (jDb hx);obtain ⟨hg,hgl⟩:=idx_get hxm;have hge:=nodup_idx HD.out htk hx hxm;have hdr:b.drop i=x::b.drop (i+1):=by
     rw [jHa (by rw [HN.out];exact hlt)];congr 1
     have:=yA (l:=b) (i:=i) (by rw [HN.out];exact hlt);rw [hx] at this;injection this with this
     exact this.symm
    rw [hdr,G.stepsP,down_range i _ hge,<- jFb] at hst;have htk':=mv_take (v:=x) htk hge hgl hx;have hmem':=fun y (hy:y ∈ b)=>(mv_mem (y:=y) hg (show i<now.length by omega)).2 (hmem y hy)
    have hln':((now.eraseIdx (now.idxOf x)).insertIdx i x).length=N:=by rw [mv_len (by omega) hgl,hln]
    have hbound:done.length+(now.idxOf x - i)<=4096:=by
     have h1:=jQb List.length hst;simp only [yG,jHb,List.length_range] at h1;have h2:=HL.out;have h3:N * N<=64 * 64:=Nat.mul_le_mul hn hn;omega
    have HIx:=yH (fun (w':World) (h:m1.le (Qa w'))=>sindex_any ((hO1.numN hln).le h) (by omega) x hxm);have hiN:(i:Int)<(N:Int):=by omega
    have HT:=yH (And.intro htk' (And.intro hmem' (And.intro hln' hst)));have hEl:(now.eraseIdx (now.idxOf x)).length+1=N:=by rw [kBb hgl];omega
    have HZ:=yH (mv_zero _ _ _ hg);clear htk' hmem' hln' hst htk hmem hdr hg hxm;generalize now.eraseIdx (now.idxOf x)=L at *
    generalize now.idxOf x=ix at *
    have HO1:=yH hO1;have HO2:=yH hO2;clear hO1 hO2;go_wp2_with (first|(go_at_call 169;with_reducible refine bC (HIx.out _ (hS.mle (k:=0) rfl)) ?_)|(refine aL ?_))
    go_loopw [6,10] (fun v6 v10 wr=>∃ (s j:Nat) (m1 m2:PH),j+s=ix/\i<=j/\v10=.int .i64 (j:Int)/\OwnP m1 3 1 (.slice (some ⟨X,0,none⟩) N N) N ((L.insertIdx j x).flatMap ivC)/\OwnP m2 3 1 v6 (done.length+s) ((done ++ (List.range s).map fun k=>ix - 1 - k).flatMap ivC)/\Sat W (Qa W) [m1,m2] wr) (fun _ v10 _=>(intOf v10).toNat)
    case atStart=>exact ⟨0,ix,m1,m2,rfl,hge,rfl,by rw [HZ.out];exact HO1.out,by simpa using HO2.out,hS⟩
    case round =>
     clear hS HO1 HO2 HIx HZ;obtain ⟨s,j,m1,m2,hjs,hij,rfl,hO1,hO2,hS⟩:=hrel;by_cases hsi:i<j
     . obtain ⟨k,hk⟩:∃ k,j=k+1:=⟨j - 1,by omega⟩
       obtain ⟨y,hy⟩:∃ y,L[k]?=some y:=⟨_,yA (by omega)⟩;have hr2:((L.insertIdx j x).set k x).set j y=L.insertIdx k x:=by rw [hk];exact mv_step k L x y hy
       have hlr:(L.insertIdx j x).length=N:=by rw [kP (by omega)];exact hEl
       have gX:(L.insertIdx j x)[j]?=some x:=mv_at _ _ _ (by omega);have gY:(L.insertIdx j x)[k]?=some y:=by rw [mv_lt _ _ _ _ (by omega),hy]
       have cX:Cells m1 X j (ivC x):=by have:=Qu Ky hO1 gX;rwa [jG] at this
       have cY:Cells m1 X k (ivC y):=by have:=Qu Ky hO1 gY;rwa [jG] at this
       have pX:m1.at X j=some (nv x):=cX.at 0 rfl;have pY:m1.at X k=some (nv y):=cY.at 0 rfl;generalize hr0:L.insertIdx j x=r at *
       have h1:∀ m',OwnP m' 3 1 (.slice (some ⟨X,0,none⟩) N N) N (spl (r.flatMap ivC) k (Value.cells (nv x)).toList)->OwnP m' 3 1 (.slice (some ⟨X,0,none⟩) N N) N ((r.set k x).flatMap ivC):=fun m' h=>own_set (by omega) h
       have h2:∀ m',OwnP m' 3 1 (.slice (some ⟨X,0,none⟩) N N) N (spl ((r.set k x).flatMap ivC) j (Value.cells (nv y)).toList)->OwnP m' 3 1 (.slice (some ⟨X,0,none⟩) N N) N (((r.set k x).set j y).flatMap ivC):=fun m' h=>own_set (by simp;omega) h
       rw [hr2] at h2;have H1:=yH h1;have H2:=yH h2;have HOw:=yH hO1;have HOd:=yH hO2;generalize (r.set k x)=r1 at *
       generalize hr2':L.insertIdx k x=r2 at *
       have HR2:=yH hr2';have HKs:=yH (And.intro hk hjs);have hkN:k<N:=by omega
       have hk1N:j<N:=by omega
       have hgt:(j:Int) > (i:Int):=by omega
       have hk1I:(j:Int)<(N:Int):=by omega
       have hkI:(k:Int)<(N:Int):=by omega
       have hkk:(j:Int) - 1=(k:Int):=by omega
       have hds:done.length+s+1<=5000:=by omega
       clear hO1 hO2 h1 h2 hr2 gX gY cX cY hr0 hr2' hk hy hjs;go_wp2_with fail
       refine Qg [[],[],[1],[],[],[],[],[5,6],[5,6,7],[],[],[10],[9,10,11],[9,10,11,12],[0,1,2,5,6,7,8,9,10,11,12,13],[0,1,2,5,6,7,8,9,10,11,12,13,14],[0,1,2,3,4,5,6,7,8,9,10,11,12,13,14,15],[0,1,2,3,4,5,6,7,8,9,10,11,12,13,14,15,16]] W (Qa W) _
        [fun v _=>v=.slice (some ⟨X,0,none⟩) N N,fun v _=>v=nv j,fun v _=>v=nv k,fun v _=>v=.slice (some ⟨X,0,none⟩) N N,fun v _=>v=nv j,fun v _=>v=.slice (some ⟨X,0,none⟩) N N,fun v _=>v=nv j,fun v _=>v=.pointer (some ⟨X,j,none⟩),fun v _=>v=nv x,fun v _=>v=.slice (some ⟨X,0,none⟩) N N,fun v _=>v=nv j,fun v _=>v=nv k,fun v _=>v=.pointer (some ⟨X,k,none⟩),fun v _=>v=nv y,fun v _=>v=.pointer (some ⟨X,k,none⟩),fun _ _=>True,fun v _=>v=.pointer (some ⟨X,j,none⟩),fun _ _=>True] [15,17]
        (set2G _ 0 0 (fun m'=>OwnP m' 3 1 (.slice (some ⟨X,0,none⟩) N N) N (r1.flatMap ivC)) (fun m'=>OwnP m' 3 1 (.slice (some ⟨X,0,none⟩) N N) N (r2.flatMap ivC))) (by kernel_rfl) (by kernel_rfl) (by decide) hS rfl ?last (fun _ _ _ _ _ _ h=>h) (fun _ _ _ _ _ _ h=>h) ?plain ?step ?fin
       case last=>exact bL
       case plain=>(repeat' (first|exact trivial|apply And.intro)) <;> first|exact .inl rfl|(refine .inr ?_;intro s vals J bs w hstop hg hJ hS hG;have h0:s<=0:=hstop;obtain rfl:s=0:=kUa.1 h0;have hG:bs=_:=hG;subst hG;refine bS ?_;intro K HK;((with_reducible refine Yg ?_);(refine' wp_ld1 (v:=_) (hS.mle (k:=0) rfl) rfl ?ha rfl ?hc ?_);(case ha=>first|exact Kl);(case hc=>assumption));exact bO)|(refine .inr ?_;intro s vals J bs w hstop hg hJ hS hG;clear hG;refine bS ?_;intro K HK;( (go_wp2_with (fail)));exact bO)
       case step =>
        refine ⟨⟨trivial,?_⟩,?_⟩
        . intro vals J bs w hg hJ hS hG
          have hG:bs=_:=hG;subst hG;refine bS ?_;intro K HK;refine Xf (i:=k) hS 0 rfl rfl rfl rfl HOw.out (jG k).symm hkN Yh rfl (iv_one x) fun m' w hO' hS=>?_
          exact HK.out _ _ ⟨rfl,J,_,PH.le.refl _,hS,trivial,m',H1.out _ hO',rfl⟩
        . intro vals J bs w hg hJ hS hG
          refine Veil.out ?_;obtain ⟨mm,hmm,hG⟩:=hG;subst hG;refine ⟨?_⟩;refine bS ?_;intro K HK;refine Xf (i:=j) hS 0 rfl rfl rfl rfl hmm (jG _).symm hk1N Yh rfl (iv_one y) fun m' w hO' hS=>?_
          exact HK.out _ _ ⟨rfl,J,_,PH.le.refl _,hS,trivial,mm,m',hmm,H2.out _ hO',rfl⟩
       case fin =>
        intro vals J9 bs w hJ hg hS hG;obtain ⟨_,m3,_,hO3,hns⟩:=hG;subst hns;have hS:=hS.less hJ;simp only [zG] at hS;have HO3:=yH hO3;clear hO3 hJ;simp only [yB,yC,Nat.reduceAdd,Below_,Facts,zH,zI,jGb,jMb] at hg;simp only [yB,yC,Nat.reduceAdd,Qb,Qe,Qd,zA,zB,zK,jC,Act.put,zE,zF,zG,hg];refine ⟨?_⟩;clear hg pX pY H1 H2;go_wp2_with (first|((with_reducible refine isAppend ?_);(refine' apP (p:=_) (m:=_) (v:=_) (n:=_) (xs:=_) (news:=_) 2 (.inr (List.Mem.head _)) hS rfl rfl rfl Tryz.underlying24 Xw rfl (by decide) rfl HOd.out rfl ?hl ?hcl ?h1 ?h63 ?hby ?_);(case hcl=>exact Cells.one _ _ _ _);(case hl=>rfl);(case h1=>rfl);(case h63=>(unfold maxLen;omega));(case hby=>omega);clear hS;intro v1 m4 w hO4 hS;have HO4:=yH hO4;clear hO4;(try simp only [zF,zG] at hS);(try simp only [Act.put,zE,zF,zG]))|(refine aY ?_;clear hS;intro XS w hS))
        obtain ⟨hk,hjs⟩:=HKs.out;have hks:k=ix - 1 - s:=by omega
        refine ⟨⟨s+1,k,m3,m4,by omega,by omega,rfl,by rw [HR2.out];exact HO3.out,?_,hS.drop⟩,by simp [intOf];omega⟩;have e1:(done ++ (List.range (s+1)).map fun k=>ix - 1 - k).flatMap ivC=(done ++ (List.range s).map fun k=>ix - 1 - k).flatMap ivC ++ [nv k]:=by
         rw [List.range_succ,jH,<- jFb,jLb,hks];rfl
        rw [e1];exact HO4.out
     . obtain rfl:i=j:=by omega
       obtain ⟨htk',hmem',hln',hst⟩:=HT.out;have hs:s=ix - i:=by omega
       have hng:¬ ((i:Int) > (i:Int)):=by omega
       have Hs:=yH hs;have HTt:=yH (And.intro htk' (And.intro hmem' (And.intro hln' hst)));have HOa:=yH hO1;have HOb:=yH hO2;clear htk' hmem' hln' hst hs HT hO1 hO2;go_wp2_with fail
       obtain ⟨htk',hmem',hln',hst⟩:=HTt.out;refine ⟨⟨i+1,_,_,m1,m2,by omega,by go_num,hln',hmem',htk',hst,HOa.out,?_,hS⟩,by simp [intOf];omega⟩
       have:=HOb.out;rw [Hs.out] at this
       simpa using this
  . obtain rfl:i=N:=by omega
    have he:b.drop i=[]:=jYb (by rw [HN.out];exact jBb _);rw [he,G.stepsP,jYa] at hst;have Hst:=yH hst;have HOb:=yH hO2;clear hst he hO1 hO2 htk hmem;go_wp2_with fail
    go_ret2;exact ⟨_,m2,rfl,by rw [Hst.out];exact HOb.out,hS.drop⟩
end
end Go.Proofs.YtidamcdklgfogaaGreatDoor
