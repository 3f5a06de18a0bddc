import Derived.Test.YtidamcdklgfogaaGreatZab
import Derived.Test.YtidamcdklgfogaaGreatZbc
import Derived.Test.YtidamcdklgfogaaGreatZbb
import Derived.Laws.CopyOwn
set_option linter.unusedSimpArgs false
set_option linter.unusedVariables false
set_option maxRecDepth 100000
set_option maxHeartbeats 4000000
namespace Go.Proofs.YtidamcdklgfogaaGreat
section
open Go.RowKit
section
variable {P:Program} {o:Oper} {a:Act} {w E:World} {Q:Exit→Act→World→Prop} {I:PH} {ms:List PH} {ops:Array Oper} {rest:List Oper}
theorem cpyR (k:Nat) (hS:Sat E I ms w) (hg:o.guard=none) {cur:Array Value} {T':TypeId} {X n c:Nat} (hm:ms[k]?=some (PH.one X (.cells cur T'))) (hcn:cur.size=n) {d s:Operand} {dT sT:TypeId} (ho:o.op=.call { callee:=.builtin .copy,args := #[d,s],argTypes := #[dT,sT] })
  {elem:TypeId} (hu:P.underlying dT=some (.slice elem)) (hsz:(P.info? elem).map (·.size)=some 1) (hd:a.eval d=.slice (some ⟨X,0,none⟩) n c) {A:Option Addr} {c2:Nat} (hs:a.eval s=.slice A n c2) {p:PH} (hp:Src I ms p) {news:List Value} (hl:news.length=n) (hnews:0<n→∃ Y off,A=some ⟨Y,off,none⟩∧Cells p Y off news) (h1:∀ v ∈ news,v.oneCell'=true)
  (h:∀ w',Sat E I (ms.set k (PH.one X (.cells news.toArray T'))) w'→wpList P ops Q rest (a.put o.dst (goInt n)) w'):wpList P ops Q (o::rest) a w:=by
 have h0:=hS.perm (Ku k hm)
 have hgd:=h0.own _ (.head _) X _ (PH.one_self _ _)
 rcases Nat.eq_zero_or_pos n with hn|hn
 · subst hn
   have e1:news=[]:=List.eq_nil_of_length_eq_zero hl
   have e2:cur = #[]:=Array.eq_empty_of_size_eq_zero hcn
   subst e1 e2
   refine wpList_copy_nothing hg d s dT sT ho elem hu hsz _ A 0 c 0 c2 hd hs rfl (h w ?_)
   exact h0.perm (Zd k hm)
 · obtain ⟨Y,off,rfl,hc⟩:=hnews hn
   refine wpList_copy_own hg d s dT sT ho elem hu hsz X 0 n c ⟨Y,off,none⟩ n c2 hd hs cur T' hgd news (by rw [hl];exact (Nat.min_self n).symm) (fun j v hj=>?_) (by rw [hl,hcn,Nat.zero_add];exact Nat.le_refl _) h1 ?_
   · have:=Kb (hS.src hp) (hc j v hj)
     rwa [show (⟨Y,off,none⟩:Addr).add j=⟨Y,off+j,none⟩ by unfold Addr.add;split <;> simp_all]
   · rw [hl]
     refine h _ ?_
     have e:cur.toList.take 0 ++ (news ++ cur.toList.drop (0+news.length))=news:=by
      rw [List.take_zero,List.nil_append,List.drop_of_length_le (by rw [hl,Nat.zero_add];simp [hcn]),List.append_nil]
     rw [hl] at e
     rw [e]
     exact (setRow_step h0).perm (Zd k hm)
end
theorem isCopyB {P:Program} {a:Act} {w:World} {Q:Exit→Act→World→Prop} {ops:Array Oper} {rest:List Oper} {dst:Option Tmp} {type:TypeId} {pos:String} {after:Array Edge} {x y:Operand} {t u:TypeId} (h:wpList P ops Q (⟨dst,.call { callee:=.builtin .copy,args := #[x,y],argTypes := #[t,u] },type,pos,after,none⟩::rest) a w):wpList P ops Q (⟨dst,.call { callee:=.builtin .copy,args := #[x,y],argTypes := #[t,u] },type,pos,after,none⟩::rest) a w:=h
theorem int_size:(Tryz.prog.info? 3).map (·.size)=some 1:=by kernel_rfl
theorem NumR.cells {I:PH} {A:Option Addr} {c:Nat} {l:List Nat} (h:NumR I (.slice A l.length c) l):0<l.length→∃ Y off,A=some ⟨Y,off,none⟩∧Cells I Y off (l.flatMap ivC):=fun hn=>by
 obtain ⟨Y,c',hv,hc⟩:=h.2 hn
 injection hv with e1 _ e2
 refine ⟨Y,0,e1,fun j v hj=>?_⟩
 have he:∀ l:List Nat,l.flatMap ivC=l.map nv:=fun l=>by
  induction l with
  | nil=>rfl
  | cons x l ih=>rw [List.flatMap_cons,ih];rfl
 rw [he,List.getElem?_map] at hj
 cases hx:l[j]? with
 | none=>rw [hx] at hj;cases hj
 | some x =>
   rw [hx] at hj
   cases hj
   rw [Nat.zero_add]
   exact hc j x hx
theorem iv_all (l:List Nat):∀ v ∈ l.flatMap ivC,v.oneCell'=true:=fun v hv=>by
 obtain ⟨x,_,hx⟩:=List.mem_flatMap.1 hv
 simp only [ivC,List.mem_singleton] at hx
 subst hx
 rfl
theorem iv_length (l:List Nat):(l.flatMap ivC).length=l.length:=by rw [Zq Zn,Nat.mul_one]
theorem pclone_any {w:World} {v:Value} {l:List Nat} (hl:NumR (Qa w) v l) (hn:l.length≤1000000) :
  Calls Tryz.prog 161 #[v] w fun e w'=>∃ X,e=.returned (.slice (some ⟨X,0,none⟩) l.length l.length)∧Sat w (Qa w) [PH.one X (.cells (l.flatMap ivC).toArray 3)] w':=by
 obtain ⟨⟨A,c,rfl⟩,_⟩:=id hl
 have HC:=yH hl.cells
 have HL:=yH (iv_length l)
 have HA:=yH (iv_all l)
 clear hl
 have hS:=Sat.start w
 generalize l.flatMap ivC=xs at *
 generalize l.length=n at *
 go_enter Tryz.func161,Tryz.ntmps161
 go_wp2_with (first|((with_reducible refine isMake ?_);refine mks hS rfl rfl Tryz.underlying23 int_info rfl rfl rfl rfl (Nat.le_refl _) (by omega) (by omega) ?_;clear hS;intro X w hS;generalize hmc:madeCells _ _=mc at hS;have HM:=yH hmc;clear hmc;(try simp only [Act.put,zE,zF,zG]))|((with_reducible refine isCopyB ?_);refine cpyR 0 hS rfl rfl (by rw [← HM.out,size_madeCells,Nat.mul_one]) rfl Tryz.underlying23 int_size rfl rfl (.inl (PH.le.refl _)) HL.out HC.out HA.out ?_;clear hS;intro w hS;(try simp only [zG] at hS);(try simp only [Act.put,zE,zF,zG])))
 go_ret
 exact ⟨X,rfl,hS⟩
theorem sindex_any {w:World} {v:Value} {l:List Nat} (hl:NumR (Qa w) v l) (hn:l.length≤1000000) (x:Nat) (hx:x ∈ l) :
  Calls Tryz.prog 162 #[v,nv x] w fun e w'=>e=.returned (nv (l.idxOf x))∧w=w':=by
 obtain ⟨⟨A,c,rfl⟩,hr⟩:=hl
 have hS:=Sat.start w
 have HR:=yH hr
 have hlt:=List.idxOf_lt_length_iff.2 hx
 have hget:l[l.idxOf x]?=some x:=by rw [yA hlt,List.getElem_idxOf]
 have hbef:∀ i,i<l.idxOf x→l[i]?≠some x:=fun i hi h=>by
  have:=List.not_of_lt_findIdx (p:=fun y=>y == x) (xs:=l) (i:=i) hi
  have hil:i<l.length:=by omega
  rw [yA hil] at h
  injection h with h
  rw [h] at this
  simp at this
 have HG:=yH hget
 have HB:=yH hbef
 clear hr hx hget hbef
 generalize hN:l.length=N at *
 have HLn:=yH hN
 generalize l.idxOf x=ix at *
 clear hN
 go_enter Tryz.func162,Tryz.ntmps162
 go_wp2_with fail
 go_loopw [8] (fun v8 wr=>∃ i:Nat,i≤ix∧v8=.int .i64 (i:Int)∧wr=w) (fun v8 _=>(N - intOf v8).toNat)
 case atStart=>exact ⟨0,Nat.zero_le _,rfl,rfl⟩
 case round =>
  obtain ⟨i,hi,rfl,rfl⟩:=hrel
  have hiN:(i:Int)<(N:Int):=by omega
  obtain ⟨Y,c',hY,hcell⟩:=HR.out (by omega)
  injection hY with hA hB hC
  subst hA hC
  obtain ⟨y,hy⟩:∃ y,l[i]?=some y:=⟨_,yA (by rw [HLn.out];omega)⟩
  have hcell:=hcell i _ hy
  by_cases he:i=ix
  · subst he
    rw [HG.out] at hy
    cases hy
    go_wp2_with (first|((with_reducible refine Qc ?_);first|((with_reducible refine Qb ?_);( ((refine' Ka (v:=_) hS rfl rfl ?ha rfl ?hb ?_);(case ha=>exact Qf);(case hb=>assumption)));(try simp only [Act.put,zE,zF,zG]))))
    go_ret
    exact ⟨rfl,rfl⟩
  · have hne:y≠x:=fun h=>HB.out i (by omega) (by rw [hy,h])
    have d1:((x:Int) == (y:Int))=false:=by simp;omega
    clear hne hy
    go_wp2_with (first|((with_reducible refine Qc ?_);first|((with_reducible refine Qb ?_);( ((refine' Ka (v:=_) hS rfl rfl ?ha rfl ?hb ?_);(case ha=>exact Qf);(case hb=>assumption)));(try simp only [Act.put,zE,zF,zG]))))
    exact ⟨⟨i+1,by omega,by go_num,trivial⟩,by simp [intOf];omega⟩
theorem rev_step {l:List Nat} {n i:Nat} {r:List Nat} (hn:l.length=n) (hr:r.length=n) (hi:2 * i+1<n) (h:∀ k,k<n→r[k]?=if k<i∨n - 1 - i<k then l[n - 1 - k]? else l[k]?) {x y:Nat} (hx:r[i]?=some x) (hy:r[n - 1 - i]?=some y) :
  ∀ k,k<n→((r.set i y).set (n - 1 - i) x)[k]?=if k<i+1∨n - 1 - (i+1)<k then l[n - 1 - k]? else l[k]?:=fun k hk=>by
 have hx':=h i (by omega)
 have hy':=h (n - 1 - i) (by omega)
 rw [if_neg (by omega)] at hx' hy'
 rw [List.getElem?_set,List.getElem?_set]
 by_cases e1:n - 1 - i=k
 · rw [if_pos e1,if_pos (by simp;omega),if_pos (by omega)]
   rw [show n - 1 - k=i by omega,← hx',hx]
 · rw [if_neg e1]
   by_cases e2:i=k
   · rw [if_pos e2,if_pos (by omega),if_pos (by omega)]
     rw [← e2,← hy',hy]
   · rw [if_neg e2,h k hk]
     by_cases e3:k<i∨n - 1 - i<k
     · rw [if_pos e3,if_pos (by omega)]
     · rw [if_neg e3,if_neg (by omega)]
theorem rev_end {l r:List Nat} {n i:Nat} (hn:l.length=n) (hr:r.length=n) (hi:n≤2 * i+1) (h:∀ k,k<n→r[k]?=if k<i∨n - 1 - i<k then l[n - 1 - k]? else l[k]?):r=l.reverse:=by
 apply List.ext_getElem?
 intro k
 rcases Nat.lt_or_ge k n with hk|hk
 · rw [h k hk,List.getElem?_reverse (by omega),hn]
   by_cases e:k<i∨n - 1 - i<k
   · rw [if_pos e]
   · rw [if_neg e,show n - 1 - k=k by omega]
 · rw [List.getElem?_eq_none (by omega),List.getElem?_eq_none (by simp;omega)]
theorem sreverse_any {E w:World} {I m:PH} {ms:List PH} {X n c:Nat} {l:List Nat} (hO:OwnP m 3 1 (.slice (some ⟨X,0,none⟩) n c) n (l.flatMap ivC)) (hl:l.length=n) (hn:n≤1000000) (hS:Sat E I (m::ms) w) :
  Calls Tryz.prog 163 #[.slice (some ⟨X,0,none⟩) n c] w fun e w'=>e=.returned (.tuple #[])∧∃ m',OwnP m' 3 1 (.slice (some ⟨X,0,none⟩) n c) n (l.reverse.flatMap ivC)∧Sat E I (m'::ms) w':=by
 have HO:=yH hO
 have HL:=yH hl
 clear hO hl
 go_enter Tryz.func163,Tryz.ntmps163
 go_wp2_with fail
 go_loopw [2,3] (fun v2 v3 wr=>∃ (i:Nat) (z:Int) (r:List Nat) (m:PH),2 * i≤n+1∧v2=.int .i64 (i:Int)∧v3=.int .i64 z∧z=(n:Int) - 1 - i∧r.length=n∧(∀ k,k<n→r[k]?=if k<i∨n - 1 - i<k then l[n - 1 - k]? else l[k]?)∧OwnP m 3 1 (.slice (some ⟨X,0,none⟩) n c) n (r.flatMap ivC)∧Sat E I (m::ms) wr) (fun v2 _ _=>(n - intOf v2).toNat)
 case atStart=>exact ⟨0,_,l,m,by omega,rfl,rfl,by simp,HL.out,fun k hk=>by rw [if_neg (by omega)],HO.out,hS⟩
 case round =>
  clear HO hS
  obtain ⟨i,z,r,m,hi,rfl,rfl,hz,hr,hk,hO,hS⟩:=hrel
  by_cases hlt:2 * i+1<n
  · obtain ⟨j,rfl⟩:∃ j:Nat,z=(j:Int):=⟨z.toNat,by omega⟩
    have hjn:n - 1 - i=j:=by omega
    obtain ⟨x,hx⟩:∃ x,r[i]?=some x:=⟨_,yA (by omega)⟩
    obtain ⟨y,hy⟩:∃ y,r[j]?=some y:=⟨_,yA (by omega)⟩
    have hst:=rev_step HL.out hr hlt hk hx (by rw [hjn];exact hy)
    rw [hjn] at hst
    have HSt:=yH hst
    clear hst
    have cX:Cells m X i (ivC x):=by have:=Ke Zn hO hx;rwa [Nat.mul_one] at this
    have cY:Cells m X (j) (ivC y):=by have:=Ke Zn hO hy;rwa [Nat.mul_one] at this
    have pX:m.at X i=some (nv x):=cX.at 0 rfl
    have pY:m.at X (j)=some (nv y):=cY.at 0 rfl
    have h1:∀ m',OwnP m' 3 1 (.slice (some ⟨X,0,none⟩) n c) n (spl (r.flatMap ivC) i (Value.cells (nv y)).toList)→OwnP m' 3 1 (.slice (some ⟨X,0,none⟩) n c) n ((r.set i y).flatMap ivC):=fun m' h=>own_set (by omega) h
    have h2:∀ m',OwnP m' 3 1 (.slice (some ⟨X,0,none⟩) n c) n (spl ((r.set i y).flatMap ivC) (j) (Value.cells (nv x)).toList)→OwnP m' 3 1 (.slice (some ⟨X,0,none⟩) n c) n (((r.set i y).set (j) x).flatMap ivC):=fun m' h=>own_set (by simp;omega) h
    have H1:=yH h1
    have H2:=yH h2
    have HO:=yH hO
    have hrl:=yH (show ((r.set i y).set (j) x).length=n by simpa using hr)
    generalize ((r.set i y).set (j) x)=r2 at *
    generalize (r.set i y)=r1 at *
    have hj:j<n:=by omega
    have hii:i<n:=by omega
    have hij:(i:Int)<(j:Int):=by omega
    have jN:(j:Int)<(n:Int):=by omega
    have j0:(0:Int)<(j:Int):=by omega
    have iN:(i:Int)<(n:Int):=by omega
    clear hx hy cX cY h1 h2 hO hk hr
    have HJ:=yH hz
    clear hz hjn
    go_wp2_with fail
    refine Qx [[],[],[],[],[],[],[4,5],[4,5,6],[],[],[8,9],[8,9,10],[0,1,4,5,6,7,8,9,10,11],[0,1,4,5,6,7,8,9,10,11,12],[0,1,2,3,4,5,6,7,8,9,10,11,12,13],[0,1,2,3,4,5,6,7,8,9,10,11,12,13,14]] E I _
     [fun v _=>v=.slice (some ⟨X,0,none⟩) n c,fun v _=>v=nv i,fun v _=>v=.slice (some ⟨X,0,none⟩) n c,fun v _=>v=nv j,fun v _=>v=.slice (some ⟨X,0,none⟩) n c,fun v _=>v=nv j,fun v _=>v=.pointer (some ⟨X,j,none⟩),fun v _=>v=nv y,fun v _=>v=.slice (some ⟨X,0,none⟩) n c,fun v _=>v=nv i,fun v _=>v=.pointer (some ⟨X,i,none⟩),fun v _=>v=nv x,fun v _=>v=.pointer (some ⟨X,i,none⟩),fun _ _=>True,fun v _=>v=.pointer (some ⟨X,j,none⟩),fun _ _=>True] [13,15]
     (set2G _ 0 0 (fun m'=>OwnP m' 3 1 (.slice (some ⟨X,0,none⟩) n c) n (r1.flatMap ivC)) (fun m'=>OwnP m' 3 1 (.slice (some ⟨X,0,none⟩) n c) n (r2.flatMap ivC))) (by kernel_rfl) (by kernel_rfl) (by decide) hS rfl ?last (fun _ _ _ _ _ _ h=>h) (fun _ _ _ _ _ _ h=>h) ?plain ?step ?fin
    case last=>repeat (first|exact Lasting.nil|refine Lasting.cons (fun _ _ _ _ h=>h) ?_)
    case plain=>(repeat' (first|exact trivial|apply And.intro)) <;> first|exact .inl rfl|(refine .inr ?_;intro s vals J bs w hstop hg hJ hS hG;have h0:s≤0:=hstop;obtain rfl:s=0:=Nat.le_zero.1 h0;have hG:bs=_:=hG;subst hG;simp only [zH,zI,Given,Facts] at hg;simp only [Qd,Qh,Qe,Qj,zH,zI,zA,zB,zK,if_true,Act.put,zE,zF,zG,hg];refine ⟨?_⟩;refine Qg (fun K hK=>?_);have HK:=yH hK;clear hK;rw [if_pos (by rfl)];((with_reducible refine Qs ?_);(refine' wp_ld1 (v:=_) (hS.mle (k:=0) rfl) rfl ?ha rfl ?hc ?_);(case ha=>first|exact Qf);(case hc=>assumption));refine HK.out _ _ ⟨rfl,J,PH.le.refl _,hS,?_⟩;clear HK;simp only [Facts];simp only [Qo,zH,zI,Act.put,zE,zF,zG,zD,zC,zA,zB,zJ])|(refine .inr ?_;intro s vals J bs w hstop hg hJ hS hG;clear hG;simp only [zH,zI,Given,Facts] at hg;simp only [Qd,Qh,Qe,Qj,zH,zI,zA,zB,zK,if_true,Act.put,zE,zF,zG,hg];refine ⟨?_⟩;refine Qg (fun K hK=>?_);have HK:=yH hK;clear hK;rw [if_pos (by rfl)];( (go_wp2_with (fail)));refine HK.out _ _ ⟨rfl,J,PH.le.refl _,hS,?_⟩;clear HK;simp only [Facts];simp only [Qo,zH,zI,zD,zC,zA,zB,zJ])
    case step =>
     refine ⟨⟨trivial,?_⟩,?_⟩
     · intro vals J bs w hg hJ hS hG
       have hG:bs=_:=hG
       subst hG
       simp only [zH,zI,Given,Facts] at hg;simp only [Qd,Qh,Qe,Qj,zH,zI,zA,zB,zK,if_true,Act.put,zE,zF,zG,hg];refine ⟨?_⟩;refine Qg (fun K hK=>?_);have HK:=yH hK;clear hK;rw [if_pos (by rfl)]
       refine Xr (i:=i) hS 0 rfl rfl rfl rfl HO.out (Nat.mul_one i).symm hii Kk rfl (iv_one y) fun m' w hO' hS=>?_
       exact HK.out _ _ ⟨rfl,J,_,PH.le.refl _,hS,trivial,m',H1.out _ hO',rfl⟩
     · intro vals J bs w hg hJ hS hG
       refine Veil.out ?_
       obtain ⟨mm,hmm,hG⟩:=hG
       subst hG
       refine ⟨?_⟩
       simp only [zH,zI,Given,Facts] at hg;simp only [Qd,Qh,Qe,Qj,zH,zI,zA,zB,zK,if_true,Act.put,zE,zF,zG,hg];refine ⟨?_⟩;refine Qg (fun K hK=>?_);have HK:=yH hK;clear hK;rw [if_pos (by rfl)]
       refine Xr (i:=j) hS 0 rfl rfl rfl rfl hmm (Nat.mul_one j).symm hj Kk rfl (iv_one x) fun m' w hO' hS=>?_
       exact HK.out _ _ ⟨rfl,J,_,PH.le.refl _,hS,trivial,mm,m',hmm,H2.out _ hO',rfl⟩
    case fin =>
     intro vals J9 bs w hJ hg hS hG
     obtain ⟨_,m2,_,hO2,hns⟩:=hG
     subst hns
     have hS:=hS.less hJ
     simp only [zG] at hS
     have HO2:=yH hO2
     clear hO2 hJ
     simp only [yB,yC,Nat.reduceAdd,Below_,Facts,zH,zI,true_and,and_true] at hg;simp only [yB,yC,Nat.reduceAdd,Qd,Qh,Qe,zA,zB,zK,if_true,Act.put,zE,zF,zG,hg];refine ⟨?_⟩
     clear hg pX pY
     go_wp2_with fail
     exact ⟨⟨i+1,_,r2,m2,by omega,by go_num,rfl,by have:=HJ.out;omega,hrl.out,HSt.out,HO2.out,hS⟩,by simp [intOf];omega⟩
  · have hN:=rev_end HL.out hr (by omega) hk
    have hd:¬ ((i:Int)<z):=by omega
    clear hz
    subst hN
    go_wp2_with fail
    go_end0
    exact ⟨rfl,m,hO,hS⟩
end
section
open Go.RowKit
def isArr (s:Nat→Bool):Array Value:=((List.range 64).map fun j=>Value.bool (s j)).toArray
theorem ty_z251:Xb Tryz.prog 251=some (.agg (isArr fun _=>false)):=by kernel_rfl
theorem isArr_size (s:Nat→Bool):(isArr s).size=64:=by simp [isArr]
theorem isArr_set (s:Nat→Bool) (v:Nat):(isArr s).setIfInBounds v (.bool true)=isArr (fun j=>s j || decide (j=v)):=by
 apply Array.ext
 · simp [isArr]
 · intro i h1 h2
   simp only [isArr,zE,List.getElem_toArray,List.getElem_set,List.getElem_map,List.getElem_range]
   by_cases h:v=i
   · subst h;simp
   · rw [if_neg h]
     simp [Ne.symm h]
theorem isArr_get (s:Nat→Bool) (k:Nat) (h:k<64):(isArr s).toList[k]?=some (.bool (s k)):=by
 simp [isArr,h]
theorem pturn_any {w:World} {v:Value} {l:List Nat} (hl:NumR (Qa w) v l) (hn:l.length≤1000000) :
  Calls Tryz.prog 151 #[v] w fun e w'=>∃ X m,e=.returned (.slice (some ⟨X,0,none⟩) l.length l.length)∧OwnP m 3 1 (.slice (some ⟨X,0,none⟩) l.length l.length) l.length (l.reverse.flatMap ivC)∧Sat w (Qa w) [m] w':=by
 obtain ⟨⟨A,c,rfl⟩,_⟩:=id hl
 have HC:=yH (pclone_any hl hn)
 have HO:=yH (fun X=>OwnP.lit X 3 1 l.length (l.flatMap ivC).toArray (by unfold maxLen;omega) (by rw [List.size_toArray,iv_length,Nat.mul_one]))
 have HR:=yH (fun (E w':World) (I m:PH) (X:Nat) (hO:OwnP m 3 1 (.slice (some ⟨X,0,none⟩) l.length l.length) l.length (l.flatMap ivC)) (hS:Sat E I [m] w')=>sreverse_any (c:=l.length) hO rfl hn hS)
 clear hl
 generalize l.length=n at *
 generalize l.flatMap ivC=xs at *
 generalize l.reverse.flatMap ivC=ys at *
 go_enter Tryz.func151,Tryz.ntmps151
 go_wp2_with (first|(go_at_call 161;(with_reducible refine yI HC.out ?_);rintro e w1 ⟨X,rfl,hS⟩)|(go_at_call 163;(with_reducible refine yI (HR.out _ _ _ _ _ (HO.out X) hS) ?_);clear hS;rintro e w1 ⟨rfl,m,hO,hS⟩;have HO1:=yH hO;clear hO))
 go_ret
 exact ⟨X,m,rfl,HO1.out,hS⟩
theorem pright_any {W:World} {v:Value} {l:List Nat} (hl:NumR (Qa W) v l) (hn:l.length≤64) (hp:∀ x ∈ l,x<l.length) (hd:l.Nodup) :
  Calls Tryz.prog 160 #[v] W fun e w'=>e=.returned (.bool true)∧Below W.heap.size W w':=by
 obtain ⟨⟨A,c,rfl⟩,hr⟩:=hl
 have hS:=Sat.start W
 have HR:=yH hr
 have hmet:∀ i x,l[i]?=some x→x<l.length∧x ∉ l.take i∧∀ y,decide (y ∈ l.take (i+1))=(decide (y ∈ l.take i) || decide (y=x)):=fun i x hx=>by
  refine ⟨hp x (List.mem_of_getElem? hx),fun hm=>?_,fun y=>?_⟩
  · obtain ⟨k,hk⟩:=List.mem_iff_getElem?.1 hm
    rw [List.getElem?_take] at hk
    split at hk
    · obtain ⟨h1,e1⟩:=yE.1 hk
      obtain ⟨h2,e2⟩:=yE.1 hx
      exact List.pairwise_iff_getElem.1 hd k i h1 h2 (by assumption) (by rw [e1,e2])
    · cases hk
  · rw [List.take_add_one,hx]
    simp [Bool.decide_or]
 have HM:=yH hmet
 clear hr hp hd hmet
 generalize hN:l.length=N at *
 have HLn:=yH hN
 clear hN
 go_enter Tryz.func160,Tryz.ntmps160
 go_wp2_with fail
 go_loopw [3] (fun v3 wr=>∃ b:Nat,(b=0∨b=64)∧v3=.int .i64 (b:Int)∧Sat W (Qa W) [] wr) (fun v3 _=>(64 - intOf v3).toNat)
 case atStart=>exact ⟨0,.inl rfl,rfl,hS⟩
 case round =>
  clear hS
  obtain ⟨b,hb,rfl,hS⟩:=hrel
  by_cases hlt:b<N
  · obtain rfl:b=0:=by omega
    have h0:(0:Int)<(N:Int):=by omega
    have HZ:=yH (show isArr (fun _=>false)=isArr (fun y=>decide (y ∈ l.take 0)) by congr 1)
    simp only [Int.natCast_zero] at *
    go_wp2_with (first|((with_reducible refine Qc ?_);  ((with_reducible refine Ql 4 ?_);(refine' al (z:=_) hS rfl rfl ?ha ?_);(case ha=>exact ty_z251);clear hS;intro X4 w hS;(try simp only [Value.cells] at hS);(try simp only [Act.put,zE,zF,zG])) ))
    go_loopw [16] (fun v16 wr=>∃ i:Nat,i≤N∧v16=.int .i64 (i:Int)∧Sat W (Qa W) [PH.one X4 (.cells (isArr fun y=>decide (y ∈ l.take i)) 251)] wr) (fun v16 _=>(N - intOf v16).toNat)
    case atStart=>exact ⟨0,Nat.zero_le _,rfl,by rw [← HZ.out];exact hS⟩
    case round =>
     clear hS
     obtain ⟨i,hi,rfl,hS⟩:=hrel
     by_cases hlt2:i<N
     · obtain ⟨x,hx⟩:∃ x,l[i]?=some x:=⟨_,yA (by rw [HLn.out];exact hlt2)⟩
       obtain ⟨hxn,hxt,hxs⟩:=HM.out i x hx
       obtain ⟨Y,c',hY,hcell⟩:=HR.out (by omega)
       injection hY with hA hB hC
       subst hA hC
       have hcell:=hcell i _ hx
       have hiN:(i:Int)<(N:Int):=by omega
       have x0:¬ ((x:Int)<0):=by omega
       have x1:¬ ((x:Int)≥(N:Int)):=by omega
       have x2:(x:Int)<64:=by omega
       have x3:x<64:=by omega
       have x4:(x:Int)≥0:=by omega
       have hc:(PH.one X4 (.cells (isArr fun y=>decide (y ∈ l.take i)) 251)).at X4 x=some (.bool false):=Qk (by rw [isArr_get _ x x3,decide_eq_false hxt])
       have HB:=yH (show x<(isArr fun y=>decide (y ∈ l.take i)).size by rw [isArr_size];exact x3)
       have he:(isArr fun y=>decide (y ∈ l.take i)).setIfInBounds x (.bool true)=isArr fun y=>decide (y ∈ l.take (i+1)):=by
        rw [isArr_set]
        congr 1
        funext y
        exact (hxs y).symm
       have HE:=yH he
       clear he hxs hxt hx hxn
       generalize (isArr fun y=>decide (y ∈ l.take i))=arr at *
       go_wp2_with (first|((with_reducible refine Qn ?_);(refine st1 0 hS rfl rfl rfl rfl rfl ty_sz4 rfl rfl HB.out ?_;clear hS;intro w hS;simp only [zG] at hS;(try simp only [Act.put])))|((with_reducible refine Qb ?_);(refine' ldP1 (v:=_) (.inr (List.Mem.head _)) hS rfl rfl Yb rfl hc ?_);(try simp only [Act.put,zE,zF,zG]))|((with_reducible refine Qc ?_);first|((with_reducible refine Qp ?_);  ((with_reducible refine Qi ?hw ?_);case hw=>(simp only [Region.wanted,yielded,zC,zA,zB,zK,beq_self_eq_true];done)) )|((with_reducible refine Qb ?_);( ((refine' Ka (v:=_) hS rfl rfl ?ha rfl ?hb ?_);(case ha =>  exact Qf );(case hb=>assumption)));(try simp only [Act.put,zE,zF,zG])) ))
       exact ⟨⟨i+1,by omega,by go_num,by rw [← HE.out];exact hS⟩,by simp [intOf];omega⟩
     · obtain rfl:i=N:=by omega
       go_wp2_with fail
       exact ⟨⟨64,.inr rfl,rfl,hS.drop⟩,by simp [intOf]⟩
  · have hbN:¬ ((b:Int)<(N:Int)):=by omega
    go_wp2_with fail
    go_ret
    exact ⟨rfl,hS.end_ (PH.le.refl _)⟩
end
end Go.Proofs.YtidamcdklgfogaaGreat
