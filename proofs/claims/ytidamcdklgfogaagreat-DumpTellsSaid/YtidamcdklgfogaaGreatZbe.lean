import Derived.Test.YtidamcdklgfogaaGreatZab
import Derived.Test.YtidamcdklgfogaaGreatZbd
set_option linter.unusedSimpArgs false
set_option linter.unusedVariables false
set_option maxRecDepth 100000
set_option maxHeartbeats 8000000
namespace Go.Proofs.YtidamcdklgfogaaGreat
section
open Go.RowKit
theorem mv_step:∀ (at_:Nat) (L:List Nat) (v x:Nat),L[at_]?=some x→((L.insertIdx (at_+1) v).set at_ v).set (at_+1) x=L.insertIdx at_ v
 | 0,[],_,_,h=>by cases h
 | 0,y::t,v,x,h=>by
   simp only [zB,Option.some.injEq] at h
   subst h
   simp
 | k+1,[],_,_,h=>by cases h
 | k+1,y::t,v,x,h=>by
   rw [zA] at h
   have:=mv_step k t v x h
   simp only [List.insertIdx_succ_cons,zF,this]
theorem mv_zero:∀ (i:Nat) (l:List Nat) (v:Nat),l[i]?=some v→(l.eraseIdx i).insertIdx i v=l
 | 0,[],_,h=>by cases h
 | 0,y::t,v,h=>by
   simp only [zB,Option.some.injEq] at h
   subst h
   simp
 | k+1,[],_,h=>by cases h
 | k+1,y::t,v,h=>by
   rw [zA] at h
   rw [List.eraseIdx_cons_succ,List.insertIdx_succ_cons,mv_zero k t v h]
theorem mv_at:∀ (i:Nat) (L:List Nat) (v:Nat),i≤L.length→(L.insertIdx i v)[i]?=some v
 | 0,L,v,_=>by simp
 | k+1,[],v,h=>by simp at h
 | k+1,y::t,v,h=>by
   rw [List.insertIdx_succ_cons,zA]
   exact mv_at k t v (by simpa using h)
theorem mv_lt:∀ (i j:Nat) (L:List Nat) (v:Nat),j<i→(L.insertIdx i v)[j]?=L[j]?
 | 0,j,_,_,h=>by omega
 | k+1,j,[],v,h=>by simp
 | k+1,0,y::t,v,h=>by simp
 | k+1,j+1,y::t,v,h=>by
   rw [List.insertIdx_succ_cons,zA,zA]
   exact mv_lt k j t v (by omega)
theorem mv_take {l b:List Nat} {i idx v:Nat} (ht:l.take i=b.take i) (hi:i≤idx) (hidx:idx<l.length) (hb:b[i]?=some v):(((l.eraseIdx idx).insertIdx i v)).take (i+1)=b.take (i+1):=by
 apply List.ext_getElem?
 intro k
 rw [List.getElem?_take,List.getElem?_take]
 by_cases hk:k<i+1
 · rw [if_pos hk,if_pos hk]
   by_cases hki:k=i
   · subst hki
     rw [mv_at _ _ _ (by rw [List.length_eraseIdx_of_lt hidx];omega),hb]
   · rw [mv_lt _ _ _ _ (by omega),List.getElem?_eraseIdx,if_pos (by omega)]
     have:=congrArg (fun z=>z[k]?) ht
     simp only [List.getElem?_take] at this
     rwa [if_pos (by omega),if_pos (by omega)] at this
 · rw [if_neg hk,if_neg hk]
theorem mem_erase:∀ (i:Nat) (l:List Nat) (v y:Nat),l[i]?=some v→(y=v∨y ∈ l.eraseIdx i↔y ∈ l)
 | 0,[],_,_,h=>by cases h
 | 0,x::t,v,y,h=>by
   simp only [zB,Option.some.injEq] at h
   subst h
   simp
 | k+1,[],_,_,h=>by cases h
 | k+1,x::t,v,y,h=>by
   rw [zA] at h
   have:=mem_erase k t v y h
   rw [List.eraseIdx_cons_succ,List.mem_cons,List.mem_cons,← this]
   constructor
   · rintro (h1|h1|h1)
     · exact .inr (.inl h1)
     · exact .inl h1
     · exact .inr (.inr h1)
   · rintro (h1|h1|h1)
     · exact .inr (.inl h1)
     · exact .inl h1
     · exact .inr (.inr h1)
theorem mv_mem {l:List Nat} {i idx v y:Nat} (hv:l[idx]?=some v) (hi:i<l.length):y ∈ (l.eraseIdx idx).insertIdx i v↔y ∈ l:=by
 have hlt:=(yE.1 hv).1
 rw [List.mem_insertIdx (by rw [List.length_eraseIdx_of_lt hlt];omega)]
 exact mem_erase idx l v y hv
theorem mv_len {l:List Nat} {i idx v:Nat} (hi:i<l.length) (hlt:idx<l.length):((l.eraseIdx idx).insertIdx i v).length=l.length:=by
 rw [List.length_insertIdx_of_le_length (by rw [List.length_eraseIdx_of_lt hlt];omega),List.length_eraseIdx_of_lt hlt]
 omega
theorem down_range (i idx:Nat) (h:i≤idx):G.downTo i (idx - i)=(List.range (idx - i)).map fun k=>idx - 1 - k:=by
 unfold G.downTo
 apply List.map_congr_left
 intro k hk
 rw [List.mem_range] at hk
 omega
theorem idx_get {l:List Nat} {x:Nat} (hx:x ∈ l):l[l.idxOf x]?=some x∧l.idxOf x<l.length:=by
 have hlt:=List.idxOf_lt_length_iff.2 hx
 exact ⟨by rw [yA hlt,List.getElem_idxOf],hlt⟩
theorem steps_len:∀ (b:List Nat) (i:Nat) (now:List Nat) (n:Nat),now.length=n→(∀ x ∈ b,x ∈ now)→i+b.length≤n→(G.stepsP i b now).length≤b.length * n
 | [],i,now,n,_,_,_=>by unfold G.stepsP;simp
 | x::b,i,now,n,h,hm,hi=>by
   unfold G.stepsP
   rw [yG,yB,Nat.succ_mul]
   rw [yB] at hi
   obtain ⟨hg,hlt⟩:=idx_get (hm x (.head _))
   have h1:(G.downTo i (now.idxOf x - i)).length≤n:=by
    unfold G.downTo
    rw [List.length_map,List.length_range]
    omega
   have h2:=steps_len b (i+1) ((now.eraseIdx (now.idxOf x)).insertIdx i x) n (by rw [mv_len (by omega) hlt,h]) (fun y hy=>(mv_mem hg (by omega)).2 (hm y (.tail _ hy))) (by omega)
   omega
theorem nodup_idx {l b:List Nat} {i x:Nat} (hd:b.Nodup) (ht:l.take i=b.take i) (hb:b[i]?=some x) (hx:x ∈ l):i≤l.idxOf x:=by
 refine Nat.le_of_not_lt fun hlt=>?_
 obtain ⟨hg,_⟩:=idx_get hx
 have:=congrArg (fun z=>z[l.idxOf x]?) ht
 simp only [List.getElem?_take] at this
 rw [if_pos hlt,if_pos hlt,hg] at this
 obtain ⟨h1,e1⟩:=yE.1 this.symm
 obtain ⟨h2,e2⟩:=yE.1 hb
 exact List.pairwise_iff_getElem.1 hd _ _ h1 h2 hlt (by rw [e1,e2])
theorem OwnP.numN {m:PH} {e:TypeId} {A:Option Addr} {n c:Nat} {l:List Nat} (h:OwnP m e 1 (.slice A n c) n (l.flatMap ivC)) (hl:l.length=n):NumR m (.slice A n c) l:=by subst hl;exact h.num
theorem psteps_any {W:World} {va vb:Value} {a b:List Nat} (ha:NumR (Qa W) va a) (hb:NumR (Qa W) vb b) (hab:a.length=b.length) (hn:b.length≤64) (pa:∀ x ∈ a,x<a.length) (da:a.Nodup) (pb:∀ x ∈ b,x<b.length) (db:b.Nodup) (hba:∀ x ∈ b,x ∈ a) :
  Calls Tryz.prog 150 #[va,vb] W fun e w'=>∃ v m,e=.returned (.tuple #[v,.int .i64 0])∧OwnP m 3 1 v (G.stepsP 0 b a).length ((G.stepsP 0 b a).flatMap ivC)∧Sat W (Qa W) [m] w':=by
 obtain ⟨⟨A,c,rfl⟩,_⟩:=id ha
 obtain ⟨⟨B,c2,rfl⟩,_⟩:=id hb
 have hS:=Sat.start W
 have HRa:=yH (fun (w':World) (h:(Qa W).le (Qa w'))=>pright_any (ha.le h) (by omega) pa da)
 have HRb:=yH (fun (w':World) (h:(Qa W).le (Qa w'))=>pright_any (hb.le h) hn pb db)
 have HCl:=yH (fun (w':World) (h:(Qa W).le (Qa w'))=>pclone_any (ha.le h) (by omega))
 have HL:=yH (steps_len b 0 a b.length hab hba (by omega))
 have HD:=yH db
 have HM:=yH hba
 have HB:=yH hb.2
 have HO:=yH (fun X=>OwnP.lit X 3 1 a.length (a.flatMap ivC).toArray (by unfold maxLen;omega) (by rw [List.size_toArray,iv_length,Nat.mul_one]))
 clear ha hb pa da pb db hba
 rw [hab] at HRa HCl HO ⊢
 have HAn:=yH hab
 clear hab
 generalize hN:b.length=N at *
 have HN:=yH hN
 clear hN
 have d0:((N:Int) != (N:Int))=false:=by simp
 go_enter Tryz.func150,Tryz.ntmps150
 go_wp2_with (first|(go_at_call 160;first|((with_reducible refine yI (HRa.out _ hS.ile) ?_);rintro e w9 ⟨rfl,hb⟩;replace hS:=hS.below_ hb;clear hb)|((with_reducible refine yI (HRb.out _ hS.ile) ?_);rintro e w9 ⟨rfl,hb⟩;replace hS:=hS.below_ hb;clear hb))|(go_at_call 161;(with_reducible refine yI (HCl.out _ hS.ile) ?_);rintro e w ⟨X,rfl,hC⟩;replace hS:=hS.graft hC;clear hC)|((with_reducible refine Qc ?_);  ((with_reducible refine Qp ?_);  ((with_reducible refine Qi ?hw ?_);case hw=>(simp only [Region.wanted,yielded,zC,zA,zB,zK,beq_self_eq_true];done)) ) ))
 replace hS:Sat W (Qa W) [PH.one X (.cells (a.flatMap ivC).toArray 3),(fun _=>none)] w:=(hS.empty).perm (List.Perm.swap _ _ _)
 have hO0:=HO.out X
 generalize PH.one X (.cells (a.flatMap ivC).toArray 3)=m0 at *
 have HO0:=yH hO0
 clear hO0 HO HRa HRb HCl
 go_loopw [6,30] (fun v6 v30 wr=>∃ (i:Nat) (now done:List Nat) (m1 m2:PH),i≤N∧v30=.int .i64 (i:Int)∧now.length=N∧(∀ x ∈ b,x ∈ now)∧now.take i=b.take i∧G.stepsP 0 b a=done ++ G.stepsP i (b.drop i) now∧OwnP m1 3 1 (.slice (some ⟨X,0,none⟩) N N) N (now.flatMap ivC)∧OwnP m2 3 1 v6 done.length (done.flatMap ivC)∧Sat W (Qa W) [m1,m2] wr) (fun _ v30 _=>(N - intOf v30).toNat)
 case atStart=>exact ⟨0,a,[],m0,fun _=>none,Nat.zero_le _,rfl,HAn.out,HM.out,by simp,by simp,by simpa using HO0.out,OwnP.nil _ _,hS⟩
 case round =>
  clear hS HO0 HAn HM
  obtain ⟨i,now,done,m1,m2,hi,rfl,hln,hmem,htk,hst,hO1,hO2,hS⟩:=hrel
  by_cases hlt:i<N
  · obtain ⟨x,hx⟩:∃ x,b[i]?=some x:=⟨_,yA (by rw [HN.out];exact hlt)⟩
    obtain ⟨Y,c',hY,hcell⟩:=HB.out (by omega)
    injection hY with hA hB hC
    subst hA hC
    have hcell:=hcell i _ hx
    have hxm:=hmem x (List.mem_of_getElem? hx)
    obtain ⟨hg,hgl⟩:=idx_get hxm
    have hge:=nodup_idx HD.out htk hx hxm
    have hdr:b.drop i=x::b.drop (i+1):=by
     rw [List.drop_eq_getElem_cons (by rw [HN.out];exact hlt)]
     congr 1
     have:=yA (l:=b) (i:=i) (by rw [HN.out];exact hlt)
     rw [hx] at this
     injection this with this
     exact this.symm
    rw [hdr,G.stepsP,down_range i _ hge,← List.append_assoc] at hst
    have htk':=mv_take (v:=x) htk hge hgl hx
    have hmem':=fun y (hy:y ∈ b)=>(mv_mem (y:=y) hg (show i<now.length by omega)).2 (hmem y hy)
    have hln':((now.eraseIdx (now.idxOf x)).insertIdx i x).length=N:=by rw [mv_len (by omega) hgl,hln]
    have hbound:done.length+(now.idxOf x - i)≤4096:=by
     have h1:=congrArg List.length hst
     simp only [yG,List.length_map,List.length_range] at h1
     have h2:=HL.out
     have h3:N * N≤64 * 64:=Nat.mul_le_mul hn hn
     omega
    have HIx:=yH (fun (w':World) (h:m1.le (Qa w'))=>sindex_any ((hO1.numN hln).le h) (by omega) x hxm)
    have hiN:(i:Int)<(N:Int):=by omega
    have HT:=yH (And.intro htk' (And.intro hmem' (And.intro hln' hst)))
    have hEl:(now.eraseIdx (now.idxOf x)).length+1=N:=by rw [List.length_eraseIdx_of_lt hgl];omega
    have HZ:=yH (mv_zero _ _ _ hg)
    clear htk' hmem' hln' hst htk hmem hdr hg hxm
    generalize now.eraseIdx (now.idxOf x)=L at *
    generalize now.idxOf x=ix at *
    have HO1:=yH hO1
    have HO2:=yH hO2
    clear hO1 hO2
    go_wp2_with (first|(go_at_call 162;(with_reducible refine yI (HIx.out _ (hS.mle (k:=0) rfl)) ?_);rintro e w9 ⟨rfl,rfl⟩)|((with_reducible refine Qc ?_);  ((with_reducible refine Qb ?_);( ((refine' Ka (v:=_) hS rfl rfl ?ha rfl ?hb ?_);(case ha=>exact Qf);(case hb=>assumption)));(try simp only [Act.put,zE,zF,zG])) ))
    go_loopw [6,10] (fun v6 v10 wr=>∃ (s j:Nat) (m1 m2:PH),j+s=ix∧i≤j∧v10=.int .i64 (j:Int)∧OwnP m1 3 1 (.slice (some ⟨X,0,none⟩) N N) N ((L.insertIdx j x).flatMap ivC)∧OwnP m2 3 1 v6 (done.length+s) ((done ++ (List.range s).map fun k=>ix - 1 - k).flatMap ivC)∧Sat W (Qa W) [m1,m2] wr) (fun _ v10 _=>(intOf v10).toNat)
    case atStart=>exact ⟨0,ix,m1,m2,rfl,hge,rfl,by rw [HZ.out];exact HO1.out,by simpa using HO2.out,hS⟩
    case round =>
     clear hS HO1 HO2 HIx HZ
     obtain ⟨s,j,m1,m2,hjs,hij,rfl,hO1,hO2,hS⟩:=hrel
     by_cases hsi:i<j
     · obtain ⟨k,hk⟩:∃ k,j=k+1:=⟨j - 1,by omega⟩
       obtain ⟨y,hy⟩:∃ y,L[k]?=some y:=⟨_,yA (by omega)⟩
       have hr2:((L.insertIdx j x).set k x).set j y=L.insertIdx k x:=by rw [hk];exact mv_step k L x y hy
       have hlr:(L.insertIdx j x).length=N:=by rw [List.length_insertIdx_of_le_length (by omega)];exact hEl
       have gX:(L.insertIdx j x)[j]?=some x:=mv_at _ _ _ (by omega)
       have gY:(L.insertIdx j x)[k]?=some y:=by rw [mv_lt _ _ _ _ (by omega),hy]
       have cX:Cells m1 X j (ivC x):=by have:=Ke Zn hO1 gX;rwa [Nat.mul_one] at this
       have cY:Cells m1 X k (ivC y):=by have:=Ke Zn hO1 gY;rwa [Nat.mul_one] at this
       have pX:m1.at X j=some (nv x):=cX.at 0 rfl
       have pY:m1.at X k=some (nv y):=cY.at 0 rfl
       generalize hr0:L.insertIdx j x=r at *
       have h1:∀ m',OwnP m' 3 1 (.slice (some ⟨X,0,none⟩) N N) N (spl (r.flatMap ivC) k (Value.cells (nv x)).toList)→OwnP m' 3 1 (.slice (some ⟨X,0,none⟩) N N) N ((r.set k x).flatMap ivC):=fun m' h=>own_set (by omega) h
       have h2:∀ m',OwnP m' 3 1 (.slice (some ⟨X,0,none⟩) N N) N (spl ((r.set k x).flatMap ivC) j (Value.cells (nv y)).toList)→OwnP m' 3 1 (.slice (some ⟨X,0,none⟩) N N) N (((r.set k x).set j y).flatMap ivC):=fun m' h=>own_set (by simp;omega) h
       rw [hr2] at h2
       have H1:=yH h1
       have H2:=yH h2
       have HOw:=yH hO1
       have HOd:=yH hO2
       generalize (r.set k x)=r1 at *
       generalize hr2':L.insertIdx k x=r2 at *
       have HR2:=yH hr2'
       have HKs:=yH (And.intro hk hjs)
       have hkN:k<N:=by omega
       have hk1N:j<N:=by omega
       have hgt:(j:Int) > (i:Int):=by omega
       have hk1I:(j:Int)<(N:Int):=by omega
       have hkI:(k:Int)<(N:Int):=by omega
       have hkk:(j:Int) - 1=(k:Int):=by omega
       have hds:done.length+s+1≤5000:=by omega
       clear hO1 hO2 h1 h2 hr2 gX gY cX cY hr0 hr2' hk hy hjs
       go_wp2_with fail
       refine Qx [[],[],[1],[],[],[],[],[5,6],[5,6,7],[],[],[10],[9,10,11],[9,10,11,12],[0,1,2,5,6,7,8,9,10,11,12,13],[0,1,2,5,6,7,8,9,10,11,12,13,14],[0,1,2,3,4,5,6,7,8,9,10,11,12,13,14,15],[0,1,2,3,4,5,6,7,8,9,10,11,12,13,14,15,16]] W (Qa W) _
        [fun v _=>v=.slice (some ⟨X,0,none⟩) N N,fun v _=>v=nv j,fun v _=>v=nv k,fun v _=>v=.slice (some ⟨X,0,none⟩) N N,fun v _=>v=nv j,fun v _=>v=.slice (some ⟨X,0,none⟩) N N,fun v _=>v=nv j,fun v _=>v=.pointer (some ⟨X,j,none⟩),fun v _=>v=nv x,fun v _=>v=.slice (some ⟨X,0,none⟩) N N,fun v _=>v=nv j,fun v _=>v=nv k,fun v _=>v=.pointer (some ⟨X,k,none⟩),fun v _=>v=nv y,fun v _=>v=.pointer (some ⟨X,k,none⟩),fun _ _=>True,fun v _=>v=.pointer (some ⟨X,j,none⟩),fun _ _=>True] [15,17]
        (set2G _ 0 0 (fun m'=>OwnP m' 3 1 (.slice (some ⟨X,0,none⟩) N N) N (r1.flatMap ivC)) (fun m'=>OwnP m' 3 1 (.slice (some ⟨X,0,none⟩) N N) N (r2.flatMap ivC))) (by kernel_rfl) (by kernel_rfl) (by decide) hS rfl ?last (fun _ _ _ _ _ _ h=>h) (fun _ _ _ _ _ _ h=>h) ?plain ?step ?fin
       case last=>repeat (first|exact Lasting.nil|refine Lasting.cons (fun _ _ _ _ h=>h) ?_)
       case plain=>(repeat' (first|exact trivial|apply And.intro)) <;> first|exact .inl rfl|(refine .inr ?_;intro s vals J bs w hstop hg hJ hS hG;have h0:s≤0:=hstop;obtain rfl:s=0:=Nat.le_zero.1 h0;have hG:bs=_:=hG;subst hG;simp only [zH,zI,Given,Facts] at hg;simp only [Qd,Qh,Qe,Qj,zH,zI,zA,zB,zK,if_true,Act.put,zE,zF,zG,hg];refine ⟨?_⟩;refine Qg (fun K hK=>?_);have HK:=yH hK;clear hK;rw [if_pos (by rfl)];((with_reducible refine Qs ?_);(refine' wp_ld1 (v:=_) (hS.mle (k:=0) rfl) rfl ?ha rfl ?hc ?_);(case ha=>first|exact Qf);(case hc=>assumption));refine HK.out _ _ ⟨rfl,J,PH.le.refl _,hS,?_⟩;clear HK;simp only [Facts];simp only [Qo,zH,zI,Act.put,zE,zF,zG,zD,zC,zA,zB,zJ])|(refine .inr ?_;intro s vals J bs w hstop hg hJ hS hG;clear hG;simp only [zH,zI,Given,Facts] at hg;simp only [Qd,Qh,Qe,Qj,zH,zI,zA,zB,zK,if_true,Act.put,zE,zF,zG,hg];refine ⟨?_⟩;refine Qg (fun K hK=>?_);have HK:=yH hK;clear hK;rw [if_pos (by rfl)];( (go_wp2_with (fail)));refine HK.out _ _ ⟨rfl,J,PH.le.refl _,hS,?_⟩;clear HK;simp only [Facts];simp only [Qo,zH,zI,zD,zC,zA,zB,zJ])
       case step =>
        refine ⟨⟨trivial,?_⟩,?_⟩
        · intro vals J bs w hg hJ hS hG
          have hG:bs=_:=hG
          subst hG
          simp only [zH,zI,Given,Facts] at hg;simp only [Qd,Qh,Qe,Qj,zH,zI,zA,zB,zK,if_true,Act.put,zE,zF,zG,hg];refine ⟨?_⟩;refine Qg (fun K hK=>?_);have HK:=yH hK;clear hK;rw [if_pos (by rfl)]
          refine Xr (i:=k) hS 0 rfl rfl rfl rfl HOw.out (Nat.mul_one k).symm hkN Kk rfl (iv_one x) fun m' w hO' hS=>?_
          exact HK.out _ _ ⟨rfl,J,_,PH.le.refl _,hS,trivial,m',H1.out _ hO',rfl⟩
        · intro vals J bs w hg hJ hS hG
          refine Veil.out ?_
          obtain ⟨mm,hmm,hG⟩:=hG
          subst hG
          refine ⟨?_⟩
          simp only [zH,zI,Given,Facts] at hg;simp only [Qd,Qh,Qe,Qj,zH,zI,zA,zB,zK,if_true,Act.put,zE,zF,zG,hg];refine ⟨?_⟩;refine Qg (fun K hK=>?_);have HK:=yH hK;clear hK;rw [if_pos (by rfl)]
          refine Xr (i:=j) hS 0 rfl rfl rfl rfl hmm (Nat.mul_one _).symm hk1N Kk rfl (iv_one y) fun m' w hO' hS=>?_
          exact HK.out _ _ ⟨rfl,J,_,PH.le.refl _,hS,trivial,mm,m',hmm,H2.out _ hO',rfl⟩
       case fin =>
        intro vals J9 bs w hJ hg hS hG
        obtain ⟨_,m3,_,hO3,hns⟩:=hG
        subst hns
        have hS:=hS.less hJ
        simp only [zG] at hS
        have HO3:=yH hO3
        clear hO3 hJ
        simp only [yB,yC,Nat.reduceAdd,Below_,Facts,zH,zI,true_and,and_true] at hg;simp only [yB,yC,Nat.reduceAdd,Qd,Qh,Qe,zA,zB,zK,if_true,Act.put,zE,zF,zG,hg];refine ⟨?_⟩
        clear hg pX pY H1 H2
        go_wp2_with (first|((with_reducible refine isAppend ?_);(refine' apP (p:=_) (m:=_) (v:=_) (n:=_) (xs:=_) (news:=_) 2 (.inr (List.Mem.head _)) hS rfl rfl rfl Tryz.underlying23 int_info rfl (by decide) rfl HOd.out rfl ?hl ?hcl ?h1 ?h63 ?hby ?_);(case hcl=>exact Cells.one _ _ _ _);(case hl=>rfl);(case h1=>rfl);(case h63=>(unfold maxLen;omega));(case hby=>omega);clear hS;intro v1 m4 w hO4 hS;have HO4:=yH hO4;clear hO4;(try simp only [zF,zG] at hS);(try simp only [Act.put,zE,zF,zG]))|((with_reducible refine Qc ?_);  ((with_reducible refine Kq ?_);(refine' bsl hS ?hr ?_);(case hr=>(intro w0;go_simp;rfl));clear hS;intro XS w hS;(try simp only [Act.eval,zD,zC,zA,zB,zJ,Value.cells] at hS);(try simp only [Act.put,zE,zF,zG]))))
        obtain ⟨hk,hjs⟩:=HKs.out
        have hks:k=ix - 1 - s:=by omega
        refine ⟨⟨s+1,k,m3,m4,by omega,by omega,rfl,by rw [HR2.out];exact HO3.out,?_,hS.drop⟩,by simp [intOf];omega⟩
        have e1:(done ++ (List.range (s+1)).map fun k=>ix - 1 - k).flatMap ivC=(done ++ (List.range s).map fun k=>ix - 1 - k).flatMap ivC ++ [nv k]:=by
         rw [List.range_succ,List.map_append,← List.append_assoc,List.flatMap_append,hks];rfl
        rw [e1]
        exact HO4.out
     · obtain rfl:i=j:=by omega
       obtain ⟨htk',hmem',hln',hst⟩:=HT.out
       have hs:s=ix - i:=by omega
       have hng:¬ ((i:Int) > (i:Int)):=by omega
       have Hs:=yH hs
       have HTt:=yH (And.intro htk' (And.intro hmem' (And.intro hln' hst)))
       have HOa:=yH hO1
       have HOb:=yH hO2
       clear htk' hmem' hln' hst hs HT hO1 hO2
       go_wp2_with fail
       obtain ⟨htk',hmem',hln',hst⟩:=HTt.out
       refine ⟨⟨i+1,_,_,m1,m2,by omega,by go_num,hln',hmem',htk',hst,HOa.out,?_,hS⟩,by simp [intOf];omega⟩
       have:=HOb.out
       rw [Hs.out] at this
       simpa using this
  · obtain rfl:i=N:=by omega
    have he:b.drop i=[]:=List.drop_eq_nil_of_le (by rw [HN.out];exact Nat.le_refl _)
    rw [he,G.stepsP,List.append_nil] at hst
    have Hst:=yH hst
    have HOb:=yH hO2
    clear hst he hO1 hO2 htk hmem
    go_wp2_with fail
    go_ret2
    exact ⟨_,m2,rfl,by rw [Hst.out];exact HOb.out,hS.drop⟩
end
end Go.Proofs.YtidamcdklgfogaaGreat
