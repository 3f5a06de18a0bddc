import Derived.Test.YtidamcdklgfogaaGreatDoorUai
import Derived.Test.YtidamcdklgfogaaGreatDoorUae
import Derived.Laws.CopyRow
set_option linter.unusedVariables false
set_option linter.unusedSimpArgs false
set_option maxRecDepth 100000
set_option maxHeartbeats 4000000
namespace Go.Proofs.YtidamcdklgfogaaGreatDoor
section
open Go.RowKit
theorem Kl:Ze Tryz.prog 3=some false:=by kernel_rfl
theorem Yh:Km Tryz.prog 3=some 1:=by kernel_rfl
theorem ty_z3:zeroB Tryz.prog 3=some (.int .i64 0):=by kernel_rfl
theorem ty_agg4:Ze Tryz.prog 4=some false:=by kernel_rfl
theorem ty_sz4:Km Tryz.prog 4=some 1:=by kernel_rfl
theorem ty_z4:zeroB Tryz.prog 4=some (.bool false):=by kernel_rfl
theorem ty_agg162:Ze Tryz.prog 162=some true:=by kernel_rfl
theorem Kc:Km Tryz.prog 162=some 5:=by kernel_rfl
theorem Xh:zeroB Tryz.prog 162=some (.agg #[.int .i64 0,.int .i64 0,.int .i64 0,.int .i64 0,.int .i64 0]):=by kernel_rfl
theorem node_info:(Tryz.prog.info? 162).map (fun i=>(i.zero,i.size,i.bytes))=some (some (.agg #[.int .i64 0,.int .i64 0,.int .i64 0,.int .i64 0,.int .i64 0]),5,40):=by kernel_rfl
theorem bool_info:(Tryz.prog.info? 4).map (fun i=>(i.zero,i.size,i.bytes))=some (some (.bool false),1,1):=by kernel_rfl
theorem Xw:(Tryz.prog.info? 3).map (fun i=>(i.zero,i.size,i.bytes))=some (some (.int .i64 0),1,8):=by kernel_rfl
abbrev node0:Array Value := #[.int .i64 0,.int .i64 0,.int .i64 0,.int .i64 0,.int .i64 0]
theorem made_node:madeCells (Value.cells (.agg #[.int .i64 0,.int .i64 0,.int .i64 0,.int .i64 0,.int .i64 0])) (1 * 5)=node0:=by kernel_rfl
theorem made_bool:madeCells (Value.cells (.bool false)) (1 * 1) = #[.bool false]:=by kernel_rfl
abbrev vSl (n:Nat) (X:Nat):Value:=.slice (some ⟨X,0,none⟩) n n
abbrev vPt (X:Nat):Value:=.pointer (some ⟨X,0,none⟩)
theorem pnew_ok (E:World) (I:PH) (ms:List PH) (room:Int) (w:World) (h1:1<=room) (h2:room<=1048576) (hS:Sat E I ms w) :
  Calls Tryz.prog 108 #[.int .i64 room] w fun e w'=>∃ X A T,e=.returned (.tuple #[.pointer (some ⟨X,0,none⟩),.int .i64 0]) /\
   Sat E I (PH.one X (.cells #[.int .i64 room,.slice (some ⟨A,0,none⟩) 1 1,.slice (some ⟨T,0,none⟩) 1 1,.slice none 0 0,.int .i64 0] 215)::PH.one A (.cells node0 162)::PH.one T (.cells #[.bool false] 4)::ms) w':=by
 go_enter Tryz.func108,Tryz.ntmps108;go_wp2_with fail
 refine region_mk [[],[],[],[0,1,2],[0,1,2,3],[0,1,2,3,4],[0,1,2,3,4,5]] E I ms
  [fun _ v _=>v=.int .i64 room,fun _ v _=>∃ X,v=vSl 1 X,fun _ v _=>∃ X,v=vSl 1 X,fun vals v _=>v=.agg #[.int .i64 room,vals 1,vals 2,.slice none 0 0,.int .i64 0],fun _ v _=>∃ X,v=vPt X,fun vals v _=>v=vals 4,fun _ v _=>v=.int .i64 0]
  [⟨4,vPt,fun vals=>.cells (vals 3).cells 215⟩,⟨1,vSl 1,fun _=>.cells node0 162⟩,⟨2,vSl 1,fun _=>.cells #[.bool false] 4⟩]
  (by kernel_rfl) (by kernel_rfl) hS ?last ?ok ?mkd ?plain ?make ?fin
 case last=>(repeat' (first|exact trivial|apply And.intro)) <;> (first|exact (fun _ _ _ _ _ h=>h)|(intro vals vals' v J h e;  (simp only [zH,zI,List.forall_mem_cons] at h;simp_all)))
 case ok=>refine ⟨by simp,fun m hm=>?_⟩;simp only [jBa,jCb,jKb] at hm;(repeat' (rcases hm with rfl|hm)) <;> (try subst hm) <;> exact ⟨by decide,fun X=>rfl,fun vals vals' h=>by first|rfl|(simp only [zH,zI,List.forall_mem_cons] at h;simp_all)⟩
 case mkd =>
  intro m hm vals X J;simp only [jBa,jCb,jKb] at hm;rcases hm with rfl|rfl|rfl <;> exact ⟨X,rfl⟩
 case plain =>
  repeat' (first|exact trivial|apply And.intro)
  all_goals first|exact .inl rfl|skip
  all_goals
   refine .inr ?_;intro vals J bs w hsub hg hJ hS
   first
   | (refine Veil.out ?_
      obtain ⟨A,hA⟩:∃ A,vals 1=vSl 1 A:=hg.get 1 (by decide);obtain ⟨T,hT⟩:∃ A,vals 2=vSl 1 A:=hg.get 2 (by decide);refine ⟨?_⟩;have hg0:vals 0=.int .i64 room:=hg.get 0 (by decide);simp only [zH,zI,Given,Kx] at hg;simp only [Qb,Qe,Qd,Qf,zH,zI,zA,zB,zK,jC,Act.put,zE,zF,zG,hg0,hA,hT];refine ⟨?_⟩;refine Qz (fun K hK=>?_);have HK:=yH hK;clear hK;rw [jAa (by rfl)]
      go_wp2_with fail
      refine HK.out _ _ ⟨rfl,J,PH.le.refl _,hS,?_⟩;clear HK;simp only [Kx,Qh,zH,zI,zD,zC,zA,zB,zJ];rw [hA,hT])
   | (simp only [zH,zI,Given,Kx] at hg;simp only [Qb,Qe,Qd,Qf,zH,zI,zA,zB,zK,jC,Act.put,zE,zF,zG,hg];refine ⟨?_⟩;refine Qz (fun K hK=>?_);have HK:=yH hK;clear hK;rw [jAa (by rfl)];go_wp2_with fail;refine HK.out _ _ ⟨rfl,J,PH.le.refl _,hS,?_⟩;clear HK;simp only [Kx,Qh,zH,zI,zD,zC,zA,zB,zJ])
 case make =>
  clear hS;intro m hm;simp only [jBa,jCb,jKb] at hm;rcases hm with rfl|rfl|rfl
  all_goals intro vals J bs w hsub hg hJ hS
  . simp only [zH,zI,Given,Kx] at hg;simp only [Qb,Qe,Qd,Qf,zH,zI,zA,zB,zK,jC,Act.put,zE,zF,zG,hg];refine ⟨?_⟩;refine Qz (fun K hK=>?_);have HK:=yH hK;clear hK;rw [jAa (by rfl)]
    refine wp_bx hS rfl rfl fun X w hS=>?_
    refine HK.out _ _ ⟨rfl,J,X,PH.le.refl _,?_,hS⟩;simp only [Qh,Act.put,zE,zF,zG,zD,zC,zA,zB,zJ]
  . simp only [zH,zI,Given,Kx] at hg;simp only [Qb,Qe,Qd,Qf,zH,zI,zB,zK,jC,Act.put,zE,zF,zG];refine ⟨?_⟩;refine Qz (fun K hK=>?_);have HK:=yH hK;clear hK;rw [jAa (by rfl)]
    refine wp_mks hS rfl Tryz.underlying196 node_info rfl rfl rfl rfl (jBb _) (by decide) (by decide) fun X w hS=>?_
    rw [made_node] at hS;refine HK.out _ _ ⟨rfl,J,X,PH.le.refl _,?_,hS⟩;simp only [Qh,Act.put,zE,zF,zG,zD,zC,zA,zB,zJ]
  . simp only [zH,zI,Given,Kx] at hg;simp only [Qb,Qe,Qd,Qf,zH,zI,zA,zB,zK,jC,Act.put,zE,zF,zG];refine ⟨?_⟩;refine Qz (fun K hK=>?_);have HK:=yH hK;clear hK;rw [jAa (by rfl)]
    refine wp_mks hS rfl Tryz.underlying57 bool_info rfl rfl rfl rfl (jBb _) (by decide) (by decide) fun X w hS=>?_
    rw [made_bool] at hS;refine HK.out _ _ ⟨rfl,J,X,PH.le.refl _,?_,hS⟩;simp only [Qh,Act.put,zE,zF,zG,zD,zC,zA,zB,zJ]
 case fin =>
  clear hS;intro vals J w hJ hg hS;obtain ⟨A,hA⟩:∃ A,vals 1=vSl 1 A:=hg.get 1 (by decide);obtain ⟨T,hT⟩:∃ A,vals 2=vSl 1 A:=hg.get 2 (by decide);obtain ⟨X,hX⟩:∃ A,vals 4=vPt A:=hg.get 4 (by decide);have h3:vals 3=.agg #[.int .i64 room,vals 1,vals 2,.slice none 0 0,.int .i64 0]:=hg.get 3 (by decide);simp only [jD,jTb,h3,hA,hT,hX,baseOf,List.cons_append,List.nil_append] at hS;have hS:=hS.less hJ;simp only [yB,yC,Nat.reduceAdd,Below_,Kx,zH,zI,jGb] at hg;simp only [yB,yC,Nat.reduceAdd,Qb,Qe,Qd,zA,zB,zK,jC,Act.put,zE,zF,zG,hg];refine ⟨?_⟩;go_wp2
  go_ret2;exact ⟨X,A,T,jQb (fun v=>Ending.returned (.tuple #[v,.int .i64 0])) hX,hS⟩
end
section
open Go.RowKit
def WdRo (I:PH) (v:Value) (l:List ByteArray):Prop:=∃ A c,v=.slice A l.length c/\l.length<=c/\(0<l.length->∃ X off,A=some ⟨X,off,none⟩/\∀ (i:Nat) x,l[i]?=some x->I.at X (off+i)=some (.string x))
theorem WdRo.le {I J:PH} {v:Value} {l:List ByteArray} (h:WdRo I v l) (hJ:I.le J):WdRo J v l:=by
 obtain ⟨A,c,rfl,hc,h2⟩:=h;refine ⟨A,c,rfl,hc,fun hn=>?_⟩;obtain ⟨X,o,e,h3⟩:=h2 hn;exact ⟨X,o,e,fun i x hx=>PH.at_le hJ (h3 i x hx)⟩
theorem numO_pr (hi:Int) (w:List Nat):numO hi w=if prE w 0 hi=0 then some (prN w 0 hi) else none:=by
 unfold numO prE prN;by_cases h1:Zb w=true
 . by_cases h2:0<=Za w/\Za w<=hi
   . simp [h1,h2]
   . simp [h1,h2]
 . simp [h1]
theorem numsO_step (hi:Int) {W:List (List Nat)} {i:Nat} {x:List Nat} (h:W[i]?=some x) (xs:List Int) :
  (Qy hi (W.drop i)).map (xs ++ ·)=if prE x 0 hi=0 then (Qy hi (W.drop (i+1))).map ((xs ++ [prN x 0 hi]) ++ ·) else none:=by
 have hg:=yE.1 h;rw [jHa hg.1,hg.2,Qy,numO_pr];by_cases hp:prE x 0 hi=0
 . rw [jAa hp,jAa hp]
   show ((Qy hi (W.drop (i+1))).map (prN x 0 hi :: ·)).map (xs ++ ·)=_
   rw [Option.map_map];congr 1
   funext l
   simp
 . rw [jAb hp,jAb hp]
   rfl
def NumsR (r:Option (List Int)) (E:World) (I:PH) (ms:List PH) (e:Ending) (w':World):Prop:=∃ u m,e=.returned (.tuple #[u,.bool r.isSome])/\OwnP m 3 1 u (r.getD []).length ((r.getD []).map (Value.int .i64))/\Sat E I (m::ms) w'
theorem ty_agg24:Ze Tryz.prog 24=some false:=by kernel_rfl
theorem ty_sz24:Km Tryz.prog 24=some 1:=by kernel_rfl
theorem Zr:Ze Tryz.prog 9=some false:=by kernel_rfl
theorem dnumbers_any {E w:World} {I:PH} {ms:List PH} {v:Value} {ws:List ByteArray} (hv:WdRo I v ws) (hsz:∀ s ∈ ws,s.size<=70000) (hlen:ws.length<=100000) (hS:Sat E I ms w) :
  Calls Tryz.prog 22 #[v] w fun e w'=>NumsR (Qy 8193 (ws.map lst)) E I ms e w':=by
 obtain ⟨A,c,rfl,_,hc⟩:=hv;have Hc:=yH hc;have HPr:=yH (fun (s:ByteArray) (w:World) (hs:s ∈ ws)=>parse_any s 0 8193 w (by have:=hsz s hs;omega) (by unfold I64;omega) (by unfold I64;omega));have HSt:=yH (fun (i:Nat) (x:ByteArray) (xs:List Int) (h:ws[i]?=some x)=>numsO_step 8193 (W:=ws.map lst) (i:=i) (x:=lst x) (by rw [jNb,h];rfl) xs);clear hc hsz;generalize hq:ws.length=N at *
 have HQ:=yH hq;clear hq;go_enter Tryz.func22,Tryz.ntmps22;go_wp2_with (fail)
 have HS0:=yH hS.empty;clear hS;go_loopw [4,11] (fun v4 v11 wr=>∃ (i:Nat) (xs:List Int) (m:PH),i<=N/\v11=.int .i64 (i:Int)/\xs.length=i/\OwnP m 3 1 v4 xs.length (xs.map (Value.int .i64))/\Qy 8193 (ws.map lst)=(Qy 8193 ((ws.map lst).drop i)).map (xs ++ ·)/\Sat E I (m::ms) wr) (fun _ v11 _=>(N - intOf v11).toNat)
 case atStart=>exact ⟨0,[],_,jCa _,rfl,rfl,OwnP.nil _ _,by simp,HS0.out⟩
 case round =>
  clear HS0;obtain ⟨i,xs,m,hi,rfl,hxl,hO,hrun,hS⟩:=hrel;obtain ⟨A3,c3,rfl,_⟩:=hO.shape;by_cases hlt:i<N
  . obtain ⟨x,hget⟩:∃ x,ws[i]?=some x:=⟨_,yA (by rw [HQ.out];exact hlt)⟩
    obtain ⟨Y,off,rfl,hcs⟩:=Hc.out (by omega);have hcell:=hcs i x hget;have HPx:=yH (fun w=>HPr.out x w (jDb hget));rw [HSt.out i x xs hget] at hrun;have HR:=yH hrun;have HL:=yH hxl;have lx:xs.length<=100000:=by omega
    have i0:(0:Int)<=i:=by omega
    have i1:(i:Int)<N:=by omega
    clear hcs hget hrun hxl;generalize prE (lst x) 0 8193=pe at *
    generalize prN (lst x) 0 8193=pn at *
    by_cases hp:pe=0
    . have d1:(pe != 0)=false:=by simpa using hp
      go_wp2_with (first
       | (go_at_call 66;with_reducible refine bC (HPx.out _) ?_)
       | (at_builtin;(refine' apP (p:=_) (m:=_) (v:=_) (n:=_) (xs:=_) (news:=_) 1 (.inr (List.Mem.head _)) hS rfl rfl rfl Tryz.underlying24 Xw rfl (by decide) rfl ?hown rfl ?hl ?hcl ?h1 ?h63 ?hby ?_);(case hown=>assumption);(case hcl=>exact Cells.one _ _ _ _);(case hl=>rfl);(case h1=>rfl);(case h63=>go_light;unfold maxLen;omega);(case hby=>go_light;omega);clear hS hO;intro v1 m1 w hO hS;(try simp only [zF,zG] at hS);(try simp only [Act.put,zE,zF,zG]))
       | (refine aL ?_)|(refine aY ?_;clear hS;intro XS w hS))
      exact ⟨⟨i+1,xs ++ [pn],m1,by omega,by go_num,by rw [yG,HL.out];rfl,by rw [yG,jH];exact hO,by have:=HR.out;rwa [jAa hp] at this,hS.drop⟩,by simp [intOf];omega⟩
    . have d1:(pe != 0)=true:=by simpa using hp
      go_wp2_with (first
       | (go_at_call 66;with_reducible refine bC (HPx.out _) ?_)
       | (refine aL ?_))
      go_ret2;have hr:=HR.out;rw [jAb hp] at hr;rw [hr];exact ⟨_,_,rfl,OwnP.nil _ _,hS.drop.empty⟩
  . obtain rfl:i=N:=by omega
    have i1:¬ (i:Int)<(i:Int):=by omega
    rw [kLb (by rw [jHb,HQ.out];exact jBb _)] at hrun;have HR:=yH (show Qy 8193 (ws.map lst)=some xs from by rw [hrun];simp [Qy]);have HO:=yH hO;clear hrun hO hxl;go_wp2_with (fail)
    go_ret2;rw [HR.out];exact ⟨_,m,rfl,HO.out,hS⟩
theorem rnumbers_any {E w:World} {I:PH} {ms:List PH} {v:Value} {ws:List ByteArray} (hv:WdRo I v ws) (hsz:∀ s ∈ ws,s.size<=70000) (hlen:ws.length<=100000) (hS:Sat E I ms w) :
  Calls Tryz.prog 25 #[v] w fun e w'=>NumsR (Qy 1099511627776 (ws.map lst)) E I ms e w':=by
 obtain ⟨A,c,rfl,_,hc⟩:=hv;have Hc:=yH hc;have HPr:=yH (fun (s:ByteArray) (w:World) (hs:s ∈ ws)=>rparse_any s 0 1099511627776 w (hsz s hs) (by unfold I64;omega) (by unfold I64;omega));have HSt:=yH (fun (i:Nat) (x:ByteArray) (xs:List Int) (h:ws[i]?=some x)=>numsO_step 1099511627776 (W:=ws.map lst) (i:=i) (x:=lst x) (by rw [jNb,h];rfl) xs);clear hc hsz;generalize hq:ws.length=N at *
 have HQ:=yH hq;clear hq;go_enter Tryz.func25,Tryz.ntmps25;go_wp2_with (first|(refine aY ?_;clear hS;intro XS w hS))
 have HS0:=yH hS;have HO0:=yH (OwnP.lit XS 3 1 0 #[] (jCa _) rfl);clear hS;go_loopw [4,5] (fun v4 v5 wr=>∃ (i:Nat) (xs:List Int) (m:PH),i<=N/\v5=.int .i64 (i:Int)/\xs.length=i/\OwnP m 3 1 v4 xs.length (xs.map (Value.int .i64))/\Qy 1099511627776 (ws.map lst)=(Qy 1099511627776 ((ws.map lst).drop i)).map (xs ++ ·)/\Sat E I (m::ms) wr) (fun _ v5 _=>(N - intOf v5).toNat)
 case atStart=>exact ⟨0,[],_,jCa _,rfl,rfl,HO0.out,by simp,HS0.out⟩
 case round =>
  clear HS0 HO0;obtain ⟨i,xs,m,hi,rfl,hxl,hO,hrun,hS⟩:=hrel;obtain ⟨A3,c3,rfl,_⟩:=hO.shape;by_cases hlt:i<N
  . obtain ⟨x,hget⟩:∃ x,ws[i]?=some x:=⟨_,yA (by rw [HQ.out];exact hlt)⟩
    obtain ⟨Y,off,rfl,hcs⟩:=Hc.out (by omega);have hcell:=hcs i x hget;have HPx:=yH (fun w=>HPr.out x w (jDb hget));rw [HSt.out i x xs hget] at hrun;have HR:=yH hrun;have HL:=yH hxl;have lx:xs.length<=100000:=by omega
    have i0:(0:Int)<=i:=by omega
    have i1:(i:Int)<N:=by omega
    clear hcs hget hrun hxl;generalize prE (lst x) 0 1099511627776=pe at *
    generalize prN (lst x) 0 1099511627776=pn at *
    by_cases hp:pe=0
    . have d1:(pe != 0)=false:=by simpa using hp
      go_wp2_with (first
       | (go_at_call 68;(with_reducible refine bB hS (HPx.out _) ?_);clear hS;intro w2 hS)
       | (at_builtin;(refine' apP (p:=_) (m:=_) (v:=_) (n:=_) (xs:=_) (news:=_) 1 (.inr (List.Mem.head _)) hS rfl rfl rfl Tryz.underlying24 Xw rfl (by decide) rfl ?hown rfl ?hl ?hcl ?h1 ?h63 ?hby ?_);(case hown=>assumption);(case hcl=>exact Cells.one _ _ _ _);(case hl=>rfl);(case h1=>rfl);(case h63=>go_light;unfold maxLen;omega);(case hby=>go_light;omega);clear hS hO;intro v1 m1 w hO hS;(try simp only [zF,zG] at hS);(try simp only [Act.put,zE,zF,zG]))
       | (refine aL ?_)|(refine aY ?_;clear hS;intro XS w hS))
      exact ⟨⟨i+1,xs ++ [pn],m1,by omega,by go_num,by rw [yG,HL.out];rfl,by rw [yG,jH];exact hO,by have:=HR.out;rwa [jAa hp] at this,hS.drop⟩,by simp [intOf];omega⟩
    . have d1:(pe != 0)=true:=by simpa using hp
      go_wp2_with (first
       | (go_at_call 68;(with_reducible refine bB hS (HPx.out _) ?_);clear hS;intro w2 hS)
       | (refine aL ?_))
      go_ret2;have hr:=HR.out;rw [jAb hp] at hr;rw [hr];exact ⟨_,_,rfl,OwnP.nil _ _,hS.drop.empty⟩
  . obtain rfl:i=N:=by omega
    have i1:¬ (i:Int)<(i:Int):=by omega
    rw [kLb (by rw [jHb,HQ.out];exact jBb _)] at hrun;have HR:=yH (show Qy 1099511627776 (ws.map lst)=some xs from by rw [hrun];simp [Qy]);have HO:=yH hO;clear hrun hO hxl;go_wp2_with (fail)
    go_ret2;rw [HR.out];exact ⟨_,m,rfl,HO.out,hS⟩
theorem lstExt (s:ByteArray) (a b:Nat):lst (s.extract a b)=((lst s).drop a).take (b - a):=by
 unfold lst;simp [ByteArray.data_extract,List.extract_eq_take_drop]
theorem seg_cut {c:Nat} {l:List Nat} {f i:Nat} (hf:f<=i) (h:l[i]?=some c) (hno:∀ t x,f<=t->t<i->l[t]?=some x->x≠c):l.drop f=(l.drop f).take (i - f) ++ c::l.drop (i+1)/\c ∉ (l.drop f).take (i - f):=by
 refine ⟨?_,fun hm=>?_⟩
 . have hlt:=(yE.1 h).1
   have h2:=(yE.1 h).2;conv=>lhs;rw [<- jX (i - f) (l.drop f)]
   rw [List.drop_drop,show f+(i - f)=i by omega,jHa hlt,h2]
 . obtain ⟨t,ht⟩:=List.mem_iff_getElem?.1 hm
   rw [kEb] at ht;split at ht
   . rw [kMa] at ht
     exact hno (f+t) c (by omega) (by omega) ht rfl
   . cases ht
theorem seg_last {c:Nat} {l:List Nat} {f:Nat} (hno:∀ t x,f<=t->l[t]?=some x->x≠c):Qw c (l.drop f)=[l.drop f]:=by
 refine splC_miss c _ fun hm=>?_
 obtain ⟨t,ht⟩:=List.mem_iff_getElem?.1 hm;rw [kMa] at ht;exact hno (f+t) c (by omega) ht rfl
theorem string_info:(Tryz.prog.info? 9).map (fun i=>(i.zero,i.size,i.bytes))=some (some (.string ⟨#[]⟩),1,16):=by kernel_rfl
theorem rwords_any {E w:World} {I:PH} {ms:List PH} (s:ByteArray) (hs:s.size<=70000) (hS:Sat E I ms w) :
  Calls Tryz.prog 24 #[.string s] w fun e w'=>∃ (v:Value) (m:PH) (ps:List ByteArray),e=.returned v/\OwnP m 9 1 v ps.length (ps.map Value.string)/\ps.map lst=Qw 32 (lst s)/\Sat E I (m::ms) w':=by
 go_enter Tryz.func24,Tryz.ntmps24;go_wp2_with (first|(refine aY ?_;clear hS;intro XS w hS))
 have HS0:=yH hS;have HO0:=yH (OwnP.lit XS 9 1 0 #[] (jCa _) rfl);have HLs:=yH (Qi s);clear hS;go_loopw [3,4,5] (fun v3 v4 v5 wr=>∃ (f i:Nat) (ps:List ByteArray) (m:PH),i<=s.size+1/\f<=i/\v4=.int .i64 (f:Int)/\v5=.int .i64 (i:Int)/\ps.length<=i/\OwnP m 9 1 v3 ps.length (ps.map Value.string)/\((i<=s.size/\ps.map lst ++ Qw 32 ((lst s).drop f)=Qw 32 (lst s)/\(∀ t x,f<=t->t<i->(lst s)[t]?=some x->x≠32))\/(i=s.size+1/\ps.map lst=Qw 32 (lst s)))/\Sat E I (m::ms) wr) (fun _ _ v5 _=>(s.size+1 - intOf v5).toNat)
 case atStart=>exact ⟨0,0,[],_,by omega,by omega,rfl,rfl,by simp,HO0.out,.inl ⟨by omega,by simp,fun t x h1 h2=>by omega⟩,HS0.out⟩
 case round =>
  clear HS0 HO0;obtain ⟨f,i,ps,m,hi,hfi,rfl,rfl,hpl,hO,hcs,hS⟩:=hrel;obtain ⟨A3,c3,rfl,_⟩:=hO.shape;have lp:ps.length<=70001:=by omega
  rcases hcs with ⟨hin,hsum,hno⟩|⟨hin,hend⟩
  . have HSum:=yH hsum
    have HNo:=yH hno;have HPl:=yH hpl;clear hsum hno hpl;have g0:(i:Int)<=(s.size:Int):=by omega
    by_cases hlt:i<s.size
    . have g1:((i:Int) == (s.size:Int))=false:=by rw [jGa];omega
      have g2:(i:Int)<(s.size:Int):=by omega
      have g3:(0:Int)<=(i:Int):=by omega
      obtain ⟨b,hb,hb2,hbl⟩:=byteI s i hlt;have HBl:=yH hbl;clear hbl;have g4:(f:Int)<=(i:Int):=by omega
      have g5:min i s.size=i:=by omega
      by_cases h32:b=32
      . subst h32
        have d1:(((s[i].toNat:Nat):Int) == 32)=true:=by rw [hb];rfl
        go_wp2_with (first|(at_builtin;(refine' apP (p:=_) (m:=_) (v:=_) (n:=_) (xs:=_) (news:=_) 1 (.inr (List.Mem.head _)) hS rfl rfl rfl Tryz.underlying58 string_info rfl (by decide) rfl ?hown rfl ?hl ?hcl ?h1 ?h63 ?hby ?_);(case hown=>assumption);(case hcl=>exact Cells.one _ _ _ _);(case hl=>rfl);(case h1=>rfl);(case h63=>go_light;unfold maxLen;omega);(case hby=>go_light;omega);clear hS hO;intro v1 m1 w hO hS;(try simp only [zF,zG] at hS);(try simp only [Act.put,zE,zF,zG]))|(refine aG ?_)|(refine aY ?_;clear hS;intro XS w hS))
        refine ⟨⟨i+1,i+1,ps ++ [s.extract f i],m1,by omega,jBb _,by go_num,by go_num,by have:=HPl.out;simp;omega,by rw [yG,jH];exact hO,.inl ⟨by omega,?_,fun t x h1 h2=>by omega⟩,hS.drop⟩,by simp [intOf];omega⟩;obtain ⟨h1,h2⟩:=seg_cut hfi HBl.out HNo.out;rw [jH,jD,jTb,lstExt,jFb];have h3:=splC_hit 32 ((lst s).drop (i+1)) (((lst s).drop f).take (i - f)) h2;rw [<- h1] at h3;rw [<- HSum.out,h3];rfl
      . have d1:(((s[i].toNat:Nat):Int) == 32)=false:=by rw [hb,jGa];omega
        go_wp2_with (first|(refine aG ?_))
        exact ⟨⟨f,i+1,ps,m,by omega,by omega,rfl,by go_num,by have:=HPl.out;omega,hO,.inl ⟨by omega,HSum.out,fun t x h1 h2 h3=>by
         by_cases e:t=i
         . subst e;rw [HBl.out] at h3;injection h3 with h3;omega
         . exact HNo.out t x h1 (by omega) h3⟩,hS⟩,by simp [intOf];omega⟩
    . obtain rfl:i=s.size:=by omega
      have g1:((s.size:Int) == (s.size:Int))=true:=by simp
      have g4:(f:Int)<=(s.size:Int):=by omega
      have g5:min s.size s.size=s.size:=by omega
      go_wp2_with (first|(at_builtin;(refine' apP (p:=_) (m:=_) (v:=_) (n:=_) (xs:=_) (news:=_) 1 (.inr (List.Mem.head _)) hS rfl rfl rfl Tryz.underlying58 string_info rfl (by decide) rfl ?hown rfl ?hl ?hcl ?h1 ?h63 ?hby ?_);(case hown=>assumption);(case hcl=>exact Cells.one _ _ _ _);(case hl=>rfl);(case h1=>rfl);(case h63=>go_light;unfold maxLen;omega);(case hby=>go_light;omega);clear hS hO;intro v1 m1 w hO hS;(try simp only [zF,zG] at hS);(try simp only [Act.put,zE,zF,zG]))|(refine aY ?_;clear hS;intro XS w hS))
      refine ⟨⟨s.size+1,s.size+1,ps ++ [s.extract f s.size],m1,jBb _,jBb _,by go_num,by go_num,by have:=HPl.out;simp;omega,by rw [yG,jH];exact hO,.inr ⟨rfl,?_⟩,hS.drop⟩,by  (simp [intOf];done) ⟩;rw [jH,jD,jTb,lstExt,<- HSum.out,seg_last (fun t x h1 h2=>HNo.out t x h1 (by have:=(yE.1 h2).1;rw [HLs.out] at this;exact this) h2),jFa (by rw [kWb,HLs.out];exact jBb _)]
  . subst hin
    have g0:¬ ((s.size+1:Nat):Int)<=(s.size:Int):=by omega
    have HEn:=yH hend;have HO:=yH hO;clear hend hO;go_wp2_with (fail)
    go_ret;exact ⟨_,rfl,m,ps,HO.out,HEn.out,hS⟩
end
section
open Go.RowKit
def PH.all:List PH->PH
 | []=>fun _=>none
 | m::l=>m.join (PH.all l)
theorem PH.all_some {l:List PH} {b:Nat} {o:Obj} (h:PH.all l b=some o):∃ m ∈ l,m b=some o:=by
 induction l with
 | nil=>cases h
 | cons m l ih =>
   unfold PH.all PH.join at h;cases hm:m b with
   | some u=>rw [hm] at h;exact ⟨m,.head _,by rw [hm];exact h⟩
   | none =>
     rw [hm] at h;obtain ⟨n,hn,h1⟩:=ih h;exact ⟨n,.tail _ hn,h1⟩
theorem PH.all_mem {l:List PH} (hd:l.Pairwise PH.off) {m:PH} (hm:m ∈ l):m.le (PH.all l):=by
 induction l with
 | nil=>cases hm
 | cons n l ih =>
   obtain ⟨h1,h2⟩:=jNa.1 hd;intro b o hb;unfold PH.all PH.join;rcases jBa.1 hm with rfl|hm
   . rw [hb]
   . rcases h1 m hm b with h|h
     . rw [h];exact ih h2 hm b o hb
     . rw [hb] at h;cases h
def Bd (m:PH) (l:List PH):Prop:=m=PH.all l/\l.Pairwise PH.off
section
variable {E w:World} {I m:PH} {l ms:List PH}
theorem Sat.pack (l:List PH) (h:Sat E I (l ++ ms) w):∃ m,Bd m l/\Sat E I (m::ms) w:=by
 obtain ⟨d1,d2,d3⟩:=List.pairwise_append.1 h.dis;refine ⟨PH.all l,⟨rfl,d1⟩,h.os,h.tape,h.output,h.imm,fun p hp b o hb=>?_,fun p hp b=>?_,jNa.2 ⟨fun p hp b=>?_,d2⟩,h.size⟩
 . rcases jBa.1 hp with rfl|hp
   . obtain ⟨q,hq,h1⟩:=PH.all_some hb
     exact h.own q (jSb _ hq) b o h1
   . exact h.own p (kDb _ hp) b o hb
 . rcases jBa.1 hp with rfl|hp
   . cases hb:PH.all l b with
     | none=>exact .inl rfl
     | some o =>
       obtain ⟨q,hq,h1⟩:=PH.all_some hb;rcases h.sep q (jSb _ hq) b with h2|h2
       . rw [h1] at h2;cases h2
       . exact .inr h2
   . exact h.sep p (kDb _ hp) b
 . cases hb:PH.all l b with
   | none=>exact .inl rfl
   | some o =>
     obtain ⟨q,hq,h1⟩:=PH.all_some hb;rcases d3 q hq p hp b with h2|h2
     . rw [h1] at h2;cases h2
     . exact .inr h2
theorem Sat.unpack (hb:Bd m l) (h:Sat E I (m::ms) w):Sat E I (l ++ ms) w:=by
 obtain ⟨rfl,hd⟩:=hb;obtain ⟨d1,d2⟩:=jNa.1 h.dis;have hle:∀ {p},p ∈ l->p.le (PH.all l):=fun hp=>PH.all_mem hd hp
 have hnone:∀ {p b},p ∈ l->PH.all l b=none->p b=none:=fun {p b} hp h0=>by
  cases hpb:p b with
  | none=>rfl
  | some o=>rw [hle hp b o hpb] at h0;cases h0
 refine ⟨h.os,h.tape,h.output,h.imm,fun p hp b o hpb=>?_,fun p hp b=>?_,List.pairwise_append.2 ⟨hd,d2,fun p hp q hq b=>?_⟩,h.size⟩
 . rcases jIa.1 hp with hp|hp
   . exact h.own _ (.head _) b o (hle hp b o hpb)
   . exact h.own p (.tail _ hp) b o hpb
 . rcases jIa.1 hp with hp|hp
   . rcases h.sep _ (.head _) b with h0|h0
     . exact .inl (hnone hp h0)
     . exact .inr h0
   . exact h.sep p (.tail _ hp) b
 . rcases d1 q hq b with h0|h0
   . exact .inl (hnone hp h0)
   . exact .inr h0
theorem Sat.pick (h:Sat E I ms w) (k:Nat) (hm:ms[k]?=some m):Sat E I (m::ms.eraseIdx k) w:=h.perm (Kg k hm)
theorem Sat.back {m':PH} (k:Nat) (hm:ms[k]?=some m) (h:Sat E I (m'::ms.eraseIdx k) w):Sat E I (ms.set k m') w:=h.perm (Ko k hm)
end
section
variable {P:Program} {o:Oper} {a:Act} {w E:World} {K:Act->World->Prop} {Q:Exit->Act->World->Prop} {I:PH} {ms:List PH}
def spl (xs:List Value) (off:Nat) (us:List Value):List Value:=xs.take off ++ us ++ xs.drop (off+us.length)
theorem spl_len {xs us:List Value} {off:Nat} (h:off+us.length<=xs.length):(spl xs off us).length=xs.length:=by unfold spl;simp;omega
theorem wp_stM (hS:Sat E I ms w) (k:Nat) {T:TypeId} {x y:Operand} (ho:o.op=.store T x y) {X off:Nat} {c:Array Value} {T':TypeId} {v:Value} (hx:a.eval x=.pointer (some ⟨X,off,none⟩)) (hy:a.eval y=v)
  (hm:ms[k]?=some (PH.one X (.cells c T' (0,0)))) (hs:Km P T=some v.cells.size) (hlt:off+v.cells.size<=c.size) (h1:∀ u ∈ v.cells.toList,u.oneCell'=true)
  (h:∀ w',Sat E I (ms.set k (PH.one X (.cells (spl c.toList off v.cells.toList).toArray T'))) w'->K (a.put o.dst undef) w'):o.wp P a w K Q:=by
 unfold Oper.wp execOp;have h0:=hS.perm (Kg k hm);have hg:=h0.own _ (.head _) X _ (PH.one_self _ _);have hst:=run_storeCells_at (P:=P) X off T' v.cells.toList 0 c w hg (by simpa using hlt) h1;have hsz:=Xc hs;simp only [Nat.add_zero] at hst;simp only [ho,hx,hy,Instr.storeAt,Instr.sureAddr,Sem.run_bind,Sem.run_pure,Result.andThen_ok];cases hq:P.info? T with
 | none=>rw [hq] at hsz;cases hsz
 | some i =>
   have hs':v.cells.size=i.size:=by rw [hq] at hsz;simpa using hsz.symm
   have hv:(storeVar T ⟨X,off,none⟩ v).run P w=.ok () (w.setRow X (spl c.toList off v.cells.toList).toArray):=by
    unfold spl;simp [storeVar,sizeOf,typeInfo,hq,hs',hst]
   rw [hv];exact h _ ((setRow_step h0).perm (Ko k hm))
theorem Xf (hS:Sat E I ms w) (k:Nat) {m:PH} (hm:ms[k]?=some m) {T e:TypeId} {x y:Operand} (ho:o.op=.store T x y) {X off n c size i:Nat} {xs:List Value} {v:Value} (hx:a.eval x=.pointer (some ⟨X,off,none⟩)) (hy:a.eval y=v)
  (hO:OwnP m e size (.slice (some ⟨X,0,none⟩) n c) n xs) (hoff:off=i * size) (hi:i<n) (hs:Km P T=some size) (hv:v.cells.size=size) (h1:∀ u ∈ v.cells.toList,u.oneCell'=true)
  (h:∀ m' w',OwnP m' e size (.slice (some ⟨X,0,none⟩) n c) n (spl xs off v.cells.toList)->Sat E I (ms.set k m') w'->K (a.put o.dst undef) w'):o.wp P a w K Q:=by
 subst hoff;have hle:i * size+size<=n * size:=by rw [<- kIb];exact jU _ hi
 rcases hO.2 with ⟨h0,_⟩|⟨g,cap,cur,hvs,rfl,hnc,hcm,hcs,htk⟩
 . cases h0
 . injection hvs with hA _ hC
   injection hA with hA
   injection hA with hA
   subst hA hC;have hns:n * size<=c * size:=jU _ hnc;refine wp_stM hS k ho hx hy hm (by rw [hv];exact hs) (by rw [hv];omega) h1 fun w' hS'=>h _ w' ⟨?_,.inr ⟨X,c,_,rfl,rfl,hnc,hcm,?_,?_⟩⟩ hS'
   . rw [spl_len (by rw [hO.1];simp [hv];omega)];exact hO.1
   . simp only [jSa]
     rw [spl_len (by simp [hv];omega)];simpa using hcs
   . simp only
     rw [<- htk];have hvl:v.cells.toList.length=size:=by simpa using hv
     generalize v.cells.toList=us at *
     generalize cur.toList=cs at *
     have hcl:n * size<=cs.length:=by
      have:=hO.1;rw [<- htk,jUa] at this;omega
     unfold spl;have e1:(cs.take (n * size)).take (i * size)=cs.take (i * size):=by rw [List.take_take,kA (by omega)]
     have e2:(cs.take (n * size)).drop (i * size+us.length)=(cs.drop (i * size+us.length)).take (n * size - (i * size+us.length)):=List.drop_take;have e3:(cs.take (i * size) ++ us).length=i * size+us.length:=by simp;omega
     rw [e1,e2,List.take_append,e3,jFa (by rw [e3];omega)]
theorem st_row {ops:Array Oper} {rest:List Oper} (k:Nat) (hS:Sat E I ms w) (hg:o.guard=none) {m:PH} (hm:ms[k]?=some m) {T e:TypeId} {x y:Operand} (ho:o.op=.store T x y) {X off n c size i:Nat} {xs:List Value} {v:Value} (hx:a.eval x=.pointer (some ⟨X,off,none⟩)) (hy:a.eval y=v)
  (hO:OwnP m e size (.slice (some ⟨X,0,none⟩) n c) n xs) (hoff:off=i * size) (hi:i<n) (hs:Km P T=some size) (hv:v.cells.size=size) (h1:∀ u ∈ v.cells.toList,u.oneCell'=true)
  (h:∀ m' w',OwnP m' e size (.slice (some ⟨X,0,none⟩) n c) n (spl xs off v.cells.toList)->Sat E I (ms.set k m') w'->wpList P ops Q rest (a.put o.dst undef) w'):wpList P ops Q (o::rest) a w :=
 wpList_plain hg fun _ hK=>Xf hS k hm ho hx hy hO hoff hi hs hv h1 fun m' w' h2 h3=>hK _ _ (h m' w' h2 h3)
end
section
variable {α:Type} {f:α->List Value} {size:Nat}
theorem Zh (hf:∀ x,(f x).length=size):∀ l:List α,(l.flatMap f).length=l.length * size
 | []=>by simp
 | x::l=>by rw [jO,yG,hf,Zh hf l,yB,kIb];omega
theorem flat_split (hf:∀ x,(f x).length=size):∀ (l:List α) (i:Nat),(l.flatMap f).take (i * size)=(l.take i).flatMap f/\(l.flatMap f).drop (i * size)=(l.drop i).flatMap f
 | l,0=>by simp
 | [],i+1=>by simp
 | x::l,i+1=>by
   obtain ⟨h1,h2⟩:=flat_split hf l i;have e:(i+1) * size=(f x).length+i * size:=by rw [hf,kIb];omega
   rw [jO,e,List.take_length_add_append,List.drop_length_add_append,h1,h2,List.take_succ_cons,jO,kJb];exact ⟨rfl,rfl⟩
theorem flat_set (hf:∀ x,(f x).length=size) (l:List α) (i:Nat) (hi:i<l.length) (x:α):spl (l.flatMap f) (i * size) (f x)=(l.set i x).flatMap f:=by
 unfold spl;obtain ⟨h1,_⟩:=flat_split hf l i;obtain ⟨_,h2⟩:=flat_split hf l (i+1);rw [h1,hf,show i * size+size=(i+1) * size by rw [kIb],h2,List.set_eq_take_append_cons_drop,jAa hi,jLb,jO,jFb]
theorem flat_get (hf:∀ x,(f x).length=size) (l:List α) (i:Nat) (x:α) (hx:l[i]?=some x):((l.flatMap f).drop (i * size)).take size=f x:=by
 obtain ⟨_,h2⟩:=flat_split hf l i;have hi:=(yE.1 hx).1;rw [h2,jHa hi,jO,(yE.1 hx).2,kEa (by rw [hf];exact jBb _),jFa (by rw [hf];exact jBb _)]
theorem Qu {m:PH} {e:TypeId} {X n c:Nat} {l:List α} (hf:∀ x,(f x).length=size) (hO:OwnP m e size (.slice (some ⟨X,0,none⟩) n c) n (l.flatMap f)) {i:Nat} {x:α} (hx:l[i]?=some x):Cells m X (i * size) (f x):=by
 have hi:=(yE.1 hx).1;have hn:0<n\/size=0:=by
  have:=hO.1;rw [Zh hf] at this;rcases kMb n with h|h
  . subst h
    rw [qAa] at this;rcases Nat.mul_eq_zero.1 this with h2|h2
    . omega
    . exact .inr h2
  . exact .inl h
 rcases hn with hn|hn
 . obtain ⟨g,hg,hc⟩:=hO.cells hn
   injection hg with hg
   injection hg with hg
   subst hg
   have:=hc.part (i * size) size;rw [flat_get hf l i x hx,jR] at this;exact this
 . subst hn
   have:f x=[]:=jJa (hf x);rw [this];intro j v hj;simp at hj
end
end
end Go.Proofs.YtidamcdklgfogaaGreatDoor
