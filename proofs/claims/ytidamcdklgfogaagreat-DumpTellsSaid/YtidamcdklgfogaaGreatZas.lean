import Derived.Test.YtidamcdklgfogaaGreatZab
import Derived.Test.YtidamcdklgfogaaGreatZar
import Derived.BigFrame
set_option linter.unusedSimpArgs false
set_option linter.unusedVariables false
set_option maxRecDepth 100000
set_option maxHeartbeats 4000000
namespace Go.Proofs.YtidamcdklgfogaaGreat
section
open Go.RowKit
theorem rep_list (z:Array Value) (hz:0<z.size):∀ n:Nat,(List.range (n * z.size)).map (fun i=>z[i % z.size]!)=(List.range n).flatMap fun _=>z.toList
 | 0=>by simp
 | n+1=>by
   rw [Nat.succ_mul,List.range_add,List.map_append,rep_list z hz n,List.range_succ,List.flatMap_append]
   congr 1
   rw [List.flatMap_cons,List.flatMap_nil,List.append_nil,List.map_map]
   apply List.ext_getElem
   · simp
   · intro i h1 h2
     have hi:i<z.size:=by simpa using h2
     have e:(n * z.size+i) % z.size=i:=by rw [Nat.mul_comm,Nat.mul_add_mod,Nat.mod_eq_of_lt hi]
     simp [e,hi]
theorem made_rep (z:Array Value) (hz:0<z.size) (n:Nat):(madeCells z (n * z.size)).toList=(List.range n).flatMap fun _=>z.toList:=by
 unfold madeCells
 rw [Array.toList_map,Array.toList_range]
 exact rep_list z hz n
theorem zero_rep (z:Array Value) (hz:0<z.size) (n:Nat):(Builtin.zeroCells z n).toList=(List.range n).flatMap fun _=>z.toList:=by
 unfold Builtin.zeroCells
 rw [Array.toList_map,Array.toList_range]
 exact rep_list z hz n
section
variable {P:Program} {o:Oper} {a:Act} {w E:World} {K:Act→World→Prop} {Q:Exit→Act→World→Prop} {I:PH} {ms:List PH}
theorem wp_clrO (hS:Sat E I ms w) (k:Nat) {m:PH} (hm:ms[k]?=some m) {x:Operand} {t e:TypeId} (ho:o.op=.call { callee:=.builtin .clear,args := #[x],argTypes := #[t] }) (ht:P.underlying t=some (.slice e))
  {z:Value} (hz:∀ w,(zeroValue e).run P w=.ok z w) {X n c size:Nat} {xs:List Value} (hzs:z.cells.size=size) (hsz:0<size) (h1:∀ u ∈ z.cells.toList,u.oneCell'=true) (hx:a.eval x=.slice (some ⟨X,0,none⟩) n c) (hO:OwnP m e size (.slice (some ⟨X,0,none⟩) n c) n xs) (hn:0<n)
  (h:∀ m' w',OwnP m' e size (.slice (some ⟨X,0,none⟩) n c) n ((List.range n).flatMap fun _=>z.cells.toList)→Sat E I (ms.set k m') w'→K (a.put o.dst (.tuple #[])) w'):o.wp P a w K Q:=by
 subst hzs
 have hlen:((List.range n).flatMap fun _=>z.cells.toList).length=n * z.cells.size:=by
  rw [Zq (size:=z.cells.size) (fun _=>by simp)];simp
 rcases hO.2 with ⟨h0,_⟩|⟨g,cap,cur,hvs,rfl,hnc,hcm,hcs,htk⟩
 · cases h0
 · injection hvs with hA _ hC
   injection hA with hA
   injection hA with hA
   subst hA hC
   have hns:n * z.cells.size≤c * z.cells.size:=Nat.mul_le_mul_right _ hnc
   have h0:=hS.perm (Ku k hm)
   have hg:=h0.own _ (.head _) X _ (PH.one_self _ _)
   generalize hL:(List.range n).flatMap (fun _=>z.cells.toList)=L at *
   have hst:=run_storeCells_at (P:=P) X 0 e L 0 cur w hg (by rw [hlen];simp only [Nat.zero_add];exact Nat.le_trans hns hcs) (fun v hv=>by
    rw [← hL] at hv
    obtain ⟨_,_,hv⟩:=List.mem_flatMap.1 hv
    exact h1 v hv)
   obtain ⟨k',rfl⟩:∃ k',n=k'+1:=⟨n - 1,by omega⟩
   have hcl:∀ ty,(Builtin.clear_ #[t] ty #[.slice (some ⟨X,0,none⟩) (k'+1) c]).run P w=.ok (.tuple #[]) (w.setRow X (L ++ cur.toList.drop L.length).toArray):=fun ty=>by
    simp [Builtin.clear_,run_underlying ht,hz,zero_rep _ hsz,hL,hst]
   unfold Oper.wp execOp
   simp only [ho,resolve,invoke,builtin,Sem.run_bind,Sem.run_pure,Result.andThen_ok,List.map_toArray,List.map_cons,List.map_nil,hx,hcl]
   refine h (PH.one X (.cells (L ++ cur.toList.drop L.length).toArray e)) _ ⟨hlen,.inr ⟨X,c,_,rfl,rfl,hnc,hcm,?_,?_⟩⟩ ((setRow_step h0).perm (Zd k hm))
   · simp only [List.size_toArray,yG,List.length_drop]
     rw [hlen]
     have:c * z.cells.size≤cur.toList.length:=by simpa using hcs
     omega
   · simp only
     rw [List.take_append_of_le_length (by omega),List.take_of_length_le (by omega)]
end
section
variable {P:Program} {o:Oper} {a:Act} {w E:World} {Q:Exit→Act→World→Prop} {I:PH} {ms:List PH} {ops:Array Oper} {rest:List Oper}
theorem clrO (k:Nat) (hS:Sat E I ms w) (hg:o.guard=none) {m:PH} (hm:ms[k]?=some m) {x:Operand} {t e:TypeId} (ho:o.op=.call { callee:=.builtin .clear,args := #[x],argTypes := #[t] }) (ht:P.underlying t=some (.slice e))
  {z:Value} (hz:∀ w,(zeroValue e).run P w=.ok z w) {X n c size:Nat} {xs:List Value} (hzs:z.cells.size=size) (hsz:0<size) (h1:∀ u ∈ z.cells.toList,u.oneCell'=true) (hx:a.eval x=.slice (some ⟨X,0,none⟩) n c) (hO:OwnP m e size (.slice (some ⟨X,0,none⟩) n c) n xs) (hn:0<n)
  (h:∀ m' w',OwnP m' e size (.slice (some ⟨X,0,none⟩) n c) n ((List.range n).flatMap fun _=>z.cells.toList)→Sat E I (ms.set k m') w'→wpList P ops Q rest (a.put o.dst (.tuple #[])) w'):wpList P ops Q (o::rest) a w :=
 wpList_plain hg fun _ hK=>wp_clrO hS k hm ho ht hz hzs hsz h1 hx hO hn fun m' w' h2 h3=>hK _ _ (h m' w' h2 h3)
theorem clrO0 (hg:o.guard=none) {x:Operand} {t e:TypeId} (ho:o.op=.call { callee:=.builtin .clear,args := #[x],argTypes := #[t] }) (ht:P.underlying t=some (.slice e)) {n c:Nat} (hx:a.eval x=.slice none n c)
  (h:wpList P ops Q rest (a.put o.dst (.tuple #[])) w):wpList P ops Q (o::rest) a w :=
 wpList_plain hg fun _ hK=>by
  have hcl:∀ ty,(Builtin.clear_ #[t] ty #[.slice none n c]).run P w=.ok (.tuple #[]) w:=fun ty=>by
   simp [Builtin.clear_,run_underlying ht]
  unfold Oper.wp execOp
  simp only [ho,resolve,invoke,builtin,Sem.run_bind,Sem.run_pure,Result.andThen_ok,List.map_toArray,List.map_cons,List.map_nil,hx,hcl]
  exact hK _ _ h
end
theorem isClearO {P:Program} {a:Act} {w:World} {Q:Exit→Act→World→Prop} {ops:Array Oper} {rest:List Oper} {dst:Option Tmp} {type:TypeId} {pos:String} {after:Array Edge} {x:Operand} {t:TypeId} (h:wpList P ops Q (⟨dst,.call { callee:=.builtin .clear,args := #[x],argTypes := #[t] },type,pos,after,none⟩::rest) a w):wpList P ops Q (⟨dst,.call { callee:=.builtin .clear,args := #[x],argTypes := #[t] },type,pos,after,none⟩::rest) a w:=h
theorem ent_info:(Tryz.prog.info? 211).map (fun i=>(i.zero,i.size,i.bytes))=some (some (.agg #[.int .i64 0,.int .i64 0,.int .i64 0,.int .i64 0,.int .i64 0,.bool false]),6,48):=by kernel_rfl
abbrev entV (op a b d r:Nat):Value:=.agg #[nv op,nv a,nv b,nv d,nv r,.bool true]
theorem ent_one (op a b d r:Nat):∀ u ∈ (Value.cells (entV op a b d r)).toList,u.oneCell'=true:=by simp [Value.cells,Value.oneCell']
theorem memo_set (n:Nat) (me:Nat→Option G.Me) (ix:Nat) (hix:ix<n) (e:G.Me):spl ((List.range n).flatMap fun i=>meC (me i)) (ix * 6) (meC (some e))=(List.range n).flatMap fun i=>meC (if i=ix then some e else me i):=by
 have h:∀ f:Nat→Option G.Me,((List.range n).flatMap fun i=>meC (f i))=((List.range n).map f).flatMap meC:=fun f=>by rw [List.flatMap_map]
 rw [h,h,flat_set meC_len _ ix (by simpa using hix)]
 congr 1
 apply List.ext_getElem?
 intro j
 rw [List.getElem?_set]
 by_cases e1:ix=j
 · subst e1
   rw [if_pos rfl,if_pos (by simpa using hix),List.getElem?_map,List.getElem?_range hix]
   simp
 · rw [if_neg e1,List.getElem?_map,List.getElem?_map]
   rcases Nat.lt_or_ge j n with h1|h1
   · rw [List.getElem?_range h1]
     simp [Ne.symm e1]
   · rw [List.getElem?_eq_none (by simpa using h1)];rfl
theorem put_eq (me:G.Memo) (op a b d r:Nat):me.put op a b d r=fun i=>if i=G.placeH op a b d then some ⟨op,a,b,d,r⟩ else me i:=rfl
theorem MeFit.put {me:G.Memo} (h:MeFit me) {op a b d r:Nat} (h0:op<4611686018427387904) (h1:a<4611686018427387904) (h2:b<4611686018427387904) (h3:d<4611686018427387904) (h4:r<4611686018427387904):MeFit (me.put op a b d r):=fun i e he=>by
 unfold G.Memo.put at he
 split at he
 · injection he with he;subst he;exact ⟨h0,h1,h2,h3,h4⟩
 · exact h i e he
theorem MeFit.none:MeFit G.Memo.none:=fun i e h=>by cases h
theorem mput_row {E w:World} {I mE:PH} {ms:List PH} {X A c ix:Nat} {ak fd:Int} {xs:List Value} (op a b d r:Nat) (hix:ix<4096) (hO:OwnP mE 211 6 (.slice (some ⟨A,0,none⟩) 4096 c) 4096 xs)
  (HPl:Hid (∀ W:World,(Qa W).at X 1=some (.slice (some ⟨A,0,none⟩) 4096 c)→Calls Tryz.prog 136 #[vPt X,keyV op a b d] W fun e w'=>e=.returned (.pointer (some ⟨A,ix * 6,none⟩))∧Below W.heap.size W w'))
  (hS:Sat E I (PH.one X (.cells #[.int .i64 4096,.slice (some ⟨A,0,none⟩) 4096 c,.int .i64 ak,.int .i64 fd] 184)::mE::ms) w) :
  Calls Tryz.prog 108 #[vPt X,nv op,nv a,nv b,nv d,nv r] w fun e' w'=>e'=.returned (.tuple #[])∧∃ mE',OwnP mE' 211 6 (.slice (some ⟨A,0,none⟩) 4096 c) 4096 (spl xs (ix * 6) (entV op a b d r).cells.toList)∧Sat E I (PH.one X (.cells #[.int .i64 4096,.slice (some ⟨A,0,none⟩) 4096 c,.int .i64 ak,.int .i64 fd] 184)::mE'::ms) w':=by
 have HO:=yH hO
 clear hO
 have hnil:∀ W:World,(binOp .eql 182 (.slice (some ⟨A,0,none⟩) 4096 c) (.slice none 0 0)).run Tryz.prog W=.ok (.bool false) W:=fun _=>by kernel_rfl
 go_enter Tryz.func108,Tryz.ntmps108
 go_wp2_with (first|((with_reducible refine Qc ?_);first|((with_reducible refine Ql 12 ?_);(refine' al (z:=_) hS rfl rfl ?ha ?_);(case ha=>exact ty_z207);clear hS;intro X12 w hS;(try simp only [Value.cells] at hS);(try simp only [Act.put,zE,zF,zG]))|((with_reducible refine Qb ?_);( (refine ld1 0 hS rfl rfl ?ha rfl rfl rfl ?_;(case ha =>  exact Yu)) );(try simp only [Act.put,zE,zF,zG]))|((with_reducible refine Qn ?_);( (refine stN 0 hS rfl rfl rfl rfl rfl ?ha rfl rfl ?_;(case ha=>exact Yo)) );clear hS;intro w hS;(try simp only [zG,Act.eval,zD,zC,zA,zB,zJ,Value.cells] at hS);(try simp only [Act.put])) ))
 · obtain ⟨I1,_,lK,hS1,bK⟩:=hS.ice
   obtain ⟨I2,l2,lX,hS2,bX⟩:=hS1.ice
   have iX:I2.at X 1=some (.slice (some ⟨A,0,none⟩) 4096 c):=PH.at_le lX (Qk rfl)
   have iK:Cells I2 X12 0 [nv op,nv a,nv b,nv d]:=(Cells.one X12 #[nv op,nv a,nv b,nv d] 207 (0,0)).le (lK.trans l2)
   clear lK lX hS1 hS
   refine Qx [[],[],[0,1],[],[],[3,4],[0,1,2,3,4,5],[0,1,2,3,4,5,6]] E I2 _
    [fun v _=>v=vPt X,fun v _=>v=keyV op a b d,fun v _=>v=.pointer (some ⟨A,ix * 6,none⟩),fun v _=>v=keyV op a b d,fun v _=>v=nv r,fun v _=>v=entV op a b d r,fun v _=>v=.pointer (some ⟨A,ix * 6,none⟩),fun _ _=>True] [7]
    (set1G _ 0 (fun m'=>OwnP m' 211 6 (.slice (some ⟨A,0,none⟩) 4096 c) 4096 (spl xs (ix * 6) (entV op a b d r).cells.toList))) (by kernel_rfl) (by kernel_rfl) (by decide) hS2 rfl ?last (fun _ _ _ _ _ _ h=>h) (fun _ _ _ _ _ _ h=>h) ?plain ?step ?fin
   case last=>repeat (first|exact Lasting.nil|refine Lasting.cons (fun _ _ _ _ h=>h) ?_)
   case plain=>(repeat' (first|exact trivial|apply And.intro)) <;> first|exact .inl rfl|(refine .inr ?_;intro s vals J bs w hstop hg hJ hS hG;clear hG;simp only [zH,zI,Given,Facts] at hg;simp only [Qd,Qh,Qe,Qj,zH,zI,zA,zB,zK,if_true,Act.put,zE,zF,zG,hg];refine ⟨?_⟩;refine Qg (fun K hK=>?_);have HK:=yH hK;clear hK;rw [if_pos (by rfl)];(first|((with_reducible refine Qs ?_);first|((refine' wp_ldiN (vs:=_) hS hJ ?ha rfl ?hc ?hb ?_);(case ha=>first|exact ty_agg207);(case hc=>assumption);(case hb=>first|exact Yo)))|(go_wp2_with (first|(go_at_call 136;(with_reducible refine yI (HPl.out _ (PH.at_le (PH.le.trans hJ hS.ile) iX)) ?_);rintro e w2 ⟨rfl,hb2⟩;have hS2:=hS.below_ hb2;clear hS hb2;have hS:=hS2;clear hS2))));refine HK.out _ _ ⟨rfl,J,PH.le.refl _,hS,?_⟩;clear HK;simp only [Facts];simp only [Qo,zH,zI,Act.put,zE,zF,zG,zD,zC,zA,zB,zJ])
   case step =>
    refine ⟨trivial,?_⟩
    intro vals J bs w hg hJ hS hG
    have hG:bs=_:=hG
    subst hG
    simp only [zH,zI,Given,Facts] at hg;simp only [Qd,Qh,Qe,Qj,zH,zI,zA,zB,zK,if_true,Act.put,zE,zF,zG,hg];refine ⟨?_⟩;refine Qg (fun K hK=>?_);have HK:=yH hK;clear hK;rw [if_pos (by rfl)]
    refine Xr (i:=ix) hS 0 rfl rfl rfl rfl HO.out rfl hix ty_sz211 rfl (ent_one _ _ _ _ _) fun m' w hO' hS=>?_
    exact HK.out _ _ ⟨rfl,J,_,PH.le.refl _,hS,trivial,m',hO',rfl⟩
   case fin =>
    intro vals J bs w hJ hg hS hG
    obtain ⟨m1,hO1,hns⟩:=hG
    subst hns
    have hS:=hS.less hJ
    simp only [zG] at hS
    have hS:=bK _ _ (bX _ _ hS)
    have HO1:=yH hO1
    clear hO1 bX bK
    simp only [yB,yC,Nat.reduceAdd,Below_,Facts,zH,zI,true_and,and_true] at hg;simp only [yB,yC,Nat.reduceAdd,Qd,Qh,Qe,zA,zB,zK,if_true,Act.put,zE,zF,zG,hg];refine ⟨?_⟩
    clear hg
    go_wp2_with (fail)
    go_end0
    exact ⟨rfl,m1,HO1.out,hS.drop⟩
theorem mput_new {E w:World} {I:PH} {ms:List PH} {X ix:Nat} {ak fd:Int} (op a b d r:Nat) (hix:ix<4096)
  (HPl:Hid (∀ (W:World) (A:Nat),(Qa W).at X 1=some (.slice (some ⟨A,0,none⟩) 4096 4096)→Calls Tryz.prog 136 #[vPt X,keyV op a b d] W fun e w'=>e=.returned (.pointer (some ⟨A,ix * 6,none⟩))∧Below W.heap.size W w'))
  (hS:Sat E I (PH.one X (.cells #[.int .i64 4096,.slice none 0 0,.int .i64 ak,.int .i64 fd] 184)::ms) w) :
  Calls Tryz.prog 108 #[vPt X,nv op,nv a,nv b,nv d,nv r] w fun e' w'=>e'=.returned (.tuple #[])∧∃ A mE',OwnP mE' 211 6 (.slice (some ⟨A,0,none⟩) 4096 4096) 4096 (spl ((List.range 4096).flatMap fun _=>meC none) (ix * 6) (entV op a b d r).cells.toList)∧Sat E I (PH.one X (.cells #[.int .i64 4096,.slice (some ⟨A,0,none⟩) 4096 4096,.int .i64 ak,.int .i64 fd] 184)::mE'::ms) w':=by
 obtain ⟨xs,hxs⟩:∃ xs,xs=((List.range 4096).flatMap fun _=>meC none):=⟨_,rfl⟩
 rw [← hxs]
 have HX:=yH hxs
 clear hxs
 have hnil:∀ W:World,(binOp .eql 182 (.slice none 0 0) (.slice none 0 0)).run Tryz.prog W=.ok (.bool true) W:=fun _=>by kernel_rfl
 go_enter Tryz.func108,Tryz.ntmps108
 go_wp2_with (first|((with_reducible refine isMake ?_);refine mks (n:=4096) (m:=4096) hS rfl rfl Tryz.underlying182 ent_info rfl rfl rfl rfl (Nat.le_refl _) (by omega) (by omega) ?_;clear hS;intro A w hS;generalize hmc:madeCells _ _=mc at hS;have HM:=yH hmc;clear hmc;(try simp only [Act.put,zE,zF,zG]))|((with_reducible refine Qc ?_);first|((with_reducible refine Ql 12 ?_);(refine' al (z:=_) hS rfl rfl ?ha ?_);(case ha=>exact ty_z207);clear hS;intro X12 w hS;(try simp only [Value.cells] at hS);(try simp only [Act.put,zE,zF,zG]))|((with_reducible refine Qb ?_);( (refine ld1 0 hS rfl rfl ?ha rfl rfl rfl ?_;(case ha=>first|exact Qf|exact Yu)) );(try simp only [Act.put,zE,zF,zG]))|((with_reducible refine Qn ?_);(first|(refine st1 1 hS rfl rfl rfl rfl rfl ?ha rfl rfl ?hb ?_;(case ha=>exact ty_sz182);(case hb=>(simp;done)))|(refine stN 0 hS rfl rfl rfl rfl rfl ?ha rfl rfl ?_;(case ha=>exact Yo)) );clear hS;intro w hS;(try simp only [zF,zG,zE,Act.eval,zD,zC,zA,zB,zJ,Value.cells] at hS);(try simp only [Act.put])) ))
 · have HPl:=yH (fun W hX=>HPl.out W A hX)
   have hO:OwnP (PH.one A (.cells mc 211)) 211 6 (.slice (some ⟨A,0,none⟩) 4096 4096) 4096 mc.toList:=OwnP.lit A _ 6 4096 mc (by unfold maxLen;omega) (by rw [← HM.out,size_madeCells])
   have hmc2:mc.toList=xs:=by
    rw [← HM.out,HX.out]
    exact made_rep #[.int .i64 0,.int .i64 0,.int .i64 0,.int .i64 0,.int .i64 0,.bool false] (by decide) 4096
   rw [hmc2] at hO
   clear HX
   generalize hmE:PH.one A (.cells mc 211)=mE at *
   have HO:=yH hO
   clear hO HM hmc2 hmE
   obtain ⟨I1,_,lK,hS1,bK⟩:=hS.ice
   obtain ⟨I2,l2,lX,hS2,bX⟩:=(hS1.perm (Ku 1 rfl)).ice
   simp only [List.eraseIdx_cons_succ,List.eraseIdx_cons_zero] at hS2
   have iX:I2.at X 1=some (.slice (some ⟨A,0,none⟩) 4096 4096):=PH.at_le lX (Qk rfl)
   have iK:Cells I2 X12 0 [nv op,nv a,nv b,nv d]:=(Cells.one X12 #[nv op,nv a,nv b,nv d] 207 (0,0)).le (lK.trans l2)
   clear lK lX hS1 hS
   refine Qx [[],[],[0,1],[],[],[3,4],[0,1,2,3,4,5],[0,1,2,3,4,5,6]] E I2 _
    [fun v _=>v=vPt X,fun v _=>v=keyV op a b d,fun v _=>v=.pointer (some ⟨A,ix * 6,none⟩),fun v _=>v=keyV op a b d,fun v _=>v=nv r,fun v _=>v=entV op a b d r,fun v _=>v=.pointer (some ⟨A,ix * 6,none⟩),fun _ _=>True] [7]
    (set1G _ 0 (fun m'=>OwnP m' 211 6 (.slice (some ⟨A,0,none⟩) 4096 4096) 4096 (spl xs (ix * 6) (entV op a b d r).cells.toList))) (by kernel_rfl) (by kernel_rfl) (by decide) hS2 rfl ?last (fun _ _ _ _ _ _ h=>h) (fun _ _ _ _ _ _ h=>h) ?plain ?step ?fin
   case last=>repeat (first|exact Lasting.nil|refine Lasting.cons (fun _ _ _ _ h=>h) ?_)
   case plain=>(repeat' (first|exact trivial|apply And.intro)) <;> first|exact .inl rfl|(refine .inr ?_;intro s vals J bs w hstop hg hJ hS hG;clear hG;simp only [zH,zI,Given,Facts] at hg;simp only [Qd,Qh,Qe,Qj,zH,zI,zA,zB,zK,if_true,Act.put,zE,zF,zG,hg];refine ⟨?_⟩;refine Qg (fun K hK=>?_);have HK:=yH hK;clear hK;rw [if_pos (by rfl)];(first|((with_reducible refine Qs ?_);first|((refine' wp_ldiN (vs:=_) hS hJ ?ha rfl ?hc ?hb ?_);(case ha=>first|exact ty_agg207);(case hc=>assumption);(case hb=>first|exact Yo)))|(go_wp2_with (first|(go_at_call 136;(with_reducible refine yI (HPl.out _ (PH.at_le (PH.le.trans hJ hS.ile) iX)) ?_);rintro e w2 ⟨rfl,hb2⟩;have hS2:=hS.below_ hb2;clear hS hb2;have hS:=hS2;clear hS2))));refine HK.out _ _ ⟨rfl,J,PH.le.refl _,hS,?_⟩;clear HK;simp only [Facts];simp only [Qo,zH,zI,Act.put,zE,zF,zG,zD,zC,zA,zB,zJ])
   case step =>
    refine ⟨trivial,?_⟩
    intro vals J bs w hg hJ hS hG
    have hG:bs=_:=hG
    subst hG
    simp only [zH,zI,Given,Facts] at hg;simp only [Qd,Qh,Qe,Qj,zH,zI,zA,zB,zK,if_true,Act.put,zE,zF,zG,hg];refine ⟨?_⟩;refine Qg (fun K hK=>?_);have HK:=yH hK;clear hK;rw [if_pos (by rfl)]
    refine Xr (i:=ix) hS 0 rfl rfl rfl rfl HO.out rfl hix ty_sz211 rfl (ent_one _ _ _ _ _) fun m' w hO' hS=>?_
    exact HK.out _ _ ⟨rfl,J,_,PH.le.refl _,hS,trivial,m',hO',rfl⟩
   case fin =>
    intro vals J bs w hJ hg hS hG
    obtain ⟨m1,hO1,hns⟩:=hG
    subst hns
    have hS:=hS.less hJ
    simp only [zG] at hS
    have hS:=bK _ _ (bX _ _ hS)
    have HO1:=yH hO1
    clear hO1 bX bK
    simp only [yB,yC,Nat.reduceAdd,Below_,Facts,zH,zI,true_and,and_true] at hg;simp only [yB,yC,Nat.reduceAdd,Qd,Qh,Qe,zA,zB,zK,if_true,Act.put,zE,zF,zG,hg];refine ⟨?_⟩
    clear hg
    go_wp2_with (fail)
    go_end0
    exact ⟨rfl,A,m1,HO1.out,hS.drop⟩
theorem mput_any {E w:World} {I p:PH} {ms:List PH} {X:Nat} {me:G.Memo} (op a b d r:Nat) (h0:op<4611686018427387904) (h1:a<4611686018427387904) (h2:b<4611686018427387904) (h3:d<4611686018427387904) (h4:r<4611686018427387904) (hA:Yj X me p) (hS:Sat E I (p::ms) w) :
  Calls Tryz.prog 108 #[vPt X,nv op,nv a,nv b,nv d,nv r] w fun e w'=>e=.returned (.tuple #[])∧∃ p',Yj X (me.put op a b d r) p'∧Sat E I (p'::ms) w':=by
 obtain ⟨hf,vE,mE,ak,fd,hbd,hcase⟩:=hA
 replace hS:=Sat.unpack hbd hS
 simp only [List.cons_append,List.nil_append] at hS
 have hfit:=hf.put h0 h1 h2 h3 h4
 have hlt:=placeH_lt op a b d
 have hpl:=fun (W:World) (A c:Nat) (hX:(Qa W).at X 1=some (.slice (some ⟨A,0,none⟩) 4096 c))=>place_any hX op a b d h0 h1 h2 h3
 have hput:=put_eq me op a b d r
 have fin:∀ (A c:Nat) (mE':PH) (w':World),OwnP mE' 211 6 (.slice (some ⟨A,0,none⟩) 4096 c) 4096 (spl ((List.range 4096).flatMap fun i=>meC (me i)) (G.placeH op a b d * 6) (entV op a b d r).cells.toList)→Sat E I (PH.one X (.cells #[.int .i64 4096,.slice (some ⟨A,0,none⟩) 4096 c,.int .i64 ak,.int .i64 fd] 184)::mE'::ms) w'→∃ p',Yj X (me.put op a b d r) p'∧Sat E I (p'::ms) w':=fun A c mE' w' hO h=>by
  obtain ⟨q,hb,hq⟩:=Sat.pack [PH.one X (.cells #[.int .i64 4096,.slice (some ⟨A,0,none⟩) 4096 c,.int .i64 ak,.int .i64 fd] 184),mE'] h
  refine ⟨q,⟨hfit,_,mE',ak,fd,hb,.inr ⟨A,c,rfl,?_⟩⟩,hq⟩
  rw [hput]
  have:=memo_set 4096 me (G.placeH op a b d) hlt ⟨op,a,b,d,r⟩
  rw [← this]
  exact hO
 rcases hcase with ⟨rfl,rfl,rfl⟩|⟨A,c,rfl,hO⟩
 · have hn:((List.range 4096).flatMap fun i=>meC (G.Memo.none i))=(List.range 4096).flatMap fun _=>meC none:=rfl
   rw [hn] at fin
   refine (mput_new op a b d r hlt (yH fun W A hX=>hpl W A 4096 hX) ((hS.perm (List.Perm.swap _ _ _)).drop)).mono ?_
   rintro e w ⟨rfl,A,mE',hO,hS⟩
   exact ⟨rfl,fin _ _ _ _ hO hS⟩
 · refine (mput_row op a b d r hlt hO (yH fun W hX=>hpl W A c hX) hS).mono ?_
   rintro e w ⟨rfl,mE',hO,hS⟩
   exact ⟨rfl,fin _ _ _ _ hO hS⟩
theorem ent_zero (w:World):(zeroValue 211).run Tryz.prog w=.ok (.agg #[.int .i64 0,.int .i64 0,.int .i64 0,.int .i64 0,.int .i64 0,.bool false]) w:=by kernel_rfl
theorem ent_z1:∀ u ∈ (Value.cells (.agg #[.int .i64 0,.int .i64 0,.int .i64 0,.int .i64 0,.int .i64 0,.bool false])).toList,u.oneCell'=true:=by simp [Value.cells,Value.oneCell']
theorem mclear_any {E w:World} {I p:PH} {ms:List PH} {X:Nat} {me:G.Memo} (hA:Yj X me p) (hS:Sat E I (p::ms) w) :
  Calls Tryz.prog 122 #[vPt X] w fun e w'=>e=.returned (.tuple #[])∧∃ p',Yj X G.Memo.none p'∧Sat E I (p'::ms) w':=by
 obtain ⟨hf,vE,mE,ak,fd,hbd,hcase⟩:=hA
 have hpack:=fun (w':World) (h:Sat E I (p::ms) w')=>h
 have hbd2:=hbd
 replace hS:=Sat.unpack hbd hS
 simp only [List.cons_append,List.nil_append] at hS
 rcases hcase with ⟨rfl,rfl,rfl⟩|⟨A,c,rfl,hO⟩
 · clear hf hbd hbd2 hpack
   go_enter Tryz.func122,Tryz.ntmps122
   go_wp2_with (first|((with_reducible refine isClearO ?_);refine clrO0 rfl rfl Tryz.underlying182 rfl ?_;(try simp only [Act.put]))|((with_reducible refine Qc ?_);first|((with_reducible refine Qb ?_);( (refine ld1 0 hS rfl rfl ?ha rfl rfl rfl ?_;(case ha=>exact Yu)) );(try simp only [Act.put,zE,zF,zG]))))
   go_end0
   obtain ⟨q,hb,hq⟩:=Sat.pack [PH.one X (.cells #[.int .i64 4096,.slice none 0 0,.int .i64 ak,.int .i64 fd] 184),(fun _=>none:PH)] hS
   exact ⟨rfl,q,⟨MeFit.none,_,_,ak,fd,hb,.inl ⟨rfl,rfl,rfl⟩⟩,hq⟩
 · have HO:=yH hO
   clear hf hbd hbd2 hpack hO
   generalize hxs:((List.range 4096).flatMap fun i=>meC (me i))=xs at *
   clear hxs
   have hn:((List.range 4096).flatMap fun i=>meC (G.Memo.none i))=(List.range 4096).flatMap fun _=>(Value.cells (.agg #[.int .i64 0,.int .i64 0,.int .i64 0,.int .i64 0,.int .i64 0,.bool false])).toList:=rfl
   have HN:=yH hn
   clear hn
   generalize hys:((List.range 4096).flatMap fun i=>meC (G.Memo.none i))=ys at *
   have HY:=yH hys
   clear hys
   go_enter Tryz.func122,Tryz.ntmps122
   go_wp2_with (first|((with_reducible refine isClearO ?_);refine clrO (n:=4096) 1 hS rfl rfl rfl Tryz.underlying182 ent_zero rfl (by decide) ent_z1 rfl HO.out (by omega) ?_;rw [← HN.out];clear hS;intro m' w hO' hS;have HO':=yH hO';clear hO';(try simp only [zF,zG] at hS);(try simp only [Act.put]))|((with_reducible refine Qc ?_);first|((with_reducible refine Qb ?_);( (refine ld1 0 hS rfl rfl ?ha rfl rfl rfl ?_;(case ha=>exact Yu)) );(try simp only [Act.put,zE,zF,zG]))))
   go_end0
   obtain ⟨q,hb,hq⟩:=Sat.pack [PH.one X (.cells #[.int .i64 4096,.slice (some ⟨A,0,none⟩) 4096 c,.int .i64 ak,.int .i64 fd] 184),m'] hS
   refine ⟨rfl,q,⟨MeFit.none,_,_,ak,fd,hb,.inr ⟨A,c,rfl,?_⟩⟩,hq⟩
   rw [HY.out]
   exact HO'.out
end
end Go.Proofs.YtidamcdklgfogaaGreat
